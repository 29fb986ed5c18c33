/-
  Part of a proof: TyArr, Pa0.
-/
import Derived.Test.YtmdbmmmlccipdaaGreatDoorG8
import Derived.Test.YtmdbmmmlccipdaaGreatDoorG15
import Derived.Test.YtmdbmmmlccipdaaGreatDoorG16
set_option linter.unusedSimpArgs false
set_option linter.unusedVariables false
namespace Go.Ab
/-- 256 times false -/
def arr0 : List Value := List.replicate 256 (.bool false)
end Go.Ab
namespace Go.Proofs.YtmdbmmmlccipdaaGreatDoor
open Go.Ab
@[go_sem] theorem ty_394 : ty Tryz.prog 394 = some (true, 256) := by kernel_rfl
@[go_sem] theorem zer_394 : zer Tryz.prog 394 = some arr0 := by kernel_rfl
@[go_sem] theorem elm_394 : elm Tryz.prog 394 = none := by kernel_rfl
@[go_sem] theorem ael_394 : ael Tryz.prog 394 = some (256, 1) := by kernel_rfl
@[go_sem] theorem plc_394 : plc Tryz.prog 394 = none := by kernel_rfl
end Go.Proofs.YtmdbmmmlccipdaaGreatDoor
namespace Go.Dt
open Go.Ab
/-- the cells of a set of bytes -/
def hasC (h : Nat → Bool) : List AV := (List.range 256).map fun c => .v (.bool (h c))
@[go_sem] theorem hasC_len (h : Nat → Bool) : (hasC h).length = 256 := by simp only [hasC, List.length_map, List.length_range]
theorem hasC_at (h : Nat → Bool) {k : Nat} (hk : k < 256) : (hasC h)[k]? = some (.v (.bool (h k))) := by
  simp only [hasC, List.getElem?_map, List.getElem?_range hk, Option.map_some]
theorem hasC_drop (h : Nat → Bool) {k : Nat} (hk : k < 256) : (hasC h).drop k = .v (.bool (h k)) :: (hasC h).drop (k + 1) := by
  have hl : k < (hasC h).length := by rw [hasC_len]; exact hk
  rw [List.drop_eq_getElem_cons hl]
  have := hasC_at h hk
  rw [List.getElem?_eq_getElem hl] at this
  rw [Option.some.inj this]
@[go_sem] theorem hasC_head (h : Nat → Bool) {k : Nat} (hk : k < 256) : ((hasC h).drop k).head? = some (.v (.bool (h k))) := by rw [hasC_drop h hk]; rfl
@[go_sem] theorem hasC_set (h : Nat → Bool) {k : Nat} (hk : k < 256) (b : Bool) : (hasC h).take k ++ [.v (.bool b)] ++ (hasC h).drop (k + 1) = hasC (fun c => if c = k then b else h c) := by
  apply List.ext_getElem?
  intro i
  by_cases hi : i < 256
  · rw [hasC_at _ hi]
    by_cases e1 : i < k
    · rw [List.append_assoc, List.getElem?_append_left (by simp [hasC_len]; omega), List.getElem?_take, if_pos e1, hasC_at _ hi]
      rw [if_neg (by omega)]
    · by_cases e2 : i = k
      · subst e2
        rw [List.append_assoc, List.getElem?_append_right (by simp [hasC_len]; omega)]
        simp [hasC_len, Nat.min_eq_left (Nat.le_of_lt hi)]
      · rw [List.getElem?_append_right (by simp [hasC_len]; omega), List.getElem?_drop]
        simp only [List.length_append, List.length_take, hasC_len, List.length_cons, List.length_nil]
        rw [show k + 1 + (i - (min k 256 + (0 + 1))) = i by omega, hasC_at _ hi, if_neg e2]
  · rw [List.getElem?_eq_none (by simp [hasC_len]; omega), List.getElem?_eq_none (by rw [hasC_len]; omega)]
@[go_sem] theorem hasC_end (h : Nat → Bool) : (hasC h).drop 256 = [] := List.drop_of_length_le (by rw [hasC_len]; exact Nat.le_refl _)
@[go_sem] theorem hasC_take (h : Nat → Bool) : (hasC h).take 256 = hasC h := List.take_of_length_le (by rw [hasC_len]; exact Nat.le_refl _)
@[go_sem] theorem hasC_zero : arr0.map avz = hasC (fun _ => false) := by
  simp only [arr0, List.map_replicate, avz]
  apply List.ext_getElem?
  intro i
  by_cases hi : i < 256
  · rw [hasC_at _ hi, List.getElem?_replicate, if_pos hi]
  · rw [List.getElem?_eq_none (by rw [List.length_replicate]; omega), List.getElem?_eq_none (by rw [hasC_len]; omega)]
theorem nownL_map {α : Type} {f : α → AV} (h : ∀ x, (f x).nown = true) : ∀ l : List α, AV.nownL (l.map f) = true
  | [] => rfl
  | x :: xs => by simp only [List.map_cons, AV.nownL, h x, nownL_map h xs, Bool.and_self]
theorem frzL_mapI {α : Type} {f : α → AV} (h : ∀ x, (f x).frz = f x) : ∀ l : List α, AV.frzL (l.map f) = l.map f
  | [] => rfl
  | x :: xs => by simp only [List.map_cons, AV.frzL, h x, frzL_mapI h xs]
theorem closedL_map {α : Type} {f : α → AV} (h : ∀ x, (f x).closed = true) : ∀ l : List α, AV.closedL (l.map f) = true
  | [] => rfl
  | x :: xs => by simp only [List.map_cons, AV.closedL, h x, closedL_map h xs, Bool.and_self]
@[go_sem] theorem hasC_nown (h : Nat → Bool) : AV.nownL (hasC h) = true := nownL_map (fun _ => rfl) _
@[go_sem] theorem hasC_frz (h : Nat → Bool) : AV.frzL (hasC h) = hasC h := frzL_mapI (fun _ => rfl) _
@[go_sem] theorem hasC_one (h : Nat → Bool) : (hasC h).all AV.one = true := by
  simp only [hasC, List.all_map, List.all_eq_true]; intro x _; rfl
theorem keysL_map {α : Type} {f : α → AV} (h : ∀ x, (f x).keys = []) : ∀ l : List α, AV.keysL (l.map f) = []
  | [] => rfl
  | x :: xs => by simp only [List.map_cons, AV.keysL, h x, keysL_map h xs, List.append_nil]
@[go_sem] theorem hasC_keys (h : Nat → Bool) : AV.keysL (hasC h) = [] := keysL_map (fun _ => rfl) _
@[go_sem] theorem frz_pats (l : List GPat) : AV.frzL (l.map encPat) = l.map encPat := frzL_mapI (fun x => by rw [encPat_eq]; rfl) _
@[go_sem] theorem pats_elem (l : List GPat) : (l.map encPat).all (AV.elem 3) = true := map_all_elem (fun x => by rw [encPat_eq]; rfl) l
@[go_sem] theorem pats_one (l : List GPat) : ((l.map encPat).flatMap AV.cells).all AV.one = true := map_all_one (fun x => by rw [encPat_eq]; rfl) l
end Go.Dt
