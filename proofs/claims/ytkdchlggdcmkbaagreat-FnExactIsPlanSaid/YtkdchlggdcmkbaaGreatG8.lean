/-
  Part of a proof: TyArr, Pa0, Pt2.
-/
import Derived.Test.YtkdchlggdcmkbaaGreatG5
import Derived.Test.YtkdchlggdcmkbaaGreatG6
import Derived.Test.YtkdchlggdcmkbaaGreatG7
set_option linter.unusedSimpArgs false
set_option linter.unusedVariables false
namespace Go.Ab
/-- 256 times false -/
def arr0 : List Value := List.replicate 256 (.bool false)
end Go.Ab
namespace Go.Proofs.YtkdchlggdcmkbaaGreat
open Go.Ab
@[go_sem] theorem ty_310 : ty Tryz.prog 310 = some (true, 256) := by kernel_rfl
@[go_sem] theorem zer_310 : zer Tryz.prog 310 = some arr0 := by kernel_rfl
@[go_sem] theorem elm_310 : elm Tryz.prog 310 = none := by kernel_rfl
@[go_sem] theorem ael_310 : ael Tryz.prog 310 = some (256, 1) := by kernel_rfl
@[go_sem] theorem plc_310 : plc Tryz.prog 310 = none := by kernel_rfl
end Go.Proofs.YtkdchlggdcmkbaaGreat
namespace Go.Dt
open Go.Ab
/-- the cells of a set of bytes -/
def hasC (h : Nat → Bool) : List AV := (List.range 256).map fun c => .v (.bool (h c))
@[go_sem] theorem hasC_len (h : Nat → Bool) : (hasC h).length = 256 := by simp only [hasC, List.length_map, List.length_range]
theorem hasC_at (h : Nat → Bool) {k : Nat} (hk : k < 256) : (hasC h)[k]? = some (.v (.bool (h k))) := by
  simp only [hasC, List.getElem?_map, List.getElem?_range hk, Option.map_some]
theorem hasC_drop (h : Nat → Bool) {k : Nat} (hk : k < 256) : (hasC h).drop k = .v (.bool (h k)) :: (hasC h).drop (k + 1) := by
  have hl : k < (hasC h).length := by rw [hasC_len]; exact hk
  rw [List.drop_eq_getElem_cons hl]
  have := hasC_at h hk
  rw [List.getElem?_eq_getElem hl] at this
  rw [Option.some.inj this]
@[go_sem] theorem hasC_head (h : Nat → Bool) {k : Nat} (hk : k < 256) : ((hasC h).drop k).head? = some (.v (.bool (h k))) := by rw [hasC_drop h hk]; rfl
@[go_sem] theorem hasC_set (h : Nat → Bool) {k : Nat} (hk : k < 256) (b : Bool) : (hasC h).take k ++ [.v (.bool b)] ++ (hasC h).drop (k + 1) = hasC (fun c => if c = k then b else h c) := by
  apply List.ext_getElem?
  intro i
  by_cases hi : i < 256
  · rw [hasC_at _ hi]
    by_cases e1 : i < k
    · rw [List.append_assoc, List.getElem?_append_left (by simp [hasC_len]; omega), List.getElem?_take, if_pos e1, hasC_at _ hi]
      rw [if_neg (by omega)]
    · by_cases e2 : i = k
      · subst e2
        rw [List.append_assoc, List.getElem?_append_right (by simp [hasC_len]; omega)]
        simp [hasC_len, Nat.min_eq_left (Nat.le_of_lt hi)]
      · rw [List.getElem?_append_right (by simp [hasC_len]; omega), List.getElem?_drop]
        simp only [List.length_append, List.length_take, hasC_len, List.length_cons, List.length_nil]
        rw [show k + 1 + (i - (min k 256 + (0 + 1))) = i by omega, hasC_at _ hi, if_neg e2]
  · rw [List.getElem?_eq_none (by simp [hasC_len]; omega), List.getElem?_eq_none (by rw [hasC_len]; omega)]
@[go_sem] theorem hasC_end (h : Nat → Bool) : (hasC h).drop 256 = [] := List.drop_of_length_le (by rw [hasC_len]; exact Nat.le_refl _)
@[go_sem] theorem hasC_take (h : Nat → Bool) : (hasC h).take 256 = hasC h := List.take_of_length_le (by rw [hasC_len]; exact Nat.le_refl _)
@[go_sem] theorem hasC_zero : arr0.map avz = hasC (fun _ => false) := by
  simp only [arr0, List.map_replicate, avz]
  apply List.ext_getElem?
  intro i
  by_cases hi : i < 256
  · rw [hasC_at _ hi, List.getElem?_replicate, if_pos hi]
  · rw [List.getElem?_eq_none (by rw [List.length_replicate]; omega), List.getElem?_eq_none (by rw [hasC_len]; omega)]
theorem nownL_map {α : Type} {f : α → AV} (h : ∀ x, (f x).nown = true) : ∀ l : List α, AV.nownL (l.map f) = true
  | [] => rfl
  | x :: xs => by simp only [List.map_cons, AV.nownL, h x, nownL_map h xs, Bool.and_self]
theorem frzL_mapI {α : Type} {f : α → AV} (h : ∀ x, (f x).frz = f x) : ∀ l : List α, AV.frzL (l.map f) = l.map f
  | [] => rfl
  | x :: xs => by simp only [List.map_cons, AV.frzL, h x, frzL_mapI h xs]
@[go_sem] theorem hasC_nown (h : Nat → Bool) : AV.nownL (hasC h) = true := nownL_map (fun _ => rfl) _
@[go_sem] theorem hasC_frz (h : Nat → Bool) : AV.frzL (hasC h) = hasC h := frzL_mapI (fun _ => rfl) _
@[go_sem] theorem hasC_one (h : Nat → Bool) : (hasC h).all AV.one = true := by
  simp only [hasC, List.all_map, List.all_eq_true]; intro x _; rfl
theorem keysL_map {α : Type} {f : α → AV} (h : ∀ x, (f x).keys = []) : ∀ l : List α, AV.keysL (l.map f) = []
  | [] => rfl
  | x :: xs => by simp only [List.map_cons, AV.keysL, h x, keysL_map h xs, List.append_nil]
@[go_sem] theorem hasC_keys (h : Nat → Bool) : AV.keysL (hasC h) = [] := keysL_map (fun _ => rfl) _
@[go_sem] theorem frz_pats (l : List GPat) : AV.frzL (l.map encPat) = l.map encPat := frzL_mapI (fun x => by rw [encPat_eq]; rfl) _
@[go_sem] theorem pats_elem (l : List GPat) : (l.map encPat).all (AV.elem 3) = true := map_all_elem (fun x => by rw [encPat_eq]; rfl) l
@[go_sem] theorem pats_one (l : List GPat) : ((l.map encPat).flatMap AV.cells).all AV.one = true := map_all_one (fun x => by rw [encPat_eq]; rfl) l
end Go.Dt
namespace Go.Dt
open Go.Ab
mutual
def psz : GPat → Nat
  | .mk _ _ ks => 1 + pszL ks
def pszL : List GPat → Nat
  | [] => 0
  | x :: xs => psz x + pszL xs
end
theorem psz_eq (p : GPat) : psz p = 1 + pszL p.fKids := by cases p; simp [psz, GPat.fKids]
theorem take_at {α β : Type} [Inhabited α] {f : α → β} {l : List α} {k : Nat} (h : k < l.length) : (l.take (k + 1)).map f = (l.take k).map f ++ [f (at_ l k)] := by
  rw [List.take_add_one, List.map_append, at_get h]; rfl
theorem psz_at : ∀ {l : List GPat} {k : Nat}, k < l.length → psz (at_ l k) ≤ pszL l
  | [], _, h => by simp at h
  | x :: xs, 0, _ => by simp [at_, pszL]
  | x :: xs, k + 1, h => by
    have := psz_at (l := xs) (k := k) (by simpa using h)
    simp only [pszL]
    have e : at_ (x :: xs) (k + 1) = at_ xs k := by simp [at_]
    rw [e]; omega
end Go.Dt
namespace Go.Proofs.YtkdchlggdcmkbaaGreat
open Go.Ab Go.Dt
set_option maxRecDepth 20000
set_option maxHeartbeats 4000000

theorem copyPat_n : ∀ (n : Nat) (op : Int) (t : Str) (ks : List GPat), Ctr lim Tryz.prog 237 [] [.agg [.v (.int .i64 op), .str t, .sl false 3 (ks.map encPat)]] (.agg [.v (.int .i64 op), .str t, .sl false 3 (ks.map encPat)]) [] (pszL ks < n)
  | 0, op, t, ks => ⟨en237, fun h => absurd h (Nat.not_lt_zero _)⟩
  | n + 1, op, t, ks => by
    have ih := copyPat_n n
    refine Ctr.of_body en237 Tryz.func237 rfl rfl fun hp => (?_); rw [Tryz.ntmps237]
    refine AW.fact 0 fun hf => ?_
    simp (disch := omega) only [go_sem, Nat.reduceBEq] at hf
    (repeat' (first | (with_reducible first | refine Z ?_ | refine xO ?_ | refine Y ?_ | (refine hK _ _ ?_; clear hK K) | exact trivial | refine And.intro ?_ ?_) | (refine AW.i rfl (fun h => ?_) (fun h => ?_) <;> try simp only [hC, reduceCtorEq] at h) | with_reducible rfl | ((with_reducible refine E ?_); (with_reducible repeat refine Y ?_); refine eF rfl ?_) | (with_reducible refine fun (K : _ → _ → Prop) hK => ?_) | (with_reducible show drawOK _ _ = true; kernel_rfl) | (with_reducible refine gI fun hg => ?_; try simp only [hC, reduceCtorEq] at hg; try simp only [hg]) | simp (maxSteps := 2000000) (disch := omega) only [go_sem] | (with_reducible intro hg; try simp only [hC, reduceCtorEq] at hg) | (with_reducible show List.Nodup _; decide) | (with_reducible show (_ : Bool) = false; first | rfl | (simp [*]; done)) | with_reducible exact at8_le _ _ | with_reducible exact at8_ge _ _ | (simp only [hC, reduceCtorEq]; omega) | omega | with_reducible assumption | (with_reducible show (_ : Bool) = true; first | (simp [*]; done) | (simp only [hC, reduceCtorEq]; (repeat' (first | assumption | apply And.intro)); done))))
    rename_i b1 b2
    refine AW.loopV [3, 10] [1, 2, 8, 9] (fun m xs o => ∃ k : Nat, xs = [.sl true 3 ((ks.take k).map encPat), .v (.int .i64 k)] ∧ o = [(b2, some [.v (.int .i64 0), .str [], .v (.slice none 0 0)]), (b1, some [.v (.int .i64 op), .str t, .sl false 3 (ks.map encPat)])] ∧ m = ks.length - k ∧ k ≤ ks.length) ks.length [(b2, some [.v (.int .i64 0), .str [], .v (.slice none 0 0)]), (b1, some [.v (.int .i64 op), .str t, .sl false 3 (ks.map encPat)])] (subO_two (Ne.symm hg) rfl rfl) ⟨0, ?_, rfl, rfl, ?_⟩ ?_
    · rfl
    · omega
    rintro m xs o ⟨k, rfl, rfl, rfl, hk⟩
    have hq : k < ks.length → _ := psz_at (l := ks) (k := k)
    have hq2 := psz_eq (at_ ks k)
    have hlt : (ks.take k).length = k := by rw [List.length_take]; omega
    (repeat' (first | (with_reducible first | refine Z ?_ | refine xO ?_ | refine Y ?_ | (refine hK _ _ ?_; clear hK K) | exact trivial | refine And.intro ?_ ?_) | with_reducible rfl | ((with_reducible refine E ?_); (with_reducible repeat refine Y ?_); refine eF rfl ?_) | (with_reducible refine fun (K : _ → _ → Prop) hK => ?_) | (with_reducible show drawOK _ _ = true; kernel_rfl) | (with_reducible refine gI fun hg => ?_; try simp only [hC, reduceCtorEq] at hg; try simp only [hg]) | simp (maxSteps := 2000000) (disch := omega) only [go_sem] | (with_reducible intro hg; try simp only [hC, reduceCtorEq] at hg) | (with_reducible show List.Nodup _; decide) | (with_reducible show (_ : Bool) = false; first | rfl | (simp [*]; done)) | with_reducible exact at8_le _ _ | with_reducible exact at8_ge _ _ | (simp only [hC, reduceCtorEq]; omega) | omega | with_reducible assumption | (with_reducible show (_ : Bool) = true; first | (simp [*]; done) | (simp only [hC, reduceCtorEq]; (repeat' (first | assumption | apply And.intro)); done))))
    (refine AW.i rfl (fun h => ?_) (fun h => ?_) <;> try simp only [hC, reduceCtorEq] at h)
    · (repeat' (first | (with_reducible first | refine Z ?_ | refine xO ?_ | refine Y ?_ | (refine hK _ _ ?_; clear hK K) | exact trivial | refine And.intro ?_ ?_) | (refine AW.i rfl (fun h => ?_) (fun h => ?_) <;> try simp only [hC, reduceCtorEq] at h) | with_reducible rfl | ((with_reducible refine E ?_); (with_reducible repeat refine Y ?_); refine eF rfl ?_) | (with_reducible refine fun (K : _ → _ → Prop) hK => ?_) | (with_reducible show drawOK _ _ = true; kernel_rfl) | (with_reducible refine gI fun hg => ?_; try simp only [hC, reduceCtorEq] at hg; try simp only [hg]) | simp (maxSteps := 2000000) (disch := omega) only [go_sem] | (with_reducible intro hg; try simp only [hC, reduceCtorEq] at hg) | (with_reducible show List.Nodup _; decide) | (with_reducible show (_ : Bool) = false; first | rfl | (simp [*]; done)) | with_reducible exact at8_le _ _ | with_reducible exact at8_ge _ _ | (simp only [hC, reduceCtorEq]; omega) | omega | with_reducible assumption | (with_reducible show (_ : Bool) = true; first | (simp [*]; done) | (simp only [hC, reduceCtorEq]; (repeat' (first | assumption | apply And.intro)); done))))
      · refine ⟨_, [_, _], [(b2, some [.v (.int .i64 0), .str [], .v (.slice none 0 0)]), (b1, some [.v (.int .i64 op), .str t, .sl false 3 (ks.map encPat)])], by omega, ⟨k + 1, ?_, rfl, rfl, by omega⟩, rfl, by simp (maxSteps := 2000000) (disch := omega) only [go_sem]⟩
        rw [take_at (by assumption), encPat_eq]
    · refine AW.imp (Imp.frz 3 ?_)
      simp (maxSteps := 2000000) (disch := omega) only [go_sem]
      rw [show k = ks.length by omega, List.take_length]
      (repeat' (first | (with_reducible first | refine Z ?_ | refine xO ?_ | refine Y ?_ | (refine hK _ _ ?_; clear hK K) | exact trivial | refine And.intro ?_ ?_) | (refine AW.i rfl (fun h => ?_) (fun h => ?_) <;> try simp only [hC, reduceCtorEq] at h) | with_reducible rfl | ((with_reducible refine E ?_); (with_reducible repeat refine Y ?_); refine eF rfl ?_) | (with_reducible refine fun (K : _ → _ → Prop) hK => ?_) | (with_reducible show drawOK _ _ = true; kernel_rfl) | (with_reducible refine gI fun hg => ?_; try simp only [hC, reduceCtorEq] at hg; try simp only [hg]) | simp (maxSteps := 2000000) (disch := omega) only [go_sem] | (with_reducible intro hg; try simp only [hC, reduceCtorEq] at hg) | (with_reducible show List.Nodup _; decide) | (with_reducible show (_ : Bool) = false; first | rfl | (simp [*]; done)) | with_reducible exact at8_le _ _ | with_reducible exact at8_ge _ _ | (simp only [hC, reduceCtorEq]; omega) | omega | with_reducible assumption | (with_reducible show (_ : Bool) = true; first | (simp [*]; done) | (simp only [hC, reduceCtorEq]; (repeat' (first | assumption | apply And.intro)); done))))
instance copyPat_i (op : Int) (t : Str) (ks : List GPat) : Ctr lim Tryz.prog 237 [] [.agg [.v (.int .i64 op), .str t, .sl false 3 (ks.map encPat)]] (.agg [.v (.int .i64 op), .str t, .sl false 3 (ks.map encPat)]) [] True := ⟨en237, fun _ => (copyPat_n (pszL ks + 1) op t ks).out (by omega)⟩

/-- the bytes below i that are in a set -/
def clsU (h : Nat → Bool) (i : Nat) : Str := ((List.range i).filter h).map UInt8.ofNat
theorem clsU_step (h : Nat → Bool) (i : Nat) : clsU h (i + 1) = clsU h i ++ (if h i then [UInt8.ofNat i] else []) := by
  unfold clsU
  rw [List.range_succ, List.filter_append, List.map_append]
  congr 1
  cases e : h i <;> simp [e]
theorem clsU_le (h : Nat → Bool) (i : Nat) : (clsU h i).length ≤ i := by
  unfold clsU
  rw [List.length_map]
  have := List.length_filter_le h (List.range i)
  simpa using this
theorem byte_end (l : List UInt8) {n : Nat} (h : n ≤ 255) : bytesA l ++ [.v (.int .u8 (n : Int))] = bytesA (l ++ [UInt8.ofNat n]) := by
  have : ((UInt8.ofNat n).toNat : Int) = n := by rw [UInt8.toNat_ofNat']; omega
  simp only [bytesA, List.map_append, List.map_cons, List.map_nil, this]
instance class_i (ha : Nat → Bool) : Ctr lim Tryz.prog 243 [] [.agg (hasC ha)] (.agg [.v (.int .i64 1), .str (clsT ha), .sl false 3 []]) [] True := by
  refine Ctr.of_body en243 Tryz.func243 rfl rfl fun hp => (?_); rw [Tryz.ntmps243]
  (repeat' (first | (with_reducible first | refine Z ?_ | refine xO ?_ | refine Y ?_ | (refine hK _ _ ?_; clear hK K) | exact trivial | refine And.intro ?_ ?_) | (refine AW.i rfl (fun h => ?_) (fun h => ?_) <;> try simp only [hC, reduceCtorEq] at h) | with_reducible rfl | ((with_reducible refine E ?_); (with_reducible repeat refine Y ?_); refine eF rfl ?_) | (with_reducible refine fun (K : _ → _ → Prop) hK => ?_) | (with_reducible show drawOK _ _ = true; kernel_rfl) | (with_reducible refine gI fun hg => ?_; try simp only [hC, reduceCtorEq] at hg; try simp only [hg]) | simp (maxSteps := 2000000) (disch := omega) only [go_sem] | (with_reducible intro hg; try simp only [hC, reduceCtorEq] at hg) | (with_reducible show List.Nodup _; decide) | (with_reducible show (_ : Bool) = false; first | rfl | (simp [*]; done)) | with_reducible exact at8_le _ _ | with_reducible exact at8_ge _ _ | (simp only [hC, reduceCtorEq]; omega) | omega | with_reducible assumption | (with_reducible show (_ : Bool) = true; first | (simp [*]; done) | (simp only [hC, reduceCtorEq]; (repeat' (first | assumption | apply And.intro)); done))))
  rename_i b1 b2
  refine AW.loopV [3, 6] [1, 2] (fun m xs o => ∃ k : Nat, xs = [.sl true 1 (bytesA (clsU ha k)), .v (.int .i64 k)] ∧ o = [(b2, some [.v (.int .i64 0), .str [], .v (.slice none 0 0)]), (b1, some (hasC ha))] ∧ m = 256 - k ∧ k ≤ 256) 256 [(b2, some [.v (.int .i64 0), .str [], .v (.slice none 0 0)]), (b1, some (hasC ha))] (subO_two (Ne.symm hg) rfl rfl) ⟨0, ?_, rfl, rfl, ?_⟩ ?_
  · rfl
  · omega
  rintro m xs o ⟨k, rfl, rfl, rfl, hk⟩
  have hl := clsU_le ha k
  have hs := clsU_step ha k
  (repeat' (first | (with_reducible first | refine Z ?_ | refine xO ?_ | refine Y ?_ | (refine hK _ _ ?_; clear hK K) | exact trivial | refine And.intro ?_ ?_) | with_reducible rfl | ((with_reducible refine E ?_); (with_reducible repeat refine Y ?_); refine eF rfl ?_) | (with_reducible refine fun (K : _ → _ → Prop) hK => ?_) | (with_reducible show drawOK _ _ = true; kernel_rfl) | (with_reducible refine gI fun hg => ?_; try simp only [hC, reduceCtorEq] at hg; try simp only [hg]) | simp (maxSteps := 2000000) (disch := omega) only [go_sem] | (with_reducible intro hg; try simp only [hC, reduceCtorEq] at hg) | (with_reducible show List.Nodup _; decide) | (with_reducible show (_ : Bool) = false; first | rfl | (simp [*]; done)) | with_reducible exact at8_le _ _ | with_reducible exact at8_ge _ _ | (simp only [hC, reduceCtorEq]; omega) | omega | with_reducible assumption | (with_reducible show (_ : Bool) = true; first | (simp [*]; done) | (simp only [hC, reduceCtorEq]; (repeat' (first | assumption | apply And.intro)); done))))
  (refine AW.i rfl (fun h => ?_) (fun h => ?_) <;> try simp only [hC, reduceCtorEq] at h)
  · (repeat' (first | (with_reducible first | refine Z ?_ | refine xO ?_ | refine Y ?_ | (refine hK _ _ ?_; clear hK K) | exact trivial | refine And.intro ?_ ?_) | with_reducible rfl | ((with_reducible refine E ?_); (with_reducible repeat refine Y ?_); refine eF rfl ?_) | (with_reducible refine fun (K : _ → _ → Prop) hK => ?_) | (with_reducible show drawOK _ _ = true; kernel_rfl) | (with_reducible refine gI fun hg => ?_; try simp only [hC, reduceCtorEq] at hg; try simp only [hg]) | simp (maxSteps := 2000000) (disch := omega) only [go_sem] | (with_reducible intro hg; try simp only [hC, reduceCtorEq] at hg) | (with_reducible show List.Nodup _; decide) | (with_reducible show (_ : Bool) = false; first | rfl | (simp [*]; done)) | with_reducible exact at8_le _ _ | with_reducible exact at8_ge _ _ | (simp only [hC, reduceCtorEq]; omega) | omega | with_reducible assumption | (with_reducible show (_ : Bool) = true; first | (simp [*]; done) | (simp only [hC, reduceCtorEq]; (repeat' (first | assumption | apply And.intro)); done))))
    (refine AW.i rfl (fun h => ?_) (fun h => ?_) <;> try simp only [hC, reduceCtorEq] at h)
    · rename_i hh
      rw [h] at hs
      (repeat' (first | (with_reducible first | refine Z ?_ | refine xO ?_ | refine Y ?_ | (refine hK _ _ ?_; clear hK K) | exact trivial | refine And.intro ?_ ?_) | (refine AW.i rfl (fun h => ?_) (fun h => ?_) <;> try simp only [hC, reduceCtorEq] at h) | with_reducible rfl | ((with_reducible refine E ?_); (with_reducible repeat refine Y ?_); refine eF rfl ?_) | (with_reducible refine fun (K : _ → _ → Prop) hK => ?_) | (with_reducible show drawOK _ _ = true; kernel_rfl) | (with_reducible refine gI fun hg => ?_; try simp only [hC, reduceCtorEq] at hg; try simp only [hg]) | simp (maxSteps := 2000000) (disch := omega) only [go_sem] | (with_reducible intro hg; try simp only [hC, reduceCtorEq] at hg) | (with_reducible show List.Nodup _; decide) | (with_reducible show (_ : Bool) = false; first | rfl | (simp [*]; done)) | with_reducible exact at8_le _ _ | with_reducible exact at8_ge _ _ | (simp only [hC, reduceCtorEq]; omega) | omega | with_reducible assumption | (with_reducible show (_ : Bool) = true; first | (simp [*]; done) | (simp only [hC, reduceCtorEq]; (repeat' (first | assumption | apply And.intro)); done))))
      exact ⟨_, [_, _], [(b2, some [.v (.int .i64 0), .str [], .v (.slice none 0 0)]), (b1, some (hasC ha))], by omega, ⟨k + 1, by rw [hs, if_pos rfl, ← byte_end _ (by omega)], rfl, rfl, by omega⟩, rfl, by simp (maxSteps := 2000000) (disch := omega) only [go_sem]⟩
    · rename_i hh
      rw [h] at hs
      (repeat' (first | (with_reducible first | refine Z ?_ | refine xO ?_ | refine Y ?_ | (refine hK _ _ ?_; clear hK K) | exact trivial | refine And.intro ?_ ?_) | (refine AW.i rfl (fun h => ?_) (fun h => ?_) <;> try simp only [hC, reduceCtorEq] at h) | with_reducible rfl | ((with_reducible refine E ?_); (with_reducible repeat refine Y ?_); refine eF rfl ?_) | (with_reducible refine fun (K : _ → _ → Prop) hK => ?_) | (with_reducible show drawOK _ _ = true; kernel_rfl) | (with_reducible refine gI fun hg => ?_; try simp only [hC, reduceCtorEq] at hg; try simp only [hg]) | simp (maxSteps := 2000000) (disch := omega) only [go_sem] | (with_reducible intro hg; try simp only [hC, reduceCtorEq] at hg) | (with_reducible show List.Nodup _; decide) | (with_reducible show (_ : Bool) = false; first | rfl | (simp [*]; done)) | with_reducible exact at8_le _ _ | with_reducible exact at8_ge _ _ | (simp only [hC, reduceCtorEq]; omega) | omega | with_reducible assumption | (with_reducible show (_ : Bool) = true; first | (simp [*]; done) | (simp only [hC, reduceCtorEq]; (repeat' (first | assumption | apply And.intro)); done))))
      exact ⟨_, [_, _], [(b2, some [.v (.int .i64 0), .str [], .v (.slice none 0 0)]), (b1, some (hasC ha))], by omega, ⟨k + 1, by rw [hs]; simp, rfl, rfl, by omega⟩, rfl, by simp (maxSteps := 2000000) (disch := omega) only [go_sem]⟩
  · (repeat' (first | (with_reducible first | refine Z ?_ | refine xO ?_ | refine Y ?_ | (refine hK _ _ ?_; clear hK K) | exact trivial | refine And.intro ?_ ?_) | (refine AW.i rfl (fun h => ?_) (fun h => ?_) <;> try simp only [hC, reduceCtorEq] at h) | with_reducible rfl | (with_reducible refine fun (K : _ → _ → Prop) hK => ?_) | (with_reducible show drawOK _ _ = true; kernel_rfl) | (with_reducible refine gI fun hg => ?_; try simp only [hC, reduceCtorEq] at hg; try simp only [hg]) | simp (maxSteps := 2000000) (disch := omega) only [go_sem] | (with_reducible intro hg; try simp only [hC, reduceCtorEq] at hg) | (with_reducible show List.Nodup _; decide) | (with_reducible show (_ : Bool) = false; first | rfl | (simp [*]; done)) | with_reducible exact at8_le _ _ | with_reducible exact at8_ge _ _ | (simp only [hC, reduceCtorEq]; omega) | omega | with_reducible assumption | (with_reducible show (_ : Bool) = true; first | (simp [*]; done) | (simp only [hC, reduceCtorEq]; (repeat' (first | assumption | apply And.intro)); done))))
    refine AW.ret (EndsG.imp (Imp.nilO (b := b2) 3 [.v (.int .i64 1), .str (clsU ha k)] [] (by simp (maxSteps := 2000000) (disch := omega) only [go_sem]) ?_))
    refine EndsG.fin rfl ?_
    simp (maxSteps := 2000000) (disch := omega) only [go_sem]
    rw [show k = 256 by omega]
    rfl
end Go.Proofs.YtkdchlggdcmkbaaGreat
