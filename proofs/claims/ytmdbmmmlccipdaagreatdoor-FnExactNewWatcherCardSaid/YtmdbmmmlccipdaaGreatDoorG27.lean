/-
  Part of a proof: Nu0.
-/
import Derived.Lib.ItoaNum
import Derived.Test.YtmdbmmmlccipdaaGreatDoorG10
set_option linter.unusedSimpArgs false
set_option linter.unusedVariables false
namespace Go.Dt
open Go.Ab
/-- the digits of a number, none for 0 -/
def dg (u : Nat) : Str := if u = 0 then [] else Lib.decDigits u
theorem dg_step {u : Nat} (h : u ≠ 0) : dg u = dg (u / 10) ++ [UInt8.ofNat (48 + u % 10)] := by
  rw [dg, if_neg h, Lib.decDigits, dg]
  split
  · rename_i h10
    rw [if_pos (by omega), List.nil_append, Nat.mod_eq_of_lt h10]
  · rw [if_neg (by omega)]
theorem dg_len (u : Nat) : (dg u).length ≤ u / 10 + 1 := by
  induction u using Nat.strongRecOn with
  | _ u ih =>
    by_cases h : u = 0
    · subst h; simp [dg]
    · rw [dg_step h]
      have := ih (u / 10) (by omega)
      simp only [List.length_append, List.length_singleton]
      by_cases h10 : u / 10 = 0
      · rw [h10]; simp [dg]
      · omega
theorem itoa_zero : Lib.itoa 0 = [48] := by rw [Lib.itoa, if_neg (by omega), Lib.decDigits]; rfl
theorem itoa_dg {n : Int} (h : n ≠ 0) : Lib.itoa n = if n < 0 then 45 :: dg n.natAbs else dg n.natAbs := by
  have e : ¬ n.natAbs = 0 := by omega
  simp only [Lib.itoa, dg, e, if_false]
  split
  · rfl
  · rw [show n.toNat = n.natAbs by omega]
def dgt (s : Str) (j : Nat) : Bool := digI (at8 s j)
/-- the number of the first k digits -/
def valN (s : Str) : Nat → Nat
  | 0 => 0
  | k + 1 => 10 * valN s k + (at8 s k - 48).toNat
theorem val_mono (s : Str) (k j : Nat) : valN s k ≤ valN s (k + j) := by
  induction j with
  | zero => exact Nat.le_refl _
  | succ j ih => rw [← Nat.add_assoc, valN]; omega
theorem dgt_iff {s : Str} {k : Nat} : dgt s k = true ↔ 48 ≤ at8 s k ∧ at8 s k ≤ 57 := by simp [dgt, digI]
theorem val_step {s : Str} {k : Nat} (h : 48 ≤ at8 s k) : (valN s (k + 1) : Int) = 10 * valN s k + (at8 s k - 48) := by rw [valN]; omega
/-- is it a number -/
def rdB (s : Str) : Bool := allTo (dgt s) s.length && (decide (valN s s.length ≤ 1000000000) && decide (0 < s.length))
def rdN (s : Str) : Int := bif rdB s then valN s s.length else 0
theorem rd_no {s : Str} {k : Nat} (h : k < s.length) (e : ¬ (48 ≤ at8 s k ∧ at8 s k ≤ 57)) : rdB s = false := by
  rw [rdB, allTo_false h (Bool.eq_false_iff.2 fun h => e (dgt_iff.1 h))]; rfl
theorem rd_big {s : Str} {k : Nat} (h : k ≤ s.length) (e : 1000000000 < valN s k) : rdB s = false := by
  have := val_mono s k (s.length - k)
  rw [show k + (s.length - k) = s.length by omega] at this
  have : decide (valN s s.length ≤ 1000000000) = false := by simp; omega
  rw [rdB, this]; simp
def sgn (s : Str) : Bool := decide (0 < s.length) && (at8 s 0 == 45 || at8 s 0 == 43)
def tlS (s : Str) : Str := bif sgn s then s.drop 1 else s
/-- what ReadInt gives -/
def readV (s : Str) : Int := bif rdB (tlS s) then (if at8 s 0 = 45 then - rdN (tlS s) else rdN (tlS s)) else 0
def readB (s : Str) : Bool := rdB (tlS s)
theorem rd_le (s : Str) : 0 ≤ rdN s ∧ rdN s ≤ 1000000000 := by
  unfold rdN
  cases h : rdB s with
  | false => simp
  | true =>
    simp only [rdB, Bool.and_eq_true, decide_eq_true_eq] at h
    simp only [cond_true]; omega
theorem read_le (s : Str) : -1000000000 ≤ readV s ∧ readV s ≤ 1000000000 := by
  have := rd_le (tlS s)
  unfold readV
  cases rdB (tlS s) with
  | false => simp
  | true => simp only [cond_true]; split <;> omega
def rgHas (n : Int) (r : GRange) : Bool := decide (r.fLo ≤ n) && decide (n ≤ r.fHi)
/-- is it in the ranges -/
def inRg (l : List GRange) (n : Int) : Bool := l.any (rgHas n) || decide (l.length = 0)
end Go.Dt
namespace Go.Dt
open Go.Ab
theorem rd_end {s : Str} {k : Nat} (hR : allTo (dgt s) k = true) (hv : valN s k ≤ 1000000000) (hk : k ≤ s.length) (h : ¬ k < s.length) : rdB s = decide ((0 : Int) < (s.length : Int)) ∧ (rdN s = valN s k) := by
  obtain rfl : k = s.length := by omega
  have e : rdB s = decide ((0 : Int) < (s.length : Int)) := by
    rw [rdB, hR, decide_eq_true hv, Bool.true_and, Bool.true_and]
    exact decide_eq_decide.2 (by omega)
  refine ⟨e, ?_⟩
  rw [rdN, e]
  by_cases h0 : s.length = 0
  · rw [h0]; rfl
  · rw [decide_eq_true (by omega)]; rfl
theorem any_at {α : Type} [Inhabited α] {p : α → Bool} {l : List α} {k : Nat} (h : k < l.length) (e : p (at_ l k) = true) : l.any p = true := List.any_eq_true.2 ⟨_, at_mem h, e⟩
theorem any_end {α : Type} {p : α → Bool} {l : List α} {k : Nat} (hk : ¬ k < l.length) (h : ∀ x ∈ l.take k, p x = false) : l.any p = false := by
  rw [List.take_of_length_le (by omega)] at h
  rw [List.any_eq_false]; intro x hx; rw [h x hx]; simp
theorem tdiv10 (x : Int) : (x.tdiv 10).natAbs = x.natAbs / 10 := by rw [Int.natAbs_tdiv]; rfl
end Go.Dt
namespace Go.Dt
open Go.Ab
@[go_sem] theorem unb_1 {y : Int} (h0 : 0 ≤ y) (h1 : y ≤ 255) : unb [.v (.int .u8 y)] = some [UInt8.ofNat y.toNat] := by simp only [unb, if_pos (And.intro h0 h1), Option.map_some]
theorem tmod10 (x : Int) : -9 ≤ x.tmod 10 ∧ x.tmod 10 ≤ 9 ∧ (x.tmod 10).natAbs = x.natAbs % 10 := by
  have h := Int.natAbs_tmod x 10
  have h2 : (x.tmod 10).natAbs < 10 := by rw [h]; exact Nat.mod_lt _ (by decide)
  have h3 := tdiv10 x
  exact ⟨by omega, by omega, h⟩
theorem len_beq (n : Nat) : ((n : Int) == 0) = decide (n = 0) := by
  by_cases h : n = 0
  · simp [h]
  · simp [h]
theorem take_drop_tl {s : Str} : (s.take s.length).drop (Int.toNat 1) = s.drop 1 := by simp
theorem tl_yes {s : Str} (h : 0 < (s.length : Int) ∧ (at8 s 0 = 45 ∨ at8 s 0 = 43)) : tlS s = s.drop 1 := by
  have : sgn s = true := by simp only [sgn, Bool.and_eq_true, decide_eq_true_eq, Bool.or_eq_true, beq_iff_eq]; exact ⟨by omega, h.2⟩
  rw [tlS, this]; rfl
theorem tl_no {s : Str} (h : 0 < (s.length : Int) → ¬ at8 s 0 = 45 ∧ ¬ at8 s 0 = 43) : tlS s = s := by
  have : sgn s = false := by
    simp only [sgn, Bool.and_eq_false_imp, decide_eq_true_eq, Bool.or_eq_false_iff, beq_eq_false_iff_ne, ne_eq]
    exact fun q => h (by omega)
  rw [tlS, this]; rfl
@[go_sem] theorem rd_nil : rdB [] = false := rfl
end Go.Dt
namespace Go.Dt
open Go.Ab
theorem dg_next {x : Int} {s t : Str} {c : UInt8} (hx : ¬ x = 0) (hs : dg x.natAbs ++ s = t) (hc : c = UInt8.ofNat (48 + x.natAbs % 10)) : dg (x.tdiv 10).natAbs ++ c :: s = t := by
  rw [dg_step (by omega), List.append_assoc] at hs
  rw [tdiv10, hc]; exact hs
theorem app_le {a s t : Str} (h : a ++ s = t) : s.length ≤ t.length := by rw [← h, List.length_append]; omega
end Go.Dt
namespace Go.Dt
open Go.Ab
theorem valS {t : Str} {k : Nat} {v : Int} (hd : 48 ≤ at8 t k ∧ at8 t k ≤ 57) (h1 : valN t k ≤ 1000000000 → v = valN t k) (h2 : 1000000000 < valN t k → 1000000000 < v) :
    (v ≤ 1000000000 → (valN t (k + 1) ≤ 1000000000 → v * 10 + (at8 t k - 48) = valN t (k + 1)) ∧ (1000000000 < valN t (k + 1) → 1000000000 < v * 10 + (at8 t k - 48))) ∧
    (1000000000 < v → (valN t (k + 1) ≤ 1000000000 → v = valN t (k + 1)) ∧ (1000000000 < valN t (k + 1) → 1000000000 < v)) := by
  have := val_step (s := t) (k := k) hd.1
  refine ⟨fun h => ⟨fun _ => ?_, fun _ => ?_⟩, fun h => ⟨fun _ => ?_, fun _ => ?_⟩⟩ <;> omega
theorem rd_fin {t : Str} {k : Nat} {v : Int} (hR : allTo (dgt t) k = true) (hk : k ≤ t.length) (h : ¬ k < t.length) (h0 : ¬ t = []) (h1 : valN t k ≤ 1000000000 → v = valN t k) (h2 : 1000000000 < valN t k → 1000000000 < v) :
    rdB t = decide (v ≤ 1000000000) ∧ (v ≤ 1000000000 → rdN t = v) := by
  have hl : 0 < t.length := List.length_pos_iff.2 h0
  by_cases e : valN t k ≤ 1000000000
  · obtain ⟨a, b⟩ := rd_end hR e hk h
    rw [h1 e, a, b]
    exact ⟨by rw [decide_eq_true (by omega), decide_eq_true (by omega)], fun _ => rfl⟩
  · have := h2 (by omega)
    rw [rd_big hk (by omega)]
    exact ⟨by rw [decide_eq_false (by omega)], fun h => by omega⟩
end Go.Dt
