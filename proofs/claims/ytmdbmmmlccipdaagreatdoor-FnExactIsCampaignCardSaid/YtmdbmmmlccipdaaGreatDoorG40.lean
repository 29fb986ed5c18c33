/-
  Part of a proof: Tr1.
-/
import Derived.Test.YtmdbmmmlccipdaaGreatDoorG34
import Derived.Test.YtmdbmmmlccipdaaGreatDoorG39
set_option linter.unusedSimpArgs false
set_option linter.unusedVariables false
namespace Go.Dt
open Go Go.Ab
theorem cmpS_rng (a b : Str) : -1 ≤ cmpS a b ∧ cmpS a b ≤ 1 := by unfold cmpS; repeat' split <;> omega
theorem cmpL_at {a b : List Str} {i : Nat} (h1 : i < a.length) (h2 : i < b.length) : cmpL (a.drop i) (b.drop i) = if cmpS (at_ a i) (at_ b i) = 0 then cmpL (a.drop (i + 1)) (b.drop (i + 1)) else cmpS (at_ a i) (at_ b i) := by
  rw [at_drop h1, at_drop h2, cmpL]
theorem cmpL_r {a b : List Str} {i : Nat} (h1 : i < a.length) (h2 : ¬ i < b.length) : cmpL (a.drop i) (b.drop i) = 1 := by
  rw [at_drop h1, drop_end h2, cmpL]
theorem cmpL_e {a b : List Str} {i : Nat} (h1 : ¬ i < a.length) : cmpL (a.drop i) (b.drop i) = if i < b.length then -1 else 0 := by
  rw [drop_end h1]
  split
  · rw [at_drop (by assumption), cmpL]
  · rw [drop_end (by assumption), cmpL]
theorem lessL_at {a b : List Str} {i : Nat} (h1 : i < a.length) (h2 : i < b.length) : lessL (a.drop i) (b.drop i) = if at_ a i = at_ b i then lessL (a.drop (i + 1)) (b.drop (i + 1)) else Op.bytesLess (at_ a i) (at_ b i) := by
  rw [at_drop h1, at_drop h2, lessL]
theorem lessL_e {a b : List Str} {i : Nat} (h0 : i ≤ a.length) (h0' : i ≤ b.length) (h1 : ¬ (i < a.length ∧ i < b.length)) : lessL (a.drop i) (b.drop i) = decide (a.length < b.length) := by
  by_cases h : i < a.length
  · have : ¬ i < b.length := fun c => h1 ⟨h, c⟩
    rw [at_drop h, drop_end this, lessL, eq_comm, decide_eq_false_iff_not]; omega
  · rw [drop_end h]
    by_cases h2 : i < b.length
    · rw [at_drop h2, lessL, eq_comm, decide_eq_true_eq]; omega
    · rw [drop_end h2, lessL, eq_comm, decide_eq_false_iff_not]; omega
/-- a key's text -/
def kyT (x : GNode) (k : Str) : Str := (at_ x.fKids (idx (ndP k) x.fKids).toNat).fValue
def hasK (x : GNode) (k : Str) : Bool := decide (0 ≤ idx (ndP k) x.fKids)
theorem ky_list {n : GSchema} {x : GNode} (h : n.fKind = 2) (hk : n.fKeys.all (hasK x) = true) : kyL n x = n.fKeys.map (kyT x) ∧ kyB n x = true := by
  have e : kyB n x = true := by rw [kyB, h]; exact hk
  refine ⟨?_, e⟩
  rw [kyL, if_pos h, if_pos e]; try rfl
theorem ky_miss {n : GSchema} {x : GNode} (h : n.fKind = 2) (hk : n.fKeys.all (hasK x) = false) : kyL n x = [] ∧ kyB n x = false := by
  have e : kyB n x = false := by rw [kyB, h]; exact hk
  refine ⟨?_, e⟩
  rw [kyL, if_pos h, if_neg (by rw [e]; simp)]
theorem ky_one {n : GSchema} {x : GNode} (h : ¬ n.fKind = 2) : kyL n x = [x.fValue] ∧ kyB n x = true := by
  refine ⟨by rw [kyL, if_neg h], ?_⟩
  rw [kyB]; simp [h]
section
variable {d : List GSchema} {l : List GNode} {k : Nat}
theorem bef_eq (h0 : 0 ≤ idx (nmP (at_ l k).fName) d) : befO d (prv l k) (at_ l k) = (decide (lastI d l k < idx (nmP (at_ l k).fName) d) || decide (idx (nmP (at_ l k).fName) d = lastI d l k) && decide (ordS (at_ d (idx (nmP (at_ l k).fName) d).toNat) (at_ l ((k : Int) - 1).toNat) (at_ l k) < 0)) := by
  cases k with
  | zero => rw [show lastI d l 0 = -1 from rfl, show befO d (prv l 0) (at_ l 0) = true from rfl, show decide (-1 < idx (nmP (at_ l 0).fName) d) = true by simp; omega]; try rfl
  | succ k =>
    rw [show (((k + 1 : Nat) : Int) - 1).toNat = k by omega, show lastI d l (k + 1) = idx (nmP (at_ l k).fName) d from rfl, show befO d (prv l (k + 1)) (at_ l (k + 1)) = befS d (at_ l k) (at_ l (k + 1)) from rfl, befS, ordS]
    by_cases e : idx (nmP (at_ l k).fName) d = idx (nmP (at_ l (k + 1)).fName) d
    · by_cases r : rowK (at_ d (idx (nmP (at_ l (k + 1)).fName) d).toNat).fKind = true
      · rw [if_pos ⟨e, r⟩, if_pos r, cmp_less, e]; simp
      · rw [if_neg (fun c => r c.2), if_neg r, e]; simp
    · rw [if_neg (fun c => e c.1), show decide (idx (nmP (at_ l (k + 1)).fName) d = idx (nmP (at_ l k).fName) d) = false by simp; exact fun c => e c.symm]; simp
theorem okL_bad (hk : k < l.length) (h : idx (nmP (at_ l k).fName) d < 0 ∨ idx (nmP (at_ l k).fName) d < lastI d l k) : okL d (prv l k) (l.drop k) = false := by
  rw [okL_at hk]
  by_cases h0 : 0 ≤ idx (nmP (at_ l k).fName) d
  · rw [bef_eq h0]
    have h1 : idx (nmP (at_ l k).fName) d < lastI d l k := by omega
    rw [show decide (lastI d l k < idx (nmP (at_ l k).fName) d) = false by simp; omega, show decide (idx (nmP (at_ l k).fName) d = lastI d l k) = false by simp; omega]; simp
  · rw [show decide (0 ≤ idx (nmP (at_ l k).fName) d) = false by simp; omega]; try rfl
theorem okL_bad2 (hk : k < l.length) (h0 : 0 ≤ idx (nmP (at_ l k).fName) d) (h : okN (at_ d (idx (nmP (at_ l k).fName) d).toNat) (at_ l k) = false ∨ idx (nmP (at_ l k).fName) d = lastI d l k ∧ 0 ≤ ordS (at_ d (idx (nmP (at_ l k).fName) d).toNat) (at_ l ((k : Int) - 1).toNat) (at_ l k)) : okL d (prv l k) (l.drop k) = false := by
  rw [okL_at hk, bef_eq h0]
  rcases h with h | ⟨h1, h2⟩
  · rw [h]; simp
  · rw [show decide (lastI d l k < idx (nmP (at_ l k).fName) d) = false by simp; omega, show decide (ordS (at_ d (idx (nmP (at_ l k).fName) d).toNat) (at_ l ((k : Int) - 1).toNat) (at_ l k) < 0) = false by rw [decide_eq_false_iff_not]; omega]; simp
theorem okL_good (hk : k < l.length) (h0 : 0 ≤ idx (nmP (at_ l k).fName) d) (h1 : lastI d l k ≤ idx (nmP (at_ l k).fName) d) (h2 : okN (at_ d (idx (nmP (at_ l k).fName) d).toNat) (at_ l k) = true) (h3 : idx (nmP (at_ l k).fName) d = lastI d l k → ordS (at_ d (idx (nmP (at_ l k).fName) d).toNat) (at_ l ((k : Int) - 1).toNat) (at_ l k) < 0) : okL d (prv l k) (l.drop k) = okL d (prv l (k + 1)) (l.drop (k + 1)) := by
  rw [okL_at hk, bef_eq h0, h2, show decide (0 ≤ idx (nmP (at_ l k).fName) d) = true by simpa using h0]
  by_cases e : idx (nmP (at_ l k).fName) d = lastI d l k
  · rw [show decide (ordS (at_ d (idx (nmP (at_ l k).fName) d).toNat) (at_ l ((k : Int) - 1).toNat) (at_ l k) < 0) = true by rw [decide_eq_true_eq]; exact h3 e, show decide (idx (nmP (at_ l k).fName) d = lastI d l k) = true by simpa using e]; simp
  · rw [show decide (lastI d l k < idx (nmP (at_ l k).fName) d) = true by rw [decide_eq_true_eq]; omega]; simp
theorem lastI_ge : -1 ≤ lastI d l k := by
  cases k with
  | zero => exact Int.le_refl _
  | succ k => exact idx_ge _ _
theorem lastI_lt : lastI d l k < d.length := by
  cases k with
  | zero => rw [show lastI d l 0 = -1 from rfl]; omega
  | succ k => exact idx_lt _
end
end Go.Dt
