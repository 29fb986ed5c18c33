/-
  Part of a proof: Pr0.
-/
import Derived.Test.YtkdchlggdcmkbaaGreatG9
set_option linter.unusedSimpArgs false
set_option linter.unusedVariables false
namespace Go.Dt
open Go.Ab
/-- one element of a class more, then the rest -/
def clsS (s : Str) (j : Nat) (h : Nat → Bool) : Option ((Nat → Bool) × Nat) :=
  match clsE s j with
  | none => none
  | some (a, z, k) => clsL s k (fun c => h c || (decide (a ≤ (c : Int)) && decide ((c : Int) ≤ z)))
theorem clsL_end {s : Str} {j : Nat} (h : Nat → Bool) (e : isAt s j 93 = true) : clsL s j h = some (h, j + 1) := by rw [clsL, if_pos e]
theorem clsL_go {s : Str} {j : Nat} (h : Nat → Bool) (e : isAt s j 93 = false) : clsL s j h = clsS s j h := by
  rw [clsL, if_neg (by rw [e]; simp), clsS]
  split
  · rename_i he; rw [he]
  · rename_i a z k he; rw [he]
theorem clsS_none {s : Str} {j : Nat} (h : Nat → Bool) (e : clsE s j = none) : clsS s j h = none := by rw [clsS, e]
theorem clsS_some {s : Str} {j : Nat} (h : Nat → Bool) {a z : Int} {k : Nat} (e : clsE s j = some (a, z, k)) : clsS s j h = clsL s k (fun c => h c || (decide (a ≤ (c : Int)) && decide ((c : Int) ≤ z))) := by rw [clsS, e]
theorem chAt_def (s : Str) (i : Nat) : chAt s i = (decide (i < s.length) && isCh (at8 s i)) := rfl
theorem chAt_lt {s : Str} {i : Nat} (h : chAt s i = true) : i < s.length := by
  rw [chAt_def, Bool.and_eq_true, decide_eq_true_eq] at h; exact h.1
theorem clsE_no {s : Str} {j : Nat} (h : chAt s j = false) : clsE s j = none := by
  rw [chAt_def] at h; rw [clsE, h]; rfl
theorem clsE_one {s : Str} {j : Nat} (h : chAt s j = true) (e : isAt s (j + 1) 126 = false) : clsE s j = some (at8 s j, at8 s j, j + 1) := by
  rw [chAt_def] at h; rw [clsE, h, if_pos rfl, e]; simp
theorem clsE_two {s : Str} {j : Nat} (h : chAt s j = true) (e : isAt s (j + 1) 126 = true) (h2 : chAt s (j + 2) = true) (h3 : at8 s j ≤ at8 s (j + 2 : Nat)) : clsE s j = some (at8 s j, at8 s (j + 2 : Nat), j + 3) := by
  rw [chAt_def] at h h2; rw [clsE, h, if_pos rfl, e, if_pos rfl, h2, decide_eq_true h3]; rfl
theorem clsE_bad {s : Str} {j : Nat} (e : isAt s (j + 1) 126 = true) (h2 : chAt s (j + 2) = false ∨ at8 s (j + 2 : Nat) < at8 s j) : clsE s j = none := by
  rw [clsE]
  split
  · rw [if_neg]
    rcases h2 with h2 | h2
    · rw [chAt_def] at h2; rw [h2]; simp
    · simp only [Bool.and_eq_true, decide_eq_true_eq, not_and]
      intro _; omega
  · rfl
theorem atomS_cls {s : Str} {i : Nat} (h1 : isAt s i 46 = false) (h2 : isAt s i 91 = true) : atomS s i = (match clsS s (i + 1) (fun _ => false) with | none => none | some (has, k) => some (patC (clsT has), k)) := by
  rw [atomS, if_neg (by rw [h1]; simp), if_pos h2, clsS]
  cases e : clsE s (i + 1) with
  | none => rfl
  | some p =>
    obtain ⟨a, z, j⟩ := p
    simp only [Bool.false_or]
    rfl
theorem atomS_dot {s : Str} {i : Nat} (h1 : isAt s i 46 = true) : atomS s i = some (patC anyT, i + 1) := by rw [atomS, if_pos h1]
theorem atomS_chr {s : Str} {i : Nat} (h1 : isAt s i 46 = false) (h2 : isAt s i 91 = false) (hi : i < s.length) (h3 : chAt s i = true) (h4 : ¬ at8 s i = 95) : atomS s i = some (patC ((s.take (i + 1)).drop i), i + 1) := by
  have h5 : ¬ at8 s i = 46 := fun e => by rw [isAt_yes ⟨hi, e⟩] at h1; cases h1
  rw [atomS, if_neg (by rw [h1]; simp), if_neg (by rw [h2]; simp), if_pos]
  rw [chAt_def, isCh] at h3
  have e1 : (at8 s i == 95) = false := by simpa using h4
  have e2 : (at8 s i == 46) = false := by simpa using h5
  rw [e1, e2, Bool.or_false, Bool.or_false] at h3
  exact h3
theorem atomS_no {s : Str} {i : Nat} (h1 : isAt s i 46 = false) (h2 : isAt s i 91 = false) (hi : i < s.length) (h3 : chAt s i = true → at8 s i = 95) : atomS s i = none := by
  rw [atomS, if_neg (by rw [h1]; simp), if_neg (by rw [h2]; simp), if_neg]
  intro h
  have hc : chAt s i = true := by
    rw [chAt_def, isCh]
    simp only [Bool.and_eq_true, Bool.or_eq_true] at h ⊢
    exact ⟨h.1, by rcases h.2 with (e | e) | e <;> simp [e]⟩
  have := h3 hc
  rw [this] at h
  simp [ltI, digI] at h
end Go.Dt
