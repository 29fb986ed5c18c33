/-
  Part of a proof: Pt3.
-/
import Derived.Test.YtmdbmmmlccipdaaGreatDoorG21
set_option linter.unusedSimpArgs false
set_option linter.unusedVariables false
namespace Go.Dt
open Go.Ab
theorem isAt_iff {s : Str} {i : Nat} {c : Int} : isAt s i c = true ↔ i < s.length ∧ at8 s i = c := by simp [isAt]
theorem clsL_bd {s : Str} : ∀ (n i : Nat) (has : Nat → Bool) (h' : Nat → Bool) (k : Nat), s.length - i < n → clsL s i has = some (h', k) → i < k ∧ k ≤ s.length
  | 0, _, _, _, _, h, _ => by omega
  | n + 1, i, has, h', k, hn, h => by
    rw [clsL] at h
    split at h
    · rename_i h1
      have := isAt_iff.1 h1
      simp only [Option.some.injEq, Prod.mk.injEq] at h; omega
    · split at h
      · cases h
      · rename_i a z j he
        have h2 := clsE_lt he
        have := clsL_bd n j _ h' k (by omega) h
        omega
theorem atomS_bd {s : Str} {i : Nat} {p : GPat} {j : Nat} (h : atomS s i = some (p, j)) : i < j ∧ j ≤ s.length := by
  unfold atomS at h
  split at h
  · rename_i h1
    have := isAt_iff.1 h1
    simp only [Option.some.injEq, Prod.mk.injEq] at h; omega
  · split at h
    · split at h
      · cases h
      · rename_i a z k he
        have h2 := clsE_lt he
        split at h
        · cases h
        · rename_i has k' hc
          have := clsL_bd (s.length + 1) _ _ _ _ (by omega) hc
          simp only [Option.some.injEq, Prod.mk.injEq] at h; omega
    · split at h
      · rename_i h3
        simp only [Bool.and_eq_true, decide_eq_true_eq] at h3
        simp only [Option.some.injEq, Prod.mk.injEq] at h; omega
      · cases h
theorem pBd (s : Str) : ∀ n : Nat,
    (∀ i p j, 5 * (s.length - i) + 4 < n → i ≤ s.length → pAlt s i = some (p, j) → i ≤ j ∧ j ≤ s.length) ∧
    (∀ i l p j, 5 * (s.length - i) + 3 < n → i ≤ s.length → pAltL s i l = some (p, j) → i ≤ j ∧ j ≤ s.length) ∧
    (∀ i l p j, 5 * (s.length - i) + 2 < n → i ≤ s.length → pSeq s i l = some (p, j) → i ≤ j ∧ j ≤ s.length) ∧
    (∀ i p j, 5 * (s.length - i) + 1 < n → pAtom s i = some (p, j) → i < j ∧ j ≤ s.length)
  | 0 => ⟨by omega, by omega, by omega, by omega⟩
  | n + 1 => by
    obtain ⟨i1, i2, i3, i4⟩ := pBd s n
    refine ⟨?_, ?_, ?_, ?_⟩
    · intro i p j hn hi h
      rw [pAlt] at h
      split at h
      · cases h
      · rename_i q k hq
        split at h
        · have a1 := i3 i [] q k (by omega) hi hq
          have a2 := i2 k [q] p j (by omega) (by omega) h
          omega
        · cases h
    · intro i l p j hn hi h
      rw [pAltL] at h
      split at h
      · split at h
        · split at h
          · cases h
          · rename_i q k hq
            split at h
            · have a1 := i3 (i + 1) [] q k (by omega) (by omega) hq
              have a2 := i2 k (l ++ [q]) p j (by omega) (by omega) h
              omega
            · cases h
        · simp only [Option.some.injEq, Prod.mk.injEq] at h; omega
      · simp only [Option.some.injEq, Prod.mk.injEq] at h; omega
    · intro i l p j hn hi h
      rw [pSeq] at h
      split at h
      · split at h
        · simp only [Option.some.injEq, Prod.mk.injEq] at h; omega
        · split at h
          · cases h
          · rename_i q k hq
            split at h
            · rename_i hlt
              have a1 := i4 i q k (by omega) hq
              have a3 := post_ge s q a1.2
              have a2 := i3 _ _ p j (by omega) a3 h
              omega
            · cases h
      · simp only [Option.some.injEq, Prod.mk.injEq] at h; omega
    · intro i p j hn h
      rw [pAtom] at h
      split at h
      · split at h
        · split at h
          · cases h
          · rename_i q k hq
            split at h
            · rename_i h41
              have a1 := i1 (i + 1) q k (by omega) (by omega) hq
              have := isAt_iff.1 h41
              simp only [Option.some.injEq, Prod.mk.injEq] at h; omega
            · cases h
        · exact atomS_bd h
      · cases h
theorem pAtom_bd {s : Str} {i : Nat} {p : GPat} {j : Nat} (h : pAtom s i = some (p, j)) : i < j ∧ j ≤ s.length := (pBd s _).2.2.2 i p j (Nat.lt_succ_self _) h
theorem pSeq_bd {s : Str} {i : Nat} {l : List GPat} {p : GPat} {j : Nat} (hi : i ≤ s.length) (h : pSeq s i l = some (p, j)) : i ≤ j ∧ j ≤ s.length := (pBd s _).2.2.1 i l p j (Nat.lt_succ_self _) hi h
/-- an atom and what stands behind it -/
def pItem (s : Str) (i : Nat) : Option (GPat × Nat) :=
  match pAtom s i with
  | none => none
  | some (p, j) => some (post s p j)
theorem pItem_bd {s : Str} {i : Nat} {p : GPat} {j : Nat} (h : pItem s i = some (p, j)) : i < j ∧ j ≤ s.length := by
  unfold pItem at h
  split at h
  · cases h
  · rename_i q k hq
    have a1 := pAtom_bd hq
    have a2 := post_le s q k
    have a3 := post_ge s q a1.2
    simp only [Option.some.injEq] at h
    rw [h] at a2 a3
    omega
theorem pSeq_stop {s : Str} {i : Nat} (l : List GPat) (h : i < s.length → at8 s i = 124 ∨ at8 s i = 41) : pSeq s i l = some (mkSeq l, i) := by
  rw [pSeq]
  split
  · rename_i hi; rw [if_pos (h hi)]
  · rfl
theorem pSeq_none {s : Str} {i : Nat} (l : List GPat) (hi : i < s.length) (h1 : ¬ at8 s i = 124) (h2 : ¬ at8 s i = 41) (h : pItem s i = none) : pSeq s i l = none := by
  rw [pSeq, dif_pos hi, if_neg (by omega)]
  unfold pItem at h
  split at h
  · rename_i hq; rw [hq]
  · cases h
theorem pSeq_go {s : Str} {i : Nat} (l : List GPat) {p : GPat} {j : Nat} (hi : i < s.length) (h1 : ¬ at8 s i = 124) (h2 : ¬ at8 s i = 41) (h : pItem s i = some (p, j)) : pSeq s i l = pSeq s j (l ++ [p]) := by
  have hb := pItem_bd h
  conv => lhs; rw [pSeq]
  rw [dif_pos hi, if_neg (by omega)]
  unfold pItem at h
  split at h
  · cases h
  · rename_i q k hq
    simp only [Option.some.injEq] at h
    rw [hq]
    simp only [h]
    rw [dif_pos hb.1]
theorem pAlt_none {s : Str} {i : Nat} (h : pSeq s i [] = none) : pAlt s i = none := by rw [pAlt, h]
theorem pAlt_go {s : Str} {i : Nat} {p : GPat} {j : Nat} (hi : i ≤ s.length) (h : pSeq s i [] = some (p, j)) : pAlt s i = pAltL s j [p] := by
  have := pSeq_bd hi h
  rw [pAlt, h]; simp only [if_pos this.1]
theorem pAltL_stop {s : Str} {j : Nat} (l : List GPat) (h : isAt s j 124 = false) : pAltL s j l = some (mkAlt l, j) := by
  rw [pAltL]
  split
  · rename_i hj
    rw [if_neg]
    intro e
    rw [isAt_yes ⟨hj, e⟩] at h; cases h
  · rfl
theorem pAltL_none {s : Str} {j : Nat} (l : List GPat) (h : isAt s j 124 = true) (hq : pSeq s (j + 1) [] = none) : pAltL s j l = none := by
  have := isAt_iff.1 h
  rw [pAltL, dif_pos this.1, if_pos this.2, hq]
theorem pAltL_go {s : Str} {j : Nat} (l : List GPat) {p : GPat} {k : Nat} (h : isAt s j 124 = true) (hq : pSeq s (j + 1) [] = some (p, k)) : pAltL s j l = pAltL s k (l ++ [p]) := by
  have := isAt_iff.1 h
  have hb := pSeq_bd (by omega) hq
  conv => lhs; rw [pAltL]
  rw [dif_pos this.1, if_pos this.2, hq]
  simp only [if_pos (show j < k by omega)]
theorem pAtom_open0 {s : Str} {i : Nat} (h : isAt s i 40 = true) (hq : pAlt s (i + 1) = none) : pAtom s i = none := by
  have := isAt_iff.1 h
  rw [pAtom, dif_pos this.1, if_pos this.2, hq]
theorem pAtom_open1 {s : Str} {i : Nat} {p : GPat} {j : Nat} (h : isAt s i 40 = true) (hq : pAlt s (i + 1) = some (p, j)) (h1 : isAt s j 41 = true) : pAtom s i = some (p, j + 1) := by
  have := isAt_iff.1 h
  rw [pAtom, dif_pos this.1, if_pos this.2, hq]; simp only [h1, if_true]
theorem pAtom_open2 {s : Str} {i : Nat} {p : GPat} {j : Nat} (h : isAt s i 40 = true) (hq : pAlt s (i + 1) = some (p, j)) (h1 : isAt s j 41 = false) : pAtom s i = none := by
  have := isAt_iff.1 h
  rw [pAtom, dif_pos this.1, if_pos this.2, hq]; simp only [h1]; rfl
theorem pAtom_else {s : Str} {i : Nat} (hi : i < s.length) (h : isAt s i 40 = false) : pAtom s i = atomS s i := by
  rw [pAtom, dif_pos hi, if_neg]
  intro e; rw [isAt_yes ⟨hi, e⟩] at h; cases h
end Go.Dt
