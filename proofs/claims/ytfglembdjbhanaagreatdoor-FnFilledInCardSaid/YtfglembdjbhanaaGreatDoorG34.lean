/-
  Part of a proof: Pt3, Pr0.
-/
import Derived.Test.YtfglembdjbhanaaGreatDoorG19
set_option linter.unusedSimpArgs false
set_option linter.unusedVariables false
namespace Go.Dt
open Go.Ab
theorem isAt_iff {s : Str} {i : Nat} {c : Int} : isAt s i c = true ↔ i < s.length ∧ at8 s i = c := by simp [isAt]
theorem clsL_bd {s : Str} : ∀ (n i : Nat) (has : Nat → Bool) (h' : Nat → Bool) (k : Nat), s.length - i < n → clsL s i has = some (h', k) → i < k ∧ k ≤ s.length
  | 0, _, _, _, _, h, _ => by omega
  | n + 1, i, has, h', k, hn, h => by
    rw [clsL] at h
    split at h
    · rename_i h1
      have := isAt_iff.1 h1
      simp only [Option.some.injEq, Prod.mk.injEq] at h; omega
    · split at h
      · cases h
      · rename_i a z j he
        have h2 := clsE_lt he
        have := clsL_bd n j _ h' k (by omega) h
        omega
theorem atomS_bd {s : Str} {i : Nat} {p : GPat} {j : Nat} (h : atomS s i = some (p, j)) : i < j ∧ j ≤ s.length := by
  unfold atomS at h
  split at h
  · rename_i h1
    have := isAt_iff.1 h1
    simp only [Option.some.injEq, Prod.mk.injEq] at h; omega
  · split at h
    · split at h
      · cases h
      · rename_i a z k he
        have h2 := clsE_lt he
        split at h
        · cases h
        · rename_i has k' hc
          have := clsL_bd (s.length + 1) _ _ _ _ (by omega) hc
          simp only [Option.some.injEq, Prod.mk.injEq] at h; omega
    · split at h
      · rename_i h3
        simp only [Bool.and_eq_true, decide_eq_true_eq] at h3
        simp only [Option.some.injEq, Prod.mk.injEq] at h; omega
      · cases h
theorem pBd (s : Str) : ∀ n : Nat,
    (∀ i p j, 5 * (s.length - i) + 4 < n → i ≤ s.length → pAlt s i = some (p, j) → i ≤ j ∧ j ≤ s.length) ∧
    (∀ i l p j, 5 * (s.length - i) + 3 < n → i ≤ s.length → pAltL s i l = some (p, j) → i ≤ j ∧ j ≤ s.length) ∧
    (∀ i l p j, 5 * (s.length - i) + 2 < n → i ≤ s.length → pSeq s i l = some (p, j) → i ≤ j ∧ j ≤ s.length) ∧
    (∀ i p j, 5 * (s.length - i) + 1 < n → pAtom s i = some (p, j) → i < j ∧ j ≤ s.length)
  | 0 => ⟨by omega, by omega, by omega, by omega⟩
  | n + 1 => by
    obtain ⟨i1, i2, i3, i4⟩ := pBd s n
    refine ⟨?_, ?_, ?_, ?_⟩
    · intro i p j hn hi h
      rw [pAlt] at h
      split at h
      · cases h
      · rename_i q k hq
        split at h
        · have a1 := i3 i [] q k (by omega) hi hq
          have a2 := i2 k [q] p j (by omega) (by omega) h
          omega
        · cases h
    · intro i l p j hn hi h
      rw [pAltL] at h
      split at h
      · split at h
        · split at h
          · cases h
          · rename_i q k hq
            split at h
            · have a1 := i3 (i + 1) [] q k (by omega) (by omega) hq
              have a2 := i2 k (l ++ [q]) p j (by omega) (by omega) h
              omega
            · cases h
        · simp only [Option.some.injEq, Prod.mk.injEq] at h; omega
      · simp only [Option.some.injEq, Prod.mk.injEq] at h; omega
    · intro i l p j hn hi h
      rw [pSeq] at h
      split at h
      · split at h
        · simp only [Option.some.injEq, Prod.mk.injEq] at h; omega
        · split at h
          · cases h
          · rename_i q k hq
            split at h
            · rename_i hlt
              have a1 := i4 i q k (by omega) hq
              have a3 := post_ge s q a1.2
              have a2 := i3 _ _ p j (by omega) a3 h
              omega
            · cases h
      · simp only [Option.some.injEq, Prod.mk.injEq] at h; omega
    · intro i p j hn h
      rw [pAtom] at h
      split at h
      · split at h
        · split at h
          · cases h
          · rename_i q k hq
            split at h
            · rename_i h41
              have a1 := i1 (i + 1) q k (by omega) (by omega) hq
              have := isAt_iff.1 h41
              simp only [Option.some.injEq, Prod.mk.injEq] at h; omega
            · cases h
        · exact atomS_bd h
      · cases h
theorem pAtom_bd {s : Str} {i : Nat} {p : GPat} {j : Nat} (h : pAtom s i = some (p, j)) : i < j ∧ j ≤ s.length := (pBd s _).2.2.2 i p j (Nat.lt_succ_self _) h
theorem pSeq_bd {s : Str} {i : Nat} {l : List GPat} {p : GPat} {j : Nat} (hi : i ≤ s.length) (h : pSeq s i l = some (p, j)) : i ≤ j ∧ j ≤ s.length := (pBd s _).2.2.1 i l p j (Nat.lt_succ_self _) hi h
def pItem (s : Str) (i : Nat) : Option (GPat × Nat) :=
  match pAtom s i with
  | none => none
  | some (p, j) => some (post s p j)
theorem pItem_bd {s : Str} {i : Nat} {p : GPat} {j : Nat} (h : pItem s i = some (p, j)) : i < j ∧ j ≤ s.length := by
  unfold pItem at h
  split at h
  · cases h
  · rename_i q k hq
    have a1 := pAtom_bd hq
    have a2 := post_le s q k
    have a3 := post_ge s q a1.2
    simp only [Option.some.injEq] at h
    rw [h] at a2 a3
    omega
theorem pSeq_stop {s : Str} {i : Nat} (l : List GPat) (h : i < s.length → at8 s i = 124 ∨ at8 s i = 41) : pSeq s i l = some (mkSeq l, i) := by
  rw [pSeq]
  split
  · rename_i hi; rw [if_pos (h hi)]
  · rfl
theorem pSeq_none {s : Str} {i : Nat} (l : List GPat) (hi : i < s.length) (h1 : ¬ at8 s i = 124) (h2 : ¬ at8 s i = 41) (h : pItem s i = none) : pSeq s i l = none := by
  rw [pSeq, dif_pos hi, if_neg (by omega)]
  unfold pItem at h
  split at h
  · rename_i hq; rw [hq]
  · cases h
theorem pSeq_go {s : Str} {i : Nat} (l : List GPat) {p : GPat} {j : Nat} (hi : i < s.length) (h1 : ¬ at8 s i = 124) (h2 : ¬ at8 s i = 41) (h : pItem s i = some (p, j)) : pSeq s i l = pSeq s j (l ++ [p]) := by
  have hb := pItem_bd h
  conv => lhs; rw [pSeq]
  rw [dif_pos hi, if_neg (by omega)]
  unfold pItem at h
  split at h
  · cases h
  · rename_i q k hq
    simp only [Option.some.injEq] at h
    rw [hq]
    simp only [h]
    rw [dif_pos hb.1]
theorem pAlt_none {s : Str} {i : Nat} (h : pSeq s i [] = none) : pAlt s i = none := by rw [pAlt, h]
theorem pAlt_go {s : Str} {i : Nat} {p : GPat} {j : Nat} (hi : i ≤ s.length) (h : pSeq s i [] = some (p, j)) : pAlt s i = pAltL s j [p] := by
  have := pSeq_bd hi h
  rw [pAlt, h]; simp only [if_pos this.1]
theorem pAltL_stop {s : Str} {j : Nat} (l : List GPat) (h : isAt s j 124 = false) : pAltL s j l = some (mkAlt l, j) := by
  rw [pAltL]
  split
  · rename_i hj
    rw [if_neg]
    intro e
    rw [isAt_yes ⟨hj, e⟩] at h; cases h
  · rfl
theorem pAltL_none {s : Str} {j : Nat} (l : List GPat) (h : isAt s j 124 = true) (hq : pSeq s (j + 1) [] = none) : pAltL s j l = none := by
  have := isAt_iff.1 h
  rw [pAltL, dif_pos this.1, if_pos this.2, hq]
theorem pAltL_go {s : Str} {j : Nat} (l : List GPat) {p : GPat} {k : Nat} (h : isAt s j 124 = true) (hq : pSeq s (j + 1) [] = some (p, k)) : pAltL s j l = pAltL s k (l ++ [p]) := by
  have := isAt_iff.1 h
  have hb := pSeq_bd (by omega) hq
  conv => lhs; rw [pAltL]
  rw [dif_pos this.1, if_pos this.2, hq]
  simp only [if_pos (show j < k by omega)]
theorem pAtom_open0 {s : Str} {i : Nat} (h : isAt s i 40 = true) (hq : pAlt s (i + 1) = none) : pAtom s i = none := by
  have := isAt_iff.1 h
  rw [pAtom, dif_pos this.1, if_pos this.2, hq]
theorem pAtom_open1 {s : Str} {i : Nat} {p : GPat} {j : Nat} (h : isAt s i 40 = true) (hq : pAlt s (i + 1) = some (p, j)) (h1 : isAt s j 41 = true) : pAtom s i = some (p, j + 1) := by
  have := isAt_iff.1 h
  rw [pAtom, dif_pos this.1, if_pos this.2, hq]; simp only [h1, if_true]
theorem pAtom_open2 {s : Str} {i : Nat} {p : GPat} {j : Nat} (h : isAt s i 40 = true) (hq : pAlt s (i + 1) = some (p, j)) (h1 : isAt s j 41 = false) : pAtom s i = none := by
  have := isAt_iff.1 h
  rw [pAtom, dif_pos this.1, if_pos this.2, hq]; simp only [h1]; rfl
theorem pAtom_else {s : Str} {i : Nat} (hi : i < s.length) (h : isAt s i 40 = false) : pAtom s i = atomS s i := by
  rw [pAtom, dif_pos hi, if_neg]
  intro e; rw [isAt_yes ⟨hi, e⟩] at h; cases h
end Go.Dt
namespace Go.Dt
open Go.Ab
def clsS (s : Str) (j : Nat) (h : Nat → Bool) : Option ((Nat → Bool) × Nat) :=
  match clsE s j with
  | none => none
  | some (a, z, k) => clsL s k (fun c => h c || (decide (a ≤ (c : Int)) && decide ((c : Int) ≤ z)))
theorem clsL_end {s : Str} {j : Nat} (h : Nat → Bool) (e : isAt s j 93 = true) : clsL s j h = some (h, j + 1) := by rw [clsL, if_pos e]
theorem clsL_go {s : Str} {j : Nat} (h : Nat → Bool) (e : isAt s j 93 = false) : clsL s j h = clsS s j h := by
  rw [clsL, if_neg (by rw [e]; simp), clsS]
  split
  · rename_i he; rw [he]
  · rename_i a z k he; rw [he]
theorem clsS_none {s : Str} {j : Nat} (h : Nat → Bool) (e : clsE s j = none) : clsS s j h = none := by rw [clsS, e]
theorem clsS_some {s : Str} {j : Nat} (h : Nat → Bool) {a z : Int} {k : Nat} (e : clsE s j = some (a, z, k)) : clsS s j h = clsL s k (fun c => h c || (decide (a ≤ (c : Int)) && decide ((c : Int) ≤ z))) := by rw [clsS, e]
theorem chAt_def (s : Str) (i : Nat) : chAt s i = (decide (i < s.length) && isCh (at8 s i)) := rfl
theorem chAt_lt {s : Str} {i : Nat} (h : chAt s i = true) : i < s.length := by
  rw [chAt_def, Bool.and_eq_true, decide_eq_true_eq] at h; exact h.1
theorem clsE_no {s : Str} {j : Nat} (h : chAt s j = false) : clsE s j = none := by
  rw [chAt_def] at h; rw [clsE, h]; rfl
theorem clsE_one {s : Str} {j : Nat} (h : chAt s j = true) (e : isAt s (j + 1) 126 = false) : clsE s j = some (at8 s j, at8 s j, j + 1) := by
  rw [chAt_def] at h; rw [clsE, h, if_pos rfl, e]; simp
theorem clsE_two {s : Str} {j : Nat} (h : chAt s j = true) (e : isAt s (j + 1) 126 = true) (h2 : chAt s (j + 2) = true) (h3 : at8 s j ≤ at8 s (j + 2 : Nat)) : clsE s j = some (at8 s j, at8 s (j + 2 : Nat), j + 3) := by
  rw [chAt_def] at h h2; rw [clsE, h, if_pos rfl, e, if_pos rfl, h2, decide_eq_true h3]; rfl
theorem clsE_bad {s : Str} {j : Nat} (e : isAt s (j + 1) 126 = true) (h2 : chAt s (j + 2) = false ∨ at8 s (j + 2 : Nat) < at8 s j) : clsE s j = none := by
  rw [clsE]
  split
  · rw [if_neg]
    rcases h2 with h2 | h2
    · rw [chAt_def] at h2; rw [h2]; simp
    · simp only [Bool.and_eq_true, decide_eq_true_eq, not_and]
      intro _; omega
  · rfl
theorem atomS_cls {s : Str} {i : Nat} (h1 : isAt s i 46 = false) (h2 : isAt s i 91 = true) : atomS s i = (match clsS s (i + 1) (fun _ => false) with | none => none | some (has, k) => some (patC (clsT has), k)) := by
  rw [atomS, if_neg (by rw [h1]; simp), if_pos h2, clsS]
  cases e : clsE s (i + 1) with
  | none => rfl
  | some p =>
    obtain ⟨a, z, j⟩ := p
    simp only [Bool.false_or]
    rfl
theorem atomS_dot {s : Str} {i : Nat} (h1 : isAt s i 46 = true) : atomS s i = some (patC anyT, i + 1) := by rw [atomS, if_pos h1]
theorem atomS_chr {s : Str} {i : Nat} (h1 : isAt s i 46 = false) (h2 : isAt s i 91 = false) (hi : i < s.length) (h3 : chAt s i = true) (h4 : ¬ at8 s i = 95) : atomS s i = some (patC ((s.take (i + 1)).drop i), i + 1) := by
  have h5 : ¬ at8 s i = 46 := fun e => by rw [isAt_yes ⟨hi, e⟩] at h1; cases h1
  rw [atomS, if_neg (by rw [h1]; simp), if_neg (by rw [h2]; simp), if_pos]
  rw [chAt_def, isCh] at h3
  have e1 : (at8 s i == 95) = false := by simpa using h4
  have e2 : (at8 s i == 46) = false := by simpa using h5
  rw [e1, e2, Bool.or_false, Bool.or_false] at h3
  exact h3
theorem atomS_no {s : Str} {i : Nat} (h1 : isAt s i 46 = false) (h2 : isAt s i 91 = false) (hi : i < s.length) (h3 : chAt s i = true → at8 s i = 95) : atomS s i = none := by
  rw [atomS, if_neg (by rw [h1]; simp), if_neg (by rw [h2]; simp), if_neg]
  intro h
  have hc : chAt s i = true := by
    rw [chAt_def, isCh]
    simp only [Bool.and_eq_true, Bool.or_eq_true] at h ⊢
    exact ⟨h.1, by rcases h.2 with (e | e) | e <;> simp [e]⟩
  have := h3 hc
  rw [this] at h
  simp [ltI, digI] at h
end Go.Dt
