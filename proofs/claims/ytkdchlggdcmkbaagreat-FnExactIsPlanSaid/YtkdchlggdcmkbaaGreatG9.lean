/-
  Part of a proof: Pt3, Pq0, Pt4, Pt5.
-/
import Derived.Test.YtkdchlggdcmkbaaGreatG2
import Derived.Test.YtkdchlggdcmkbaaGreatG7
import Derived.Test.YtkdchlggdcmkbaaGreatG8
set_option linter.unusedSimpArgs false
set_option linter.unusedVariables false
namespace Go.Dt
open Go.Ab
theorem isAt_iff {s : Str} {i : Nat} {c : Int} : isAt s i c = true ↔ i < s.length ∧ at8 s i = c := by simp [isAt]
theorem clsL_bd {s : Str} : ∀ (n i : Nat) (has : Nat → Bool) (h' : Nat → Bool) (k : Nat), s.length - i < n → clsL s i has = some (h', k) → i < k ∧ k ≤ s.length
  | 0, _, _, _, _, h, _ => by omega
  | n + 1, i, has, h', k, hn, h => by
    rw [clsL] at h
    split at h
    · rename_i h1
      have := isAt_iff.1 h1
      simp only [Option.some.injEq, Prod.mk.injEq] at h; omega
    · split at h
      · cases h
      · rename_i a z j he
        have h2 := clsE_lt he
        have := clsL_bd n j _ h' k (by omega) h
        omega
theorem atomS_bd {s : Str} {i : Nat} {p : GPat} {j : Nat} (h : atomS s i = some (p, j)) : i < j ∧ j ≤ s.length := by
  unfold atomS at h
  split at h
  · rename_i h1
    have := isAt_iff.1 h1
    simp only [Option.some.injEq, Prod.mk.injEq] at h; omega
  · split at h
    · split at h
      · cases h
      · rename_i a z k he
        have h2 := clsE_lt he
        split at h
        · cases h
        · rename_i has k' hc
          have := clsL_bd (s.length + 1) _ _ _ _ (by omega) hc
          simp only [Option.some.injEq, Prod.mk.injEq] at h; omega
    · split at h
      · rename_i h3
        simp only [Bool.and_eq_true, decide_eq_true_eq] at h3
        simp only [Option.some.injEq, Prod.mk.injEq] at h; omega
      · cases h
theorem pBd (s : Str) : ∀ n : Nat,
    (∀ i p j, 5 * (s.length - i) + 4 < n → i ≤ s.length → pAlt s i = some (p, j) → i ≤ j ∧ j ≤ s.length) ∧
    (∀ i l p j, 5 * (s.length - i) + 3 < n → i ≤ s.length → pAltL s i l = some (p, j) → i ≤ j ∧ j ≤ s.length) ∧
    (∀ i l p j, 5 * (s.length - i) + 2 < n → i ≤ s.length → pSeq s i l = some (p, j) → i ≤ j ∧ j ≤ s.length) ∧
    (∀ i p j, 5 * (s.length - i) + 1 < n → pAtom s i = some (p, j) → i < j ∧ j ≤ s.length)
  | 0 => ⟨by omega, by omega, by omega, by omega⟩
  | n + 1 => by
    obtain ⟨i1, i2, i3, i4⟩ := pBd s n
    refine ⟨?_, ?_, ?_, ?_⟩
    · intro i p j hn hi h
      rw [pAlt] at h
      split at h
      · cases h
      · rename_i q k hq
        split at h
        · have a1 := i3 i [] q k (by omega) hi hq
          have a2 := i2 k [q] p j (by omega) (by omega) h
          omega
        · cases h
    · intro i l p j hn hi h
      rw [pAltL] at h
      split at h
      · split at h
        · split at h
          · cases h
          · rename_i q k hq
            split at h
            · have a1 := i3 (i + 1) [] q k (by omega) (by omega) hq
              have a2 := i2 k (l ++ [q]) p j (by omega) (by omega) h
              omega
            · cases h
        · simp only [Option.some.injEq, Prod.mk.injEq] at h; omega
      · simp only [Option.some.injEq, Prod.mk.injEq] at h; omega
    · intro i l p j hn hi h
      rw [pSeq] at h
      split at h
      · split at h
        · simp only [Option.some.injEq, Prod.mk.injEq] at h; omega
        · split at h
          · cases h
          · rename_i q k hq
            split at h
            · rename_i hlt
              have a1 := i4 i q k (by omega) hq
              have a3 := post_ge s q a1.2
              have a2 := i3 _ _ p j (by omega) a3 h
              omega
            · cases h
      · simp only [Option.some.injEq, Prod.mk.injEq] at h; omega
    · intro i p j hn h
      rw [pAtom] at h
      split at h
      · split at h
        · split at h
          · cases h
          · rename_i q k hq
            split at h
            · rename_i h41
              have a1 := i1 (i + 1) q k (by omega) (by omega) hq
              have := isAt_iff.1 h41
              simp only [Option.some.injEq, Prod.mk.injEq] at h; omega
            · cases h
        · exact atomS_bd h
      · cases h
theorem pAtom_bd {s : Str} {i : Nat} {p : GPat} {j : Nat} (h : pAtom s i = some (p, j)) : i < j ∧ j ≤ s.length := (pBd s _).2.2.2 i p j (Nat.lt_succ_self _) h
theorem pSeq_bd {s : Str} {i : Nat} {l : List GPat} {p : GPat} {j : Nat} (hi : i ≤ s.length) (h : pSeq s i l = some (p, j)) : i ≤ j ∧ j ≤ s.length := (pBd s _).2.2.1 i l p j (Nat.lt_succ_self _) hi h
/-- an atom and what stands behind it -/
def pItem (s : Str) (i : Nat) : Option (GPat × Nat) :=
  match pAtom s i with
  | none => none
  | some (p, j) => some (post s p j)
theorem pItem_bd {s : Str} {i : Nat} {p : GPat} {j : Nat} (h : pItem s i = some (p, j)) : i < j ∧ j ≤ s.length := by
  unfold pItem at h
  split at h
  · cases h
  · rename_i q k hq
    have a1 := pAtom_bd hq
    have a2 := post_le s q k
    have a3 := post_ge s q a1.2
    simp only [Option.some.injEq] at h
    rw [h] at a2 a3
    omega
theorem pSeq_stop {s : Str} {i : Nat} (l : List GPat) (h : i < s.length → at8 s i = 124 ∨ at8 s i = 41) : pSeq s i l = some (mkSeq l, i) := by
  rw [pSeq]
  split
  · rename_i hi; rw [if_pos (h hi)]
  · rfl
theorem pSeq_none {s : Str} {i : Nat} (l : List GPat) (hi : i < s.length) (h1 : ¬ at8 s i = 124) (h2 : ¬ at8 s i = 41) (h : pItem s i = none) : pSeq s i l = none := by
  rw [pSeq, dif_pos hi, if_neg (by omega)]
  unfold pItem at h
  split at h
  · rename_i hq; rw [hq]
  · cases h
theorem pSeq_go {s : Str} {i : Nat} (l : List GPat) {p : GPat} {j : Nat} (hi : i < s.length) (h1 : ¬ at8 s i = 124) (h2 : ¬ at8 s i = 41) (h : pItem s i = some (p, j)) : pSeq s i l = pSeq s j (l ++ [p]) := by
  have hb := pItem_bd h
  conv => lhs; rw [pSeq]
  rw [dif_pos hi, if_neg (by omega)]
  unfold pItem at h
  split at h
  · cases h
  · rename_i q k hq
    simp only [Option.some.injEq] at h
    rw [hq]
    simp only [h]
    rw [dif_pos hb.1]
theorem pAlt_none {s : Str} {i : Nat} (h : pSeq s i [] = none) : pAlt s i = none := by rw [pAlt, h]
theorem pAlt_go {s : Str} {i : Nat} {p : GPat} {j : Nat} (hi : i ≤ s.length) (h : pSeq s i [] = some (p, j)) : pAlt s i = pAltL s j [p] := by
  have := pSeq_bd hi h
  rw [pAlt, h]; simp only [if_pos this.1]
theorem pAltL_stop {s : Str} {j : Nat} (l : List GPat) (h : isAt s j 124 = false) : pAltL s j l = some (mkAlt l, j) := by
  rw [pAltL]
  split
  · rename_i hj
    rw [if_neg]
    intro e
    rw [isAt_yes ⟨hj, e⟩] at h; cases h
  · rfl
theorem pAltL_none {s : Str} {j : Nat} (l : List GPat) (h : isAt s j 124 = true) (hq : pSeq s (j + 1) [] = none) : pAltL s j l = none := by
  have := isAt_iff.1 h
  rw [pAltL, dif_pos this.1, if_pos this.2, hq]
theorem pAltL_go {s : Str} {j : Nat} (l : List GPat) {p : GPat} {k : Nat} (h : isAt s j 124 = true) (hq : pSeq s (j + 1) [] = some (p, k)) : pAltL s j l = pAltL s k (l ++ [p]) := by
  have := isAt_iff.1 h
  have hb := pSeq_bd (by omega) hq
  conv => lhs; rw [pAltL]
  rw [dif_pos this.1, if_pos this.2, hq]
  simp only [if_pos (show j < k by omega)]
theorem pAtom_open0 {s : Str} {i : Nat} (h : isAt s i 40 = true) (hq : pAlt s (i + 1) = none) : pAtom s i = none := by
  have := isAt_iff.1 h
  rw [pAtom, dif_pos this.1, if_pos this.2, hq]
theorem pAtom_open1 {s : Str} {i : Nat} {p : GPat} {j : Nat} (h : isAt s i 40 = true) (hq : pAlt s (i + 1) = some (p, j)) (h1 : isAt s j 41 = true) : pAtom s i = some (p, j + 1) := by
  have := isAt_iff.1 h
  rw [pAtom, dif_pos this.1, if_pos this.2, hq]; simp only [h1, if_true]
theorem pAtom_open2 {s : Str} {i : Nat} {p : GPat} {j : Nat} (h : isAt s i 40 = true) (hq : pAlt s (i + 1) = some (p, j)) (h1 : isAt s j 41 = false) : pAtom s i = none := by
  have := isAt_iff.1 h
  rw [pAtom, dif_pos this.1, if_pos this.2, hq]; simp only [h1]; rfl
theorem pAtom_else {s : Str} {i : Nat} (hi : i < s.length) (h : isAt s i 40 = false) : pAtom s i = atomS s i := by
  rw [pAtom, dif_pos hi, if_neg]
  intro e; rw [isAt_yes ⟨hi, e⟩] at h; cases h
end Go.Dt
namespace Go.Dt
open Go.Ab
@[go_sem] theorem fOp_mk (a : Int) (b : Str) (c : List GPat) : (GPat.mk a b c).fOp = a := rfl
@[go_sem] theorem fText_mk (a : Int) (b : Str) (c : List GPat) : (GPat.mk a b c).fText = b := rfl
@[go_sem] theorem fKids_mk (a : Int) (b : Str) (c : List GPat) : (GPat.mk a b c).fKids = c := rfl
/-- the reader of a pattern: a text, a place, has it failed -/
def rdC (s : Str) (i : Nat) (bad : Bool) : List AV := [.str s, .v (.int .i64 i), .v (.bool bad)]
/-- what reading a part of a pattern from i on gives -/
def RdQ (b : Nat) (s : Str) (i : Nat) (r : Option (GPat × Nat)) (res : AV) (os : Sto) : Prop :=
  ∃ p j bad, (bad = false ∧ r = some (p, j) ∨ bad = true ∧ r = none) ∧ (i ≤ j ∧ j ≤ s.length) ∧ res = encPat p ∧ os = [(b, some (rdC s j bad))]
theorem RdQ.yes {b : Nat} {s : Str} {i : Nat} {r : Option (GPat × Nat)} {p : GPat} {j : Nat} (h : r = some (p, j)) (hj : i ≤ j ∧ j ≤ s.length) : RdQ b s i r (encPat p) [(b, some (rdC s j false))] := ⟨p, j, false, .inl ⟨rfl, h⟩, hj, rfl, rfl⟩
theorem RdQ.no {b : Nat} {s : Str} {i : Nat} {r : Option (GPat × Nat)} (p : GPat) {j : Nat} (h : r = none) (hj : i ≤ j ∧ j ≤ s.length) : RdQ b s i r (encPat p) [(b, some (rdC s j true))] := ⟨p, j, true, .inr ⟨rfl, h⟩, hj, rfl, rfl⟩
theorem GK.rdB {os : Sto} {b : Nat} {c : Option (List AV)} {s : Str} {i : Nat} {r : Option (GPat × Nat)} {K : AV → Sto → Prop} (h : ∀ p j bad, (bad = false ∧ r = some (p, j) ∨ bad = true ∧ r = none) → i ≤ j ∧ j ≤ s.length → K (encPat p) (mergeO os [(b, some (rdC s j bad))])) : GK os [(b, c)] (RdQ b s i r) (K := ⟨K⟩) := by
  refine GK.intro ?_
  rintro res os' ⟨p, j, bad, hr, hj, rfl, rfl⟩
  exact ⟨rfl, h p j bad hr hj⟩
theorem GK.rd {os : Sto} {b : Nat} {c : Option (List AV)} {s : Str} {i : Nat} {r : Option (GPat × Nat)} {K : AV → Sto → Prop} (h1 : ∀ p j, r = some (p, j) → i ≤ j ∧ j ≤ s.length → K (encPat p) (mergeO os [(b, some (rdC s j false))])) (h2 : ∀ p j, r = none → i ≤ j ∧ j ≤ s.length → K (encPat p) (mergeO os [(b, some (rdC s j true))])) : GK os [(b, c)] (RdQ b s i r) (K := ⟨K⟩) := by
  refine GK.rdB ?_
  rintro p j bad (⟨rfl, h⟩ | ⟨rfl, h⟩) hj
  · exact h1 p j h hj
  · exact h2 p j h hj
theorem EndsG.finQ {L : Nat → Nat} {P : Program} {n : Nat} {fn : Func} {t : List (Nat × AV)} {o o' : Sto} {rs : List ResultVar} {res : AV} {Q : AV → Sto → Prop} (hr : fn.results = rs.toArray) (hQ : Q res o') (h : resW P n rs t o [] (fun xs os => oneA xs = res ∧ subO o' os)) : EndsG L P fn ⟨n, t, o⟩ Q := by
  have := EndsG.fin (L := L) hr h
  intro B F0 w0 a w hd
  obtain ⟨v, res', os', F', own', fs', fp, h3, ⟨rfl, rfl⟩, h5⟩ := this B F0 w0 a w hd
  exact ⟨v, res', os', F', own', fs', fp, h3, hQ, h5⟩
attribute [go_sem] rdC Int.toNat_zero
end Go.Dt
namespace Go.Proofs.YtkdchlggdcmkbaaGreat
open Go.Ab Go.Dt
set_option maxRecDepth 20000
set_option maxHeartbeats 4000000

theorem item_n (n : Nat) (hatom : ∀ (b : Nat) (s : Str) (i : Nat), GCtr lim Tryz.prog 236 [(b, some [.str s, .v (.int .i64 i), .v (.bool false)])] [.ptr b 0] (RdQ b s i (pAtom s i)) (i < s.length ∧ s.length ≤ 30 ∧ s.length - i < n)) (b : Nat) (s : Str) (i : Nat) :
    GCtr lim Tryz.prog 229 [(b, some [.str s, .v (.int .i64 i), .v (.bool false)])] [.ptr b 0] (RdQ b s i (pItem s i)) (i < s.length ∧ s.length ≤ 30 ∧ s.length - i < n) := by
  refine GCtr.of_body en229 Tryz.func229 rfl rfl fun hp => (?_); rw [Tryz.ntmps229]
  (repeat' (first | (with_reducible first | refine Z ?_ | refine Y ?_ | (refine hK _ _ ?_; clear hK K) | exact trivial | refine And.intro ?_ ?_) | with_reducible rfl | ((with_reducible refine E ?_); (with_reducible repeat refine Y ?_); refine eF rfl ?_) | (with_reducible refine fun (K : _ → _ → Prop) hK => ?_) | (with_reducible show drawOK _ _ = true; kernel_rfl) | (with_reducible refine gI fun hg => ?_; try simp only [hC, reduceCtorEq] at hg; try simp only [hg]) | simp (maxSteps := 2000000) (disch := omega) only [go_sem] | (with_reducible intro hg; try simp only [hC, reduceCtorEq] at hg) | (with_reducible show List.Nodup _; decide) | (with_reducible show (_ : Bool) = false; first | rfl | (simp [*]; done)) | with_reducible exact at8_le _ _ | with_reducible exact at8_ge _ _ | (simp only [hC, reduceCtorEq]; omega) | omega | with_reducible assumption | (with_reducible show (_ : Bool) = true; first | (simp [*]; done) | (simp only [hC, reduceCtorEq]; (repeat' (first | assumption | apply And.intro)); done))))
  rename_i b2
  have hpi0 : ∀ p j, pAtom s i = some (p, j) → pItem s i = some (post s p j) := fun p j h => by rw [pItem, h]
  refine GK.rd (fun p j hq hj => ?_) (fun p j hq hj => ?_)
  · have hb := pAtom_bd hq
    have hpi := hpi0 p j hq
    (repeat' (first | (with_reducible first | refine Z ?_ | refine Y ?_ | (refine hK _ _ ?_; clear hK K) | exact trivial | refine And.intro ?_ ?_) | with_reducible rfl | ((with_reducible refine E ?_); (with_reducible repeat refine Y ?_); refine eF rfl ?_) | (with_reducible refine fun (K : _ → _ → Prop) hK => ?_) | (with_reducible show drawOK _ _ = true; kernel_rfl) | (with_reducible refine gI fun hg => ?_; try simp only [hC, reduceCtorEq] at hg; try simp only [hg]) | simp (maxSteps := 2000000) (disch := omega) only [go_sem] | (with_reducible intro hg; try simp only [hC, reduceCtorEq] at hg) | (with_reducible show List.Nodup _; decide) | (with_reducible show (_ : Bool) = false; first | rfl | (simp [*]; done)) | with_reducible exact at8_le _ _ | with_reducible exact at8_ge _ _ | (simp only [hC, reduceCtorEq]; omega) | omega | with_reducible assumption | (with_reducible show (_ : Bool) = true; first | (simp [*]; done) | (simp only [hC, reduceCtorEq]; (repeat' (first | assumption | apply And.intro)); done))))
    rename_i b3
    (refine AW.i rfl (fun h => ?_) (fun h => ?_) <;> try simp only [hC, reduceCtorEq] at h)
    · simp only [h, cond_true]
      have hlt := isAt_iff.1 h
      (repeat' (first | (with_reducible first | refine Z ?_ | refine Y ?_ | (refine hK _ _ ?_; clear hK K) | exact trivial | refine And.intro ?_ ?_) | with_reducible rfl | ((with_reducible refine E ?_); (with_reducible repeat refine Y ?_); refine eF rfl ?_) | (with_reducible refine fun (K : _ → _ → Prop) hK => ?_) | (with_reducible show drawOK _ _ = true; kernel_rfl) | (with_reducible refine gI fun hg => ?_; try simp only [hC, reduceCtorEq] at hg; try simp only [hg]) | simp (maxSteps := 2000000) (disch := omega) only [go_sem] | (with_reducible intro hg; try simp only [hC, reduceCtorEq] at hg) | (with_reducible show List.Nodup _; decide) | (with_reducible show (_ : Bool) = false; first | rfl | (simp [*]; done)) | with_reducible exact at8_le _ _ | with_reducible exact at8_ge _ _ | (simp only [hC, reduceCtorEq]; omega) | omega | with_reducible assumption | (with_reducible show (_ : Bool) = true; first | (simp [*]; done) | (simp only [hC, reduceCtorEq]; (repeat' (first | assumption | apply And.intro)); done))))
      (refine AW.ret (EndsG.imp (Imp.frzO (b := b2) (by simp (maxSteps := 2000000) (disch := omega) only [go_sem]; rfl) ?_)); simp (maxSteps := 2000000) (disch := omega) only [go_sem]; refine EndsG.finQ rfl (RdQ.yes (p := .mk 4 [] [p]) (j := j + 1) (by rw [hpi, post]; simp [*]) (by omega)) ?_; simp (maxSteps := 2000000) (disch := omega) only [go_sem])
    · simp only [h, cond_false]
      (repeat' (first | (with_reducible first | refine Z ?_ | refine Y ?_ | (refine hK _ _ ?_; clear hK K) | exact trivial | refine And.intro ?_ ?_) | with_reducible rfl | ((with_reducible refine E ?_); (with_reducible repeat refine Y ?_); refine eF rfl ?_) | (with_reducible refine fun (K : _ → _ → Prop) hK => ?_) | (with_reducible show drawOK _ _ = true; kernel_rfl) | (with_reducible refine gI fun hg => ?_; try simp only [hC, reduceCtorEq] at hg; try simp only [hg]) | simp (maxSteps := 2000000) (disch := omega) only [go_sem] | (with_reducible intro hg; try simp only [hC, reduceCtorEq] at hg) | (with_reducible show List.Nodup _; decide) | (with_reducible show (_ : Bool) = false; first | rfl | (simp [*]; done)) | with_reducible exact at8_le _ _ | with_reducible exact at8_ge _ _ | (simp only [hC, reduceCtorEq]; omega) | omega | with_reducible assumption | (with_reducible show (_ : Bool) = true; first | (simp [*]; done) | (simp only [hC, reduceCtorEq]; (repeat' (first | assumption | apply And.intro)); done))))
      (refine AW.i rfl (fun h => ?_) (fun h => ?_) <;> try simp only [hC, reduceCtorEq] at h)
      · simp only [h, cond_true]
        have hlt := isAt_iff.1 h
        (repeat' (first | (with_reducible first | refine Z ?_ | refine Y ?_ | (refine hK _ _ ?_; clear hK K) | exact trivial | refine And.intro ?_ ?_) | with_reducible rfl | ((with_reducible refine E ?_); (with_reducible repeat refine Y ?_); refine eF rfl ?_) | (with_reducible refine fun (K : _ → _ → Prop) hK => ?_) | (with_reducible show drawOK _ _ = true; kernel_rfl) | (with_reducible refine gI fun hg => ?_; try simp only [hC, reduceCtorEq] at hg; try simp only [hg]) | simp (maxSteps := 2000000) (disch := omega) only [go_sem] | (with_reducible intro hg; try simp only [hC, reduceCtorEq] at hg) | (with_reducible show List.Nodup _; decide) | (with_reducible show (_ : Bool) = false; first | rfl | (simp [*]; done)) | with_reducible exact at8_le _ _ | with_reducible exact at8_ge _ _ | (simp only [hC, reduceCtorEq]; omega) | omega | with_reducible assumption | (with_reducible show (_ : Bool) = true; first | (simp [*]; done) | (simp only [hC, reduceCtorEq]; (repeat' (first | assumption | apply And.intro)); done))))
        (refine AW.ret (EndsG.imp (Imp.frzO (b := b2) (by simp (maxSteps := 2000000) (disch := omega) only [go_sem]; rfl) ?_)); simp (maxSteps := 2000000) (disch := omega) only [go_sem]; refine EndsG.finQ rfl (RdQ.yes (p := .mk 2 [] [p, .mk 4 [] [p]]) (j := j + 1) (by rw [hpi, post]; simp [*]) (by omega)) ?_; simp (maxSteps := 2000000) (disch := omega) only [go_sem])
      · simp only [h, cond_false]
        (repeat' (first | (with_reducible first | refine Z ?_ | refine Y ?_ | (refine hK _ _ ?_; clear hK K) | exact trivial | refine And.intro ?_ ?_) | with_reducible rfl | ((with_reducible refine E ?_); (with_reducible repeat refine Y ?_); refine eF rfl ?_) | (with_reducible refine fun (K : _ → _ → Prop) hK => ?_) | (with_reducible show drawOK _ _ = true; kernel_rfl) | (with_reducible refine gI fun hg => ?_; try simp only [hC, reduceCtorEq] at hg; try simp only [hg]) | simp (maxSteps := 2000000) (disch := omega) only [go_sem] | (with_reducible intro hg; try simp only [hC, reduceCtorEq] at hg) | (with_reducible show List.Nodup _; decide) | (with_reducible show (_ : Bool) = false; first | rfl | (simp [*]; done)) | with_reducible exact at8_le _ _ | with_reducible exact at8_ge _ _ | (simp only [hC, reduceCtorEq]; omega) | omega | with_reducible assumption | (with_reducible show (_ : Bool) = true; first | (simp [*]; done) | (simp only [hC, reduceCtorEq]; (repeat' (first | assumption | apply And.intro)); done))))
        (refine AW.i rfl (fun h => ?_) (fun h => ?_) <;> try simp only [hC, reduceCtorEq] at h)
        · simp only [h, cond_true]
          have hlt := isAt_iff.1 h
          (repeat' (first | (with_reducible first | refine Z ?_ | refine Y ?_ | (refine hK _ _ ?_; clear hK K) | exact trivial | refine And.intro ?_ ?_) | with_reducible rfl | ((with_reducible refine E ?_); (with_reducible repeat refine Y ?_); refine eF rfl ?_) | (with_reducible refine fun (K : _ → _ → Prop) hK => ?_) | (with_reducible show drawOK _ _ = true; kernel_rfl) | (with_reducible refine gI fun hg => ?_; try simp only [hC, reduceCtorEq] at hg; try simp only [hg]) | simp (maxSteps := 2000000) (disch := omega) only [go_sem] | (with_reducible intro hg; try simp only [hC, reduceCtorEq] at hg) | (with_reducible show List.Nodup _; decide) | (with_reducible show (_ : Bool) = false; first | rfl | (simp [*]; done)) | with_reducible exact at8_le _ _ | with_reducible exact at8_ge _ _ | (simp only [hC, reduceCtorEq]; omega) | omega | with_reducible assumption | (with_reducible show (_ : Bool) = true; first | (simp [*]; done) | (simp only [hC, reduceCtorEq]; (repeat' (first | assumption | apply And.intro)); done))))
          (refine AW.ret (EndsG.imp (Imp.frzO (b := b2) (by simp (maxSteps := 2000000) (disch := omega) only [go_sem]; rfl) ?_)); simp (maxSteps := 2000000) (disch := omega) only [go_sem]; refine EndsG.finQ rfl (RdQ.yes (p := .mk 5 [] [p]) (j := j + 1) (by rw [hpi, post]; simp [*]) (by omega)) ?_; simp (maxSteps := 2000000) (disch := omega) only [go_sem])
        · simp only [h, cond_false]
          (repeat' (first | (with_reducible first | refine Z ?_ | refine Y ?_ | (refine hK _ _ ?_; clear hK K) | exact trivial | refine And.intro ?_ ?_) | with_reducible rfl | ((with_reducible refine E ?_); (with_reducible repeat refine Y ?_); refine eF rfl ?_) | (with_reducible refine fun (K : _ → _ → Prop) hK => ?_) | (with_reducible show drawOK _ _ = true; kernel_rfl) | (with_reducible refine gI fun hg => ?_; try simp only [hC, reduceCtorEq] at hg; try simp only [hg]) | simp (maxSteps := 2000000) (disch := omega) only [go_sem] | (with_reducible intro hg; try simp only [hC, reduceCtorEq] at hg) | (with_reducible show List.Nodup _; decide) | (with_reducible show (_ : Bool) = false; first | rfl | (simp [*]; done)) | with_reducible exact at8_le _ _ | with_reducible exact at8_ge _ _ | (simp only [hC, reduceCtorEq]; omega) | omega | with_reducible assumption | (with_reducible show (_ : Bool) = true; first | (simp [*]; done) | (simp only [hC, reduceCtorEq]; (repeat' (first | assumption | apply And.intro)); done))))
          (refine AW.ret (EndsG.imp (Imp.frzO (b := b2) (by simp (maxSteps := 2000000) (disch := omega) only [go_sem]; rfl) ?_)); simp (maxSteps := 2000000) (disch := omega) only [go_sem]; refine EndsG.finQ rfl (RdQ.yes (p := p) (j := j) (by rw [hpi, post]; simp [*]) (by omega)) ?_; simp (maxSteps := 2000000) (disch := omega) only [go_sem])
  · have hpi : pItem s i = none := by rw [pItem, hq]
    (repeat' (first | (with_reducible first | refine Z ?_ | refine Y ?_ | (refine hK _ _ ?_; clear hK K) | exact trivial | refine And.intro ?_ ?_) | with_reducible rfl | ((with_reducible refine E ?_); (with_reducible repeat refine Y ?_); refine eF rfl ?_) | (with_reducible refine fun (K : _ → _ → Prop) hK => ?_) | (with_reducible show drawOK _ _ = true; kernel_rfl) | (with_reducible refine gI fun hg => ?_; try simp only [hC, reduceCtorEq] at hg; try simp only [hg]) | simp (maxSteps := 2000000) (disch := omega) only [go_sem] | (with_reducible intro hg; try simp only [hC, reduceCtorEq] at hg) | (with_reducible show List.Nodup _; decide) | (with_reducible show (_ : Bool) = false; first | rfl | (simp [*]; done)) | with_reducible exact at8_le _ _ | with_reducible exact at8_ge _ _ | (simp only [hC, reduceCtorEq]; omega) | omega | with_reducible assumption | (with_reducible show (_ : Bool) = true; first | (simp [*]; done) | (simp only [hC, reduceCtorEq]; (repeat' (first | assumption | apply And.intro)); done))))
    rename_i b3
    (refine AW.i rfl (fun h => ?_) (fun h => ?_) <;> try simp only [hC, reduceCtorEq] at h)
    · simp only [h, cond_true]
      have hlt := isAt_iff.1 h
      (repeat' (first | (with_reducible first | refine Z ?_ | refine Y ?_ | (refine hK _ _ ?_; clear hK K) | exact trivial | refine And.intro ?_ ?_) | with_reducible rfl | ((with_reducible refine E ?_); (with_reducible repeat refine Y ?_); refine eF rfl ?_) | (with_reducible refine fun (K : _ → _ → Prop) hK => ?_) | (with_reducible show drawOK _ _ = true; kernel_rfl) | (with_reducible refine gI fun hg => ?_; try simp only [hC, reduceCtorEq] at hg; try simp only [hg]) | simp (maxSteps := 2000000) (disch := omega) only [go_sem] | (with_reducible intro hg; try simp only [hC, reduceCtorEq] at hg) | (with_reducible show List.Nodup _; decide) | (with_reducible show (_ : Bool) = false; first | rfl | (simp [*]; done)) | with_reducible exact at8_le _ _ | with_reducible exact at8_ge _ _ | (simp only [hC, reduceCtorEq]; omega) | omega | with_reducible assumption | (with_reducible show (_ : Bool) = true; first | (simp [*]; done) | (simp only [hC, reduceCtorEq]; (repeat' (first | assumption | apply And.intro)); done))))
      (refine AW.ret (EndsG.imp (Imp.frzO (b := b2) (by simp (maxSteps := 2000000) (disch := omega) only [go_sem]; rfl) ?_)); simp (maxSteps := 2000000) (disch := omega) only [go_sem]; refine EndsG.finQ rfl (RdQ.no (.mk 4 [] [p]) (j := j + 1) hpi (by omega)) ?_; simp (maxSteps := 2000000) (disch := omega) only [go_sem])
    · simp only [h, cond_false]
      (repeat' (first | (with_reducible first | refine Z ?_ | refine Y ?_ | (refine hK _ _ ?_; clear hK K) | exact trivial | refine And.intro ?_ ?_) | with_reducible rfl | ((with_reducible refine E ?_); (with_reducible repeat refine Y ?_); refine eF rfl ?_) | (with_reducible refine fun (K : _ → _ → Prop) hK => ?_) | (with_reducible show drawOK _ _ = true; kernel_rfl) | (with_reducible refine gI fun hg => ?_; try simp only [hC, reduceCtorEq] at hg; try simp only [hg]) | simp (maxSteps := 2000000) (disch := omega) only [go_sem] | (with_reducible intro hg; try simp only [hC, reduceCtorEq] at hg) | (with_reducible show List.Nodup _; decide) | (with_reducible show (_ : Bool) = false; first | rfl | (simp [*]; done)) | with_reducible exact at8_le _ _ | with_reducible exact at8_ge _ _ | (simp only [hC, reduceCtorEq]; omega) | omega | with_reducible assumption | (with_reducible show (_ : Bool) = true; first | (simp [*]; done) | (simp only [hC, reduceCtorEq]; (repeat' (first | assumption | apply And.intro)); done))))
      (refine AW.i rfl (fun h => ?_) (fun h => ?_) <;> try simp only [hC, reduceCtorEq] at h)
      · simp only [h, cond_true]
        have hlt := isAt_iff.1 h
        (repeat' (first | (with_reducible first | refine Z ?_ | refine Y ?_ | (refine hK _ _ ?_; clear hK K) | exact trivial | refine And.intro ?_ ?_) | with_reducible rfl | ((with_reducible refine E ?_); (with_reducible repeat refine Y ?_); refine eF rfl ?_) | (with_reducible refine fun (K : _ → _ → Prop) hK => ?_) | (with_reducible show drawOK _ _ = true; kernel_rfl) | (with_reducible refine gI fun hg => ?_; try simp only [hC, reduceCtorEq] at hg; try simp only [hg]) | simp (maxSteps := 2000000) (disch := omega) only [go_sem] | (with_reducible intro hg; try simp only [hC, reduceCtorEq] at hg) | (with_reducible show List.Nodup _; decide) | (with_reducible show (_ : Bool) = false; first | rfl | (simp [*]; done)) | with_reducible exact at8_le _ _ | with_reducible exact at8_ge _ _ | (simp only [hC, reduceCtorEq]; omega) | omega | with_reducible assumption | (with_reducible show (_ : Bool) = true; first | (simp [*]; done) | (simp only [hC, reduceCtorEq]; (repeat' (first | assumption | apply And.intro)); done))))
        (refine AW.ret (EndsG.imp (Imp.frzO (b := b2) (by simp (maxSteps := 2000000) (disch := omega) only [go_sem]; rfl) ?_)); simp (maxSteps := 2000000) (disch := omega) only [go_sem]; refine EndsG.finQ rfl (RdQ.no (.mk 2 [] [p, .mk 4 [] [p]]) (j := j + 1) hpi (by omega)) ?_; simp (maxSteps := 2000000) (disch := omega) only [go_sem])
      · simp only [h, cond_false]
        (repeat' (first | (with_reducible first | refine Z ?_ | refine Y ?_ | (refine hK _ _ ?_; clear hK K) | exact trivial | refine And.intro ?_ ?_) | with_reducible rfl | ((with_reducible refine E ?_); (with_reducible repeat refine Y ?_); refine eF rfl ?_) | (with_reducible refine fun (K : _ → _ → Prop) hK => ?_) | (with_reducible show drawOK _ _ = true; kernel_rfl) | (with_reducible refine gI fun hg => ?_; try simp only [hC, reduceCtorEq] at hg; try simp only [hg]) | simp (maxSteps := 2000000) (disch := omega) only [go_sem] | (with_reducible intro hg; try simp only [hC, reduceCtorEq] at hg) | (with_reducible show List.Nodup _; decide) | (with_reducible show (_ : Bool) = false; first | rfl | (simp [*]; done)) | with_reducible exact at8_le _ _ | with_reducible exact at8_ge _ _ | (simp only [hC, reduceCtorEq]; omega) | omega | with_reducible assumption | (with_reducible show (_ : Bool) = true; first | (simp [*]; done) | (simp only [hC, reduceCtorEq]; (repeat' (first | assumption | apply And.intro)); done))))
        (refine AW.i rfl (fun h => ?_) (fun h => ?_) <;> try simp only [hC, reduceCtorEq] at h)
        · simp only [h, cond_true]
          have hlt := isAt_iff.1 h
          (repeat' (first | (with_reducible first | refine Z ?_ | refine Y ?_ | (refine hK _ _ ?_; clear hK K) | exact trivial | refine And.intro ?_ ?_) | with_reducible rfl | ((with_reducible refine E ?_); (with_reducible repeat refine Y ?_); refine eF rfl ?_) | (with_reducible refine fun (K : _ → _ → Prop) hK => ?_) | (with_reducible show drawOK _ _ = true; kernel_rfl) | (with_reducible refine gI fun hg => ?_; try simp only [hC, reduceCtorEq] at hg; try simp only [hg]) | simp (maxSteps := 2000000) (disch := omega) only [go_sem] | (with_reducible intro hg; try simp only [hC, reduceCtorEq] at hg) | (with_reducible show List.Nodup _; decide) | (with_reducible show (_ : Bool) = false; first | rfl | (simp [*]; done)) | with_reducible exact at8_le _ _ | with_reducible exact at8_ge _ _ | (simp only [hC, reduceCtorEq]; omega) | omega | with_reducible assumption | (with_reducible show (_ : Bool) = true; first | (simp [*]; done) | (simp only [hC, reduceCtorEq]; (repeat' (first | assumption | apply And.intro)); done))))
          (refine AW.ret (EndsG.imp (Imp.frzO (b := b2) (by simp (maxSteps := 2000000) (disch := omega) only [go_sem]; rfl) ?_)); simp (maxSteps := 2000000) (disch := omega) only [go_sem]; refine EndsG.finQ rfl (RdQ.no (.mk 5 [] [p]) (j := j + 1) hpi (by omega)) ?_; simp (maxSteps := 2000000) (disch := omega) only [go_sem])
        · simp only [h, cond_false]
          (repeat' (first | (with_reducible first | refine Z ?_ | refine Y ?_ | (refine hK _ _ ?_; clear hK K) | exact trivial | refine And.intro ?_ ?_) | with_reducible rfl | ((with_reducible refine E ?_); (with_reducible repeat refine Y ?_); refine eF rfl ?_) | (with_reducible refine fun (K : _ → _ → Prop) hK => ?_) | (with_reducible show drawOK _ _ = true; kernel_rfl) | (with_reducible refine gI fun hg => ?_; try simp only [hC, reduceCtorEq] at hg; try simp only [hg]) | simp (maxSteps := 2000000) (disch := omega) only [go_sem] | (with_reducible intro hg; try simp only [hC, reduceCtorEq] at hg) | (with_reducible show List.Nodup _; decide) | (with_reducible show (_ : Bool) = false; first | rfl | (simp [*]; done)) | with_reducible exact at8_le _ _ | with_reducible exact at8_ge _ _ | (simp only [hC, reduceCtorEq]; omega) | omega | with_reducible assumption | (with_reducible show (_ : Bool) = true; first | (simp [*]; done) | (simp only [hC, reduceCtorEq]; (repeat' (first | assumption | apply And.intro)); done))))
          (refine AW.ret (EndsG.imp (Imp.frzO (b := b2) (by simp (maxSteps := 2000000) (disch := omega) only [go_sem]; rfl) ?_)); simp (maxSteps := 2000000) (disch := omega) only [go_sem]; refine EndsG.finQ rfl (RdQ.no p (j := j) hpi (by omega)) ?_; simp (maxSteps := 2000000) (disch := omega) only [go_sem])
end Go.Proofs.YtkdchlggdcmkbaaGreat
namespace Go.Proofs.YtkdchlggdcmkbaaGreat
open Go.Ab Go.Dt
set_option maxRecDepth 20000
set_option maxHeartbeats 4000000

theorem seq_n (n : Nat) (hitem : ∀ (b : Nat) (s : Str) (i : Nat), GCtr lim Tryz.prog 229 [(b, some [.str s, .v (.int .i64 i), .v (.bool false)])] [.ptr b 0] (RdQ b s i (pItem s i)) (i < s.length ∧ s.length ≤ 30 ∧ s.length - i < n)) (b : Nat) (s : Str) (i : Nat) :
    GCtr lim Tryz.prog 218 [(b, some [.str s, .v (.int .i64 i), .v (.bool false)])] [.ptr b 0] (RdQ b s i (pSeq s i [])) (i ≤ s.length ∧ s.length ≤ 30 ∧ s.length - i < n) := by
  refine GCtr.of_body en218 Tryz.func218 rfl rfl fun hp => (?_); rw [Tryz.ntmps218]
  (repeat' (first | (with_reducible first | refine Z ?_ | refine Y ?_ | (refine hK _ _ ?_; clear hK K) | exact trivial | refine And.intro ?_ ?_) | with_reducible rfl | ((with_reducible refine E ?_); (with_reducible repeat refine Y ?_); refine eF rfl ?_) | (with_reducible refine fun (K : _ → _ → Prop) hK => ?_) | (with_reducible show drawOK _ _ = true; kernel_rfl) | (with_reducible refine gI fun hg => ?_; try simp only [hC, reduceCtorEq] at hg; try simp only [hg]) | simp (maxSteps := 2000000) (disch := omega) only [go_sem] | (with_reducible intro hg; try simp only [hC, reduceCtorEq] at hg) | (with_reducible show List.Nodup _; decide) | (with_reducible show (_ : Bool) = false; first | rfl | (simp [*]; done)) | with_reducible exact at8_le _ _ | with_reducible exact at8_ge _ _ | (simp only [hC, reduceCtorEq]; omega) | omega | with_reducible assumption | (with_reducible show (_ : Bool) = true; first | (simp [*]; done) | (simp only [hC, reduceCtorEq]; (repeat' (first | assumption | apply And.intro)); done))))
  rename_i b2
  refine AW.loopV [3] [0, 2] (fun m xs o => ∃ (l : List GPat) (j : Nat) (bad : Bool), xs = [.sl true 3 (l.map encPat)] ∧ o = [(b2, some [.v (.int .i64 0), .str [], .v (.slice none 0 0)]), (b, some [.str s, .v (.int .i64 j), .v (.bool bad)])] ∧ m = (if bad then 0 else s.length - j + 1) ∧ j ≤ s.length ∧ l.length ≤ 31 ∧ i ≤ j ∧ (bad = false → i ≤ j ∧ l.length ≤ j ∧ pSeq s j l = pSeq s i []) ∧ (bad = true → pSeq s i [] = none)) _ [(b2, some [.v (.int .i64 0), .str [], .v (.slice none 0 0)]), (b, some [.str s, .v (.int .i64 i), .v (.bool false)])] (subO_two (Ne.symm hg) rfl rfl) ⟨[], i, false, ?_, rfl, rfl, ?_, ?_, ?_, ?_, ?_⟩ ?_
  · rfl
  · omega
  · simp
  · omega
  · simp
  · simp
  rintro m xs o ⟨l, j, bad, rfl, rfl, rfl, hj, hl0, hij, hR, hN⟩
  cases bad with
  | true =>
    have hN := hN rfl
    (repeat' (first | (with_reducible first | refine Z ?_ | refine Y ?_ | (refine hK _ _ ?_; clear hK K) | exact trivial | refine And.intro ?_ ?_) | with_reducible rfl | ((with_reducible refine E ?_); (with_reducible repeat refine Y ?_); refine eF rfl ?_) | (with_reducible refine fun (K : _ → _ → Prop) hK => ?_) | (with_reducible show drawOK _ _ = true; kernel_rfl) | (with_reducible refine gI fun hg => ?_; try simp only [hC, reduceCtorEq] at hg; try simp only [hg]) | simp (maxSteps := 2000000) (disch := omega) only [go_sem] | (with_reducible intro hg; try simp only [hC, reduceCtorEq] at hg) | (with_reducible show List.Nodup _; decide) | (with_reducible show (_ : Bool) = false; first | rfl | (simp [*]; done)) | with_reducible exact at8_le _ _ | with_reducible exact at8_ge _ _ | (simp only [hC, reduceCtorEq]; omega) | omega | with_reducible assumption | (with_reducible show (_ : Bool) = true; first | (simp [*]; done) | (simp only [hC, reduceCtorEq]; (repeat' (first | assumption | apply And.intro)); done))))
    (refine AW.i rfl (fun h => ?_) (fun h => ?_) <;> try simp only [hC, reduceCtorEq] at h)
    refine AW.imp (Imp.frz 3 ?_)
    simp (maxSteps := 2000000) (disch := omega) only [go_sem]
    (repeat' (first | (with_reducible first | refine Z ?_ | refine Y ?_ | (refine hK _ _ ?_; clear hK K) | exact trivial | refine And.intro ?_ ?_) | with_reducible rfl | ((with_reducible refine E ?_); (with_reducible repeat refine Y ?_); refine eF rfl ?_) | (with_reducible refine fun (K : _ → _ → Prop) hK => ?_) | (with_reducible show drawOK _ _ = true; kernel_rfl) | (with_reducible refine gI fun hg => ?_; try simp only [hC, reduceCtorEq] at hg; try simp only [hg]) | simp (maxSteps := 2000000) (disch := omega) only [go_sem] | (with_reducible intro hg; try simp only [hC, reduceCtorEq] at hg) | (with_reducible show List.Nodup _; decide) | (with_reducible show (_ : Bool) = false; first | rfl | (simp [*]; done)) | with_reducible exact at8_le _ _ | with_reducible exact at8_ge _ _ | (simp only [hC, reduceCtorEq]; omega) | omega | with_reducible assumption | (with_reducible show (_ : Bool) = true; first | (simp [*]; done) | (simp only [hC, reduceCtorEq]; (repeat' (first | assumption | apply And.intro)); done))))
    (refine AW.i rfl (fun h => ?_) (fun h => ?_) <;> try simp only [hC, reduceCtorEq] at h)
    · (repeat' (first | (with_reducible first | refine Z ?_ | refine Y ?_ | (refine hK _ _ ?_; clear hK K) | exact trivial | refine And.intro ?_ ?_) | with_reducible rfl | ((with_reducible refine E ?_); (with_reducible repeat refine Y ?_); refine eF rfl ?_) | (with_reducible refine fun (K : _ → _ → Prop) hK => ?_) | (with_reducible show drawOK _ _ = true; kernel_rfl) | (with_reducible refine gI fun hg => ?_; try simp only [hC, reduceCtorEq] at hg; try simp only [hg]) | simp (maxSteps := 2000000) (disch := omega) only [go_sem] | (with_reducible intro hg; try simp only [hC, reduceCtorEq] at hg) | (with_reducible show List.Nodup _; decide) | (with_reducible show (_ : Bool) = false; first | rfl | (simp [*]; done)) | with_reducible exact at8_le _ _ | with_reducible exact at8_ge _ _ | (simp only [hC, reduceCtorEq]; omega) | omega | with_reducible assumption | (with_reducible show (_ : Bool) = true; first | (simp [*]; done) | (simp only [hC, reduceCtorEq]; (repeat' (first | assumption | apply And.intro)); done))))
      (refine AW.ret (EndsG.imp (Imp.frzO (b := b2) (by simp (maxSteps := 2000000) (disch := omega) only [go_sem]; rfl) ?_)); simp (maxSteps := 2000000) (disch := omega) only [go_sem]; refine EndsG.finQ rfl (RdQ.no (at_ l 0) (j := j) hN (by omega)) ?_; simp (maxSteps := 2000000) (disch := omega) only [go_sem])
    · (repeat' (first | (with_reducible first | refine Z ?_ | refine Y ?_ | (refine hK _ _ ?_; clear hK K) | exact trivial | refine And.intro ?_ ?_) | with_reducible rfl | ((with_reducible refine E ?_); (with_reducible repeat refine Y ?_); refine eF rfl ?_) | (with_reducible refine fun (K : _ → _ → Prop) hK => ?_) | (with_reducible show drawOK _ _ = true; kernel_rfl) | (with_reducible refine gI fun hg => ?_; try simp only [hC, reduceCtorEq] at hg; try simp only [hg]) | simp (maxSteps := 2000000) (disch := omega) only [go_sem] | (with_reducible intro hg; try simp only [hC, reduceCtorEq] at hg) | (with_reducible show List.Nodup _; decide) | (with_reducible show (_ : Bool) = false; first | rfl | (simp [*]; done)) | with_reducible exact at8_le _ _ | with_reducible exact at8_ge _ _ | (simp only [hC, reduceCtorEq]; omega) | omega | with_reducible assumption | (with_reducible show (_ : Bool) = true; first | (simp [*]; done) | (simp only [hC, reduceCtorEq]; (repeat' (first | assumption | apply And.intro)); done))))
      (refine AW.ret (EndsG.imp (Imp.frzO (b := b2) (by simp (maxSteps := 2000000) (disch := omega) only [go_sem]; rfl) ?_)); simp (maxSteps := 2000000) (disch := omega) only [go_sem]; refine EndsG.finQ rfl (RdQ.no (.mk 2 [] l) (j := j) hN (by omega)) ?_; simp (maxSteps := 2000000) (disch := omega) only [go_sem])
  | false =>
    have hR := hR rfl
    (repeat' (first | (with_reducible first | refine Z ?_ | refine Y ?_ | (refine hK _ _ ?_; clear hK K) | exact trivial | refine And.intro ?_ ?_) | with_reducible rfl | ((with_reducible refine E ?_); (with_reducible repeat refine Y ?_); refine eF rfl ?_) | (with_reducible refine fun (K : _ → _ → Prop) hK => ?_) | (with_reducible show drawOK _ _ = true; kernel_rfl) | (with_reducible refine gI fun hg => ?_; try simp only [hC, reduceCtorEq] at hg; try simp only [hg]) | simp (maxSteps := 2000000) (disch := omega) only [go_sem] | (with_reducible intro hg; try simp only [hC, reduceCtorEq] at hg) | (with_reducible show List.Nodup _; decide) | (with_reducible show (_ : Bool) = false; first | rfl | (simp [*]; done)) | with_reducible exact at8_le _ _ | with_reducible exact at8_ge _ _ | (simp only [hC, reduceCtorEq]; omega) | omega | with_reducible assumption | (with_reducible show (_ : Bool) = true; first | (simp [*]; done) | (simp only [hC, reduceCtorEq]; (repeat' (first | assumption | apply And.intro)); done))))
    (refine AW.i rfl (fun h => ?_) (fun h => ?_) <;> try simp only [hC, reduceCtorEq] at h)
    · rename_i hc
      (repeat' (first | (with_reducible first | refine Z ?_ | refine Y ?_ | (refine hK _ _ ?_; clear hK K) | exact trivial | refine And.intro ?_ ?_) | with_reducible rfl | ((with_reducible refine E ?_); (with_reducible repeat refine Y ?_); refine eF rfl ?_) | (with_reducible refine fun (K : _ → _ → Prop) hK => ?_) | (with_reducible show drawOK _ _ = true; kernel_rfl) | (with_reducible refine gI fun hg => ?_; try simp only [hC, reduceCtorEq] at hg; try simp only [hg]) | simp (maxSteps := 2000000) (disch := omega) only [go_sem] | (with_reducible intro hg; try simp only [hC, reduceCtorEq] at hg) | (with_reducible show List.Nodup _; decide) | (with_reducible show (_ : Bool) = false; first | rfl | (simp [*]; done)) | with_reducible exact at8_le _ _ | with_reducible exact at8_ge _ _ | (simp only [hC, reduceCtorEq]; omega) | omega | with_reducible assumption | (with_reducible show (_ : Bool) = true; first | (simp [*]; done) | (simp only [hC, reduceCtorEq]; (repeat' (first | assumption | apply And.intro)); done))))
      refine GK.rd (fun p k hq hk => ?_) (fun p k hq hk => ?_)
      · have hb := pItem_bd hq
        (repeat' (first | (with_reducible first | refine Z ?_ | refine Y ?_ | (refine hK _ _ ?_; clear hK K) | exact trivial | refine And.intro ?_ ?_) | with_reducible rfl | ((with_reducible refine E ?_); (with_reducible repeat refine Y ?_); refine eF rfl ?_) | (with_reducible refine fun (K : _ → _ → Prop) hK => ?_) | (with_reducible show drawOK _ _ = true; kernel_rfl) | (with_reducible refine gI fun hg => ?_; try simp only [hC, reduceCtorEq] at hg; try simp only [hg]) | simp (maxSteps := 2000000) (disch := omega) only [go_sem] | (with_reducible intro hg; try simp only [hC, reduceCtorEq] at hg) | (with_reducible show List.Nodup _; decide) | (with_reducible show (_ : Bool) = false; first | rfl | (simp [*]; done)) | with_reducible exact at8_le _ _ | with_reducible exact at8_ge _ _ | (simp only [hC, reduceCtorEq]; omega) | omega | with_reducible assumption | (with_reducible show (_ : Bool) = true; first | (simp [*]; done) | (simp only [hC, reduceCtorEq]; (repeat' (first | assumption | apply And.intro)); done))))
        exact ⟨_, [_], [(b2, some [.v (.int .i64 0), .str [], .v (.slice none 0 0)]), (b, some [.str s, .v (.int .i64 k), .v (.bool false)])], by simp; omega, ⟨l ++ [p], k, false, rfl, rfl, rfl, by omega, by simp; omega, by omega, fun _ => ⟨by omega, by simp; omega, by rw [← hR.2.2, pSeq_go l h.1.1 h.1.2 h.2 hq]⟩, by simp⟩, by simp [encPat_eq], by simp (maxSteps := 2000000) (disch := omega) only [go_sem]⟩
      · (repeat' (first | (with_reducible first | refine Z ?_ | refine Y ?_ | (refine hK _ _ ?_; clear hK K) | exact trivial | refine And.intro ?_ ?_) | with_reducible rfl | ((with_reducible refine E ?_); (with_reducible repeat refine Y ?_); refine eF rfl ?_) | (with_reducible refine fun (K : _ → _ → Prop) hK => ?_) | (with_reducible show drawOK _ _ = true; kernel_rfl) | (with_reducible refine gI fun hg => ?_; try simp only [hC, reduceCtorEq] at hg; try simp only [hg]) | simp (maxSteps := 2000000) (disch := omega) only [go_sem] | (with_reducible intro hg; try simp only [hC, reduceCtorEq] at hg) | (with_reducible show List.Nodup _; decide) | (with_reducible show (_ : Bool) = false; first | rfl | (simp [*]; done)) | with_reducible exact at8_le _ _ | with_reducible exact at8_ge _ _ | (simp only [hC, reduceCtorEq]; omega) | omega | with_reducible assumption | (with_reducible show (_ : Bool) = true; first | (simp [*]; done) | (simp only [hC, reduceCtorEq]; (repeat' (first | assumption | apply And.intro)); done))))
        exact ⟨_, [_], [(b2, some [.v (.int .i64 0), .str [], .v (.slice none 0 0)]), (b, some [.str s, .v (.int .i64 k), .v (.bool true)])], by simp, ⟨l ++ [p], k, true, rfl, rfl, rfl, by omega, by simp; omega, by omega, by simp, fun _ => by rw [← hR.2.2, pSeq_none l h.1.1 h.1.2 h.2 hq]⟩, by simp [encPat_eq], by simp (maxSteps := 2000000) (disch := omega) only [go_sem]⟩
    · refine AW.imp (Imp.frz 3 ?_)
      simp (maxSteps := 2000000) (disch := omega) only [go_sem]
      (repeat' (first | (with_reducible first | refine Z ?_ | refine Y ?_ | (refine hK _ _ ?_; clear hK K) | exact trivial | refine And.intro ?_ ?_) | with_reducible rfl | ((with_reducible refine E ?_); (with_reducible repeat refine Y ?_); refine eF rfl ?_) | (with_reducible refine fun (K : _ → _ → Prop) hK => ?_) | (with_reducible show drawOK _ _ = true; kernel_rfl) | (with_reducible refine gI fun hg => ?_; try simp only [hC, reduceCtorEq] at hg; try simp only [hg]) | simp (maxSteps := 2000000) (disch := omega) only [go_sem] | (with_reducible intro hg; try simp only [hC, reduceCtorEq] at hg) | (with_reducible show List.Nodup _; decide) | (with_reducible show (_ : Bool) = false; first | rfl | (simp [*]; done)) | with_reducible exact at8_le _ _ | with_reducible exact at8_ge _ _ | (simp only [hC, reduceCtorEq]; omega) | omega | with_reducible assumption | (with_reducible show (_ : Bool) = true; first | (simp [*]; done) | (simp only [hC, reduceCtorEq]; (repeat' (first | assumption | apply And.intro)); done))))
      (refine AW.i rfl (fun h => ?_) (fun h => ?_) <;> try simp only [hC, reduceCtorEq] at h)
      · (repeat' (first | (with_reducible first | refine Z ?_ | refine Y ?_ | (refine hK _ _ ?_; clear hK K) | exact trivial | refine And.intro ?_ ?_) | with_reducible rfl | ((with_reducible refine E ?_); (with_reducible repeat refine Y ?_); refine eF rfl ?_) | (with_reducible refine fun (K : _ → _ → Prop) hK => ?_) | (with_reducible show drawOK _ _ = true; kernel_rfl) | (with_reducible refine gI fun hg => ?_; try simp only [hC, reduceCtorEq] at hg; try simp only [hg]) | simp (maxSteps := 2000000) (disch := omega) only [go_sem] | (with_reducible intro hg; try simp only [hC, reduceCtorEq] at hg) | (with_reducible show List.Nodup _; decide) | (with_reducible show (_ : Bool) = false; first | rfl | (simp [*]; done)) | with_reducible exact at8_le _ _ | with_reducible exact at8_ge _ _ | (simp only [hC, reduceCtorEq]; omega) | omega | with_reducible assumption | (with_reducible show (_ : Bool) = true; first | (simp [*]; done) | (simp only [hC, reduceCtorEq]; (repeat' (first | assumption | apply And.intro)); done))))
        (refine AW.ret (EndsG.imp (Imp.frzO (b := b2) (by simp (maxSteps := 2000000) (disch := omega) only [go_sem]; rfl) ?_)); simp (maxSteps := 2000000) (disch := omega) only [go_sem]; refine EndsG.finQ rfl (RdQ.yes (p := at_ l 0) (j := j) (by rw [← hR.2.2, pSeq_stop l (by omega), mkSeq, if_pos (by omega)]) (by omega)) ?_; simp (maxSteps := 2000000) (disch := omega) only [go_sem])
      · (repeat' (first | (with_reducible first | refine Z ?_ | refine Y ?_ | (refine hK _ _ ?_; clear hK K) | exact trivial | refine And.intro ?_ ?_) | with_reducible rfl | ((with_reducible refine E ?_); (with_reducible repeat refine Y ?_); refine eF rfl ?_) | (with_reducible refine fun (K : _ → _ → Prop) hK => ?_) | (with_reducible show drawOK _ _ = true; kernel_rfl) | (with_reducible refine gI fun hg => ?_; try simp only [hC, reduceCtorEq] at hg; try simp only [hg]) | simp (maxSteps := 2000000) (disch := omega) only [go_sem] | (with_reducible intro hg; try simp only [hC, reduceCtorEq] at hg) | (with_reducible show List.Nodup _; decide) | (with_reducible show (_ : Bool) = false; first | rfl | (simp [*]; done)) | with_reducible exact at8_le _ _ | with_reducible exact at8_ge _ _ | (simp only [hC, reduceCtorEq]; omega) | omega | with_reducible assumption | (with_reducible show (_ : Bool) = true; first | (simp [*]; done) | (simp only [hC, reduceCtorEq]; (repeat' (first | assumption | apply And.intro)); done))))
        (refine AW.ret (EndsG.imp (Imp.frzO (b := b2) (by simp (maxSteps := 2000000) (disch := omega) only [go_sem]; rfl) ?_)); simp (maxSteps := 2000000) (disch := omega) only [go_sem]; refine EndsG.finQ rfl (RdQ.yes (p := .mk 2 [] l) (j := j) (by rw [← hR.2.2, pSeq_stop l (by omega), mkSeq, if_neg (by omega)]) (by omega)) ?_; simp (maxSteps := 2000000) (disch := omega) only [go_sem])
instance seq_bad (b : Nat) (s : Str) (i : Nat) : Ctr lim Tryz.prog 218 [(b, some [.str s, .v (.int .i64 i), .v (.bool true)])] [.ptr b 0] (.agg [.v (.int .i64 2), .str [], .sl false 3 []]) [some [.str s, .v (.int .i64 i), .v (.bool true)]] True := by
  refine Ctr.of_body en218 Tryz.func218 rfl rfl fun hp => (?_); rw [Tryz.ntmps218]
  (repeat' (first | (with_reducible first | refine Z ?_ | refine Y ?_ | (refine hK _ _ ?_; clear hK K) | exact trivial | refine And.intro ?_ ?_) | with_reducible rfl | ((with_reducible refine E ?_); (with_reducible repeat refine Y ?_); refine eF rfl ?_) | (with_reducible refine fun (K : _ → _ → Prop) hK => ?_) | (with_reducible show drawOK _ _ = true; kernel_rfl) | (with_reducible refine gI fun hg => ?_; try simp only [hC, reduceCtorEq] at hg; try simp only [hg]) | simp (maxSteps := 2000000) (disch := omega) only [go_sem] | (with_reducible intro hg; try simp only [hC, reduceCtorEq] at hg) | (with_reducible show List.Nodup _; decide) | (with_reducible show (_ : Bool) = false; first | rfl | (simp [*]; done)) | with_reducible exact at8_le _ _ | with_reducible exact at8_ge _ _ | (simp only [hC, reduceCtorEq]; omega) | omega | with_reducible assumption | (with_reducible show (_ : Bool) = true; first | (simp [*]; done) | (simp only [hC, reduceCtorEq]; (repeat' (first | assumption | apply And.intro)); done))))
  rename_i b2
  refine AW.loopV [3] [0, 2] (fun m xs o => xs = [.sl true 3 []] ∧ o = [(b2, some [.v (.int .i64 0), .str [], .v (.slice none 0 0)]), (b, some [.str s, .v (.int .i64 i), .v (.bool true)])]) 0 [(b2, some [.v (.int .i64 0), .str [], .v (.slice none 0 0)]), (b, some [.str s, .v (.int .i64 i), .v (.bool true)])] (subO_two (Ne.symm hg) rfl rfl) ⟨rfl, rfl⟩ ?_
  rintro m xs o ⟨rfl, rfl⟩
  (repeat' (first | (with_reducible first | refine Z ?_ | refine Y ?_ | (refine hK _ _ ?_; clear hK K) | exact trivial | refine And.intro ?_ ?_) | with_reducible rfl | ((with_reducible refine E ?_); (with_reducible repeat refine Y ?_); refine eF rfl ?_) | (with_reducible refine fun (K : _ → _ → Prop) hK => ?_) | (with_reducible show drawOK _ _ = true; kernel_rfl) | (with_reducible refine gI fun hg => ?_; try simp only [hC, reduceCtorEq] at hg; try simp only [hg]) | simp (maxSteps := 2000000) (disch := omega) only [go_sem] | (with_reducible intro hg; try simp only [hC, reduceCtorEq] at hg) | (with_reducible show List.Nodup _; decide) | (with_reducible show (_ : Bool) = false; first | rfl | (simp [*]; done)) | with_reducible exact at8_le _ _ | with_reducible exact at8_ge _ _ | (simp only [hC, reduceCtorEq]; omega) | omega | with_reducible assumption | (with_reducible show (_ : Bool) = true; first | (simp [*]; done) | (simp only [hC, reduceCtorEq]; (repeat' (first | assumption | apply And.intro)); done))))
  (refine AW.i rfl (fun h => ?_) (fun h => ?_) <;> try simp only [hC, reduceCtorEq] at h)
  refine AW.imp (Imp.frz 3 ?_)
  simp (maxSteps := 2000000) (disch := omega) only [go_sem]
  (repeat' (first | (with_reducible first | refine Z ?_ | refine Y ?_ | (refine hK _ _ ?_; clear hK K) | exact trivial | refine And.intro ?_ ?_) | with_reducible rfl | ((with_reducible refine E ?_); (with_reducible repeat refine Y ?_); refine eF rfl ?_) | (with_reducible refine fun (K : _ → _ → Prop) hK => ?_) | (with_reducible show drawOK _ _ = true; kernel_rfl) | (with_reducible refine gI fun hg => ?_; try simp only [hC, reduceCtorEq] at hg; try simp only [hg]) | simp (maxSteps := 2000000) (disch := omega) only [go_sem] | (with_reducible intro hg; try simp only [hC, reduceCtorEq] at hg) | (with_reducible show List.Nodup _; decide) | (with_reducible show (_ : Bool) = false; first | rfl | (simp [*]; done)) | with_reducible exact at8_le _ _ | with_reducible exact at8_ge _ _ | (simp only [hC, reduceCtorEq]; omega) | omega | with_reducible assumption | (with_reducible show (_ : Bool) = true; first | (simp [*]; done) | (simp only [hC, reduceCtorEq]; (repeat' (first | assumption | apply And.intro)); done))))
  (refine AW.i rfl (fun h => ?_) (fun h => ?_) <;> try simp only [hC, reduceCtorEq] at h)
  · simp at h
  · (repeat' (first | (with_reducible first | refine Z ?_ | refine Y ?_ | (refine hK _ _ ?_; clear hK K) | exact trivial | refine And.intro ?_ ?_) | (refine AW.i rfl (fun h => ?_) (fun h => ?_) <;> try simp only [hC, reduceCtorEq] at h) | with_reducible rfl | ((with_reducible refine E ?_); (with_reducible repeat refine Y ?_); refine eF rfl ?_) | (with_reducible refine fun (K : _ → _ → Prop) hK => ?_) | (with_reducible show drawOK _ _ = true; kernel_rfl) | (with_reducible refine gI fun hg => ?_; try simp only [hC, reduceCtorEq] at hg; try simp only [hg]) | simp (maxSteps := 2000000) (disch := omega) only [go_sem] | (with_reducible intro hg; try simp only [hC, reduceCtorEq] at hg) | (with_reducible show List.Nodup _; decide) | (with_reducible show (_ : Bool) = false; first | rfl | (simp [*]; done)) | with_reducible exact at8_le _ _ | with_reducible exact at8_ge _ _ | (simp only [hC, reduceCtorEq]; omega) | omega | with_reducible assumption | (with_reducible show (_ : Bool) = true; first | (simp [*]; done) | (simp only [hC, reduceCtorEq]; (repeat' (first | assumption | apply And.intro)); done))))

theorem alt_n (n : Nat) (hseq : ∀ (b : Nat) (s : Str) (i : Nat), GCtr lim Tryz.prog 218 [(b, some [.str s, .v (.int .i64 i), .v (.bool false)])] [.ptr b 0] (RdQ b s i (pSeq s i [])) (i ≤ s.length ∧ s.length ≤ 30 ∧ s.length - i < n)) (b : Nat) (s : Str) (i : Nat) :
    GCtr lim Tryz.prog 205 [(b, some [.str s, .v (.int .i64 i), .v (.bool false)])] [.ptr b 0] (RdQ b s i (pAlt s i)) (i ≤ s.length ∧ s.length ≤ 30 ∧ s.length - i < n) := by
  refine GCtr.of_body en205 Tryz.func205 rfl rfl fun hp => (?_); rw [Tryz.ntmps205]
  (repeat' (first | (with_reducible first | refine Z ?_ | refine Y ?_ | (refine hK _ _ ?_; clear hK K) | exact trivial | refine And.intro ?_ ?_) | with_reducible rfl | ((with_reducible refine E ?_); (with_reducible repeat refine Y ?_); refine eF rfl ?_) | (with_reducible refine fun (K : _ → _ → Prop) hK => ?_) | (with_reducible show drawOK _ _ = true; kernel_rfl) | (with_reducible refine gI fun hg => ?_; try simp only [hC, reduceCtorEq] at hg; try simp only [hg]) | simp (maxSteps := 2000000) (disch := omega) only [go_sem] | (with_reducible intro hg; try simp only [hC, reduceCtorEq] at hg) | (with_reducible show List.Nodup _; decide) | (with_reducible show (_ : Bool) = false; first | rfl | (simp [*]; done)) | with_reducible exact at8_le _ _ | with_reducible exact at8_ge _ _ | (simp only [hC, reduceCtorEq]; omega) | omega | with_reducible assumption | (with_reducible show (_ : Bool) = true; first | (simp [*]; done) | (simp only [hC, reduceCtorEq]; (repeat' (first | assumption | apply And.intro)); done))))
  rename_i b2
  refine GK.rdB fun p j bad hq hj => ?_
  (repeat' (first | (with_reducible first | refine Z ?_ | refine Y ?_ | (refine hK _ _ ?_; clear hK K) | exact trivial | refine And.intro ?_ ?_) | with_reducible rfl | ((with_reducible refine E ?_); (with_reducible repeat refine Y ?_); refine eF rfl ?_) | (with_reducible refine fun (K : _ → _ → Prop) hK => ?_) | (with_reducible show drawOK _ _ = true; kernel_rfl) | (with_reducible refine gI fun hg => ?_; try simp only [hC, reduceCtorEq] at hg; try simp only [hg]) | simp (maxSteps := 2000000) (disch := omega) only [go_sem] | (with_reducible intro hg; try simp only [hC, reduceCtorEq] at hg) | (with_reducible show List.Nodup _; decide) | (with_reducible show (_ : Bool) = false; first | rfl | (simp [*]; done)) | with_reducible exact at8_le _ _ | with_reducible exact at8_ge _ _ | (simp only [hC, reduceCtorEq]; omega) | omega | with_reducible assumption | (with_reducible show (_ : Bool) = true; first | (simp [*]; done) | (simp only [hC, reduceCtorEq]; (repeat' (first | assumption | apply And.intro)); done))))
  refine AW.loopV [3] [0, 2] (fun m xs o => ∃ (l : List GPat) (j : Nat) (bad : Bool), xs = [.sl true 3 (l.map encPat)] ∧ o = [(b2, some [.v (.int .i64 0), .str [], .v (.slice none 0 0)]), (b, some [.str s, .v (.int .i64 j), .v (.bool bad)])] ∧ m = s.length - j ∧ j ≤ s.length ∧ l.length ≤ j + 1 ∧ i ≤ j ∧ (bad = false → pAltL s j l = pAlt s i) ∧ (bad = true → pAlt s i = none)) _ [(b2, some [.v (.int .i64 0), .str [], .v (.slice none 0 0)]), (b, some [.str s, .v (.int .i64 j), .v (.bool bad)])] (subO_two (Ne.symm hg) rfl rfl) ⟨[p], j, bad, ?_, rfl, rfl, ?_, ?_, ?_, ?_, ?_⟩ ?_
  · simp [T, encPat_eq]
  · omega
  · simp
  · omega
  · rintro rfl
    rcases hq with ⟨_, hq⟩ | ⟨h, _⟩
    · exact (pAlt_go hp.1 hq).symm
    · cases h
  · rintro rfl
    rcases hq with ⟨h, _⟩ | ⟨_, hq⟩
    · cases h
    · exact pAlt_none hq
  clear hq hj bad
  rintro m xs o ⟨l, j, bad, rfl, rfl, rfl, hj, hl, hij, hR, hN⟩
  (repeat' (first | (with_reducible first | refine Z ?_ | refine Y ?_ | (refine hK _ _ ?_; clear hK K) | exact trivial | refine And.intro ?_ ?_) | with_reducible rfl | ((with_reducible refine E ?_); (with_reducible repeat refine Y ?_); refine eF rfl ?_) | (with_reducible refine fun (K : _ → _ → Prop) hK => ?_) | (with_reducible show drawOK _ _ = true; kernel_rfl) | (with_reducible refine gI fun hg => ?_; try simp only [hC, reduceCtorEq] at hg; try simp only [hg]) | simp (maxSteps := 2000000) (disch := omega) only [go_sem] | (with_reducible intro hg; try simp only [hC, reduceCtorEq] at hg) | (with_reducible show List.Nodup _; decide) | (with_reducible show (_ : Bool) = false; first | rfl | (simp [*]; done)) | with_reducible exact at8_le _ _ | with_reducible exact at8_ge _ _ | (simp only [hC, reduceCtorEq]; omega) | omega | with_reducible assumption | (with_reducible show (_ : Bool) = true; first | (simp [*]; done) | (simp only [hC, reduceCtorEq]; (repeat' (first | assumption | apply And.intro)); done))))
  (refine AW.i rfl (fun h => ?_) (fun h => ?_) <;> try simp only [hC, reduceCtorEq] at h)
  · simp only [h, cond_true]
    have hlt := isAt_iff.1 h
    cases bad with
    | true =>
      have hN := hN rfl
      (repeat' (first | (with_reducible first | refine Z ?_ | refine Y ?_ | (refine hK _ _ ?_; clear hK K) | exact trivial | refine And.intro ?_ ?_) | with_reducible rfl | ((with_reducible refine E ?_); (with_reducible repeat refine Y ?_); refine eF rfl ?_) | (with_reducible refine fun (K : _ → _ → Prop) hK => ?_) | (with_reducible show drawOK _ _ = true; kernel_rfl) | (with_reducible refine gI fun hg => ?_; try simp only [hC, reduceCtorEq] at hg; try simp only [hg]) | simp (maxSteps := 2000000) (disch := omega) only [go_sem] | (with_reducible intro hg; try simp only [hC, reduceCtorEq] at hg) | (with_reducible show List.Nodup _; decide) | (with_reducible show (_ : Bool) = false; first | rfl | (simp [*]; done)) | with_reducible exact at8_le _ _ | with_reducible exact at8_ge _ _ | (simp only [hC, reduceCtorEq]; omega) | omega | with_reducible assumption | (with_reducible show (_ : Bool) = true; first | (simp [*]; done) | (simp only [hC, reduceCtorEq]; (repeat' (first | assumption | apply And.intro)); done))))
      exact ⟨_, [_], [(b2, some [.v (.int .i64 0), .str [], .v (.slice none 0 0)]), (b, some [.str s, .v (.int .i64 (j + 1 : Nat)), .v (.bool true)])], by omega, ⟨l ++ [.mk 2 [] []], j + 1, true, rfl, rfl, rfl, by omega, by simp; omega, by omega, by simp, fun _ => hN⟩, by simp [encPat_eq, fOp_mk, fText_mk, fKids_mk], by simp (maxSteps := 2000000) (disch := omega) only [go_sem]⟩
    | false =>
      have hR := hR rfl
      (repeat' (first | (with_reducible first | refine Z ?_ | refine Y ?_ | (refine hK _ _ ?_; clear hK K) | exact trivial | refine And.intro ?_ ?_) | with_reducible rfl | ((with_reducible refine E ?_); (with_reducible repeat refine Y ?_); refine eF rfl ?_) | (with_reducible refine fun (K : _ → _ → Prop) hK => ?_) | (with_reducible show drawOK _ _ = true; kernel_rfl) | (with_reducible refine gI fun hg => ?_; try simp only [hC, reduceCtorEq] at hg; try simp only [hg]) | simp (maxSteps := 2000000) (disch := omega) only [go_sem] | (with_reducible intro hg; try simp only [hC, reduceCtorEq] at hg) | (with_reducible show List.Nodup _; decide) | (with_reducible show (_ : Bool) = false; first | rfl | (simp [*]; done)) | with_reducible exact at8_le _ _ | with_reducible exact at8_ge _ _ | (simp only [hC, reduceCtorEq]; omega) | omega | with_reducible assumption | (with_reducible show (_ : Bool) = true; first | (simp [*]; done) | (simp only [hC, reduceCtorEq]; (repeat' (first | assumption | apply And.intro)); done))))
      refine GK.rd (fun p k hq hk => ?_) (fun p k hq hk => ?_)
      · (repeat' (first | (with_reducible first | refine Z ?_ | refine Y ?_ | (refine hK _ _ ?_; clear hK K) | exact trivial | refine And.intro ?_ ?_) | with_reducible rfl | ((with_reducible refine E ?_); (with_reducible repeat refine Y ?_); refine eF rfl ?_) | (with_reducible refine fun (K : _ → _ → Prop) hK => ?_) | (with_reducible show drawOK _ _ = true; kernel_rfl) | (with_reducible refine gI fun hg => ?_; try simp only [hC, reduceCtorEq] at hg; try simp only [hg]) | simp (maxSteps := 2000000) (disch := omega) only [go_sem] | (with_reducible intro hg; try simp only [hC, reduceCtorEq] at hg) | (with_reducible show List.Nodup _; decide) | (with_reducible show (_ : Bool) = false; first | rfl | (simp [*]; done)) | with_reducible exact at8_le _ _ | with_reducible exact at8_ge _ _ | (simp only [hC, reduceCtorEq]; omega) | omega | with_reducible assumption | (with_reducible show (_ : Bool) = true; first | (simp [*]; done) | (simp only [hC, reduceCtorEq]; (repeat' (first | assumption | apply And.intro)); done))))
        exact ⟨_, [_], [(b2, some [.v (.int .i64 0), .str [], .v (.slice none 0 0)]), (b, some [.str s, .v (.int .i64 k), .v (.bool false)])], by omega, ⟨l ++ [p], k, false, rfl, rfl, rfl, by omega, by simp; omega, by omega, fun _ => by rw [← hR, pAltL_go l h hq], by simp⟩, by simp [encPat_eq], by simp (maxSteps := 2000000) (disch := omega) only [go_sem]⟩
      · (repeat' (first | (with_reducible first | refine Z ?_ | refine Y ?_ | (refine hK _ _ ?_; clear hK K) | exact trivial | refine And.intro ?_ ?_) | with_reducible rfl | ((with_reducible refine E ?_); (with_reducible repeat refine Y ?_); refine eF rfl ?_) | (with_reducible refine fun (K : _ → _ → Prop) hK => ?_) | (with_reducible show drawOK _ _ = true; kernel_rfl) | (with_reducible refine gI fun hg => ?_; try simp only [hC, reduceCtorEq] at hg; try simp only [hg]) | simp (maxSteps := 2000000) (disch := omega) only [go_sem] | (with_reducible intro hg; try simp only [hC, reduceCtorEq] at hg) | (with_reducible show List.Nodup _; decide) | (with_reducible show (_ : Bool) = false; first | rfl | (simp [*]; done)) | with_reducible exact at8_le _ _ | with_reducible exact at8_ge _ _ | (simp only [hC, reduceCtorEq]; omega) | omega | with_reducible assumption | (with_reducible show (_ : Bool) = true; first | (simp [*]; done) | (simp only [hC, reduceCtorEq]; (repeat' (first | assumption | apply And.intro)); done))))
        exact ⟨_, [_], [(b2, some [.v (.int .i64 0), .str [], .v (.slice none 0 0)]), (b, some [.str s, .v (.int .i64 k), .v (.bool true)])], by omega, ⟨l ++ [p], k, true, rfl, rfl, rfl, by omega, by simp; omega, by omega, by simp, fun _ => by rw [← hR, pAltL_none l h hq]⟩, by simp [encPat_eq], by simp (maxSteps := 2000000) (disch := omega) only [go_sem]⟩
  · rename_i hstop
    simp only [h, cond_false]
    refine AW.imp (Imp.frz 3 ?_)
    simp (maxSteps := 2000000) (disch := omega) only [go_sem]
    (repeat' (first | (with_reducible first | refine Z ?_ | refine Y ?_ | (refine hK _ _ ?_; clear hK K) | exact trivial | refine And.intro ?_ ?_) | with_reducible rfl | ((with_reducible refine E ?_); (with_reducible repeat refine Y ?_); refine eF rfl ?_) | (with_reducible refine fun (K : _ → _ → Prop) hK => ?_) | (with_reducible show drawOK _ _ = true; kernel_rfl) | (with_reducible refine gI fun hg => ?_; try simp only [hC, reduceCtorEq] at hg; try simp only [hg]) | simp (maxSteps := 2000000) (disch := omega) only [go_sem] | (with_reducible intro hg; try simp only [hC, reduceCtorEq] at hg) | (with_reducible show List.Nodup _; decide) | (with_reducible show (_ : Bool) = false; first | rfl | (simp [*]; done)) | with_reducible exact at8_le _ _ | with_reducible exact at8_ge _ _ | (simp only [hC, reduceCtorEq]; omega) | omega | with_reducible assumption | (with_reducible show (_ : Bool) = true; first | (simp [*]; done) | (simp only [hC, reduceCtorEq]; (repeat' (first | assumption | apply And.intro)); done))))
    cases bad with
    | true =>
      have hN := hN rfl
      (refine AW.i rfl (fun h => ?_) (fun h => ?_) <;> try simp only [hC, reduceCtorEq] at h)
      · (repeat' (first | (with_reducible first | refine Z ?_ | refine Y ?_ | (refine hK _ _ ?_; clear hK K) | exact trivial | refine And.intro ?_ ?_) | with_reducible rfl | ((with_reducible refine E ?_); (with_reducible repeat refine Y ?_); refine eF rfl ?_) | (with_reducible refine fun (K : _ → _ → Prop) hK => ?_) | (with_reducible show drawOK _ _ = true; kernel_rfl) | (with_reducible refine gI fun hg => ?_; try simp only [hC, reduceCtorEq] at hg; try simp only [hg]) | simp (maxSteps := 2000000) (disch := omega) only [go_sem] | (with_reducible intro hg; try simp only [hC, reduceCtorEq] at hg) | (with_reducible show List.Nodup _; decide) | (with_reducible show (_ : Bool) = false; first | rfl | (simp [*]; done)) | with_reducible exact at8_le _ _ | with_reducible exact at8_ge _ _ | (simp only [hC, reduceCtorEq]; omega) | omega | with_reducible assumption | (with_reducible show (_ : Bool) = true; first | (simp [*]; done) | (simp only [hC, reduceCtorEq]; (repeat' (first | assumption | apply And.intro)); done))))
        (refine AW.ret (EndsG.imp (Imp.frzO (b := b2) (by simp (maxSteps := 2000000) (disch := omega) only [go_sem]; rfl) ?_)); simp (maxSteps := 2000000) (disch := omega) only [go_sem]; refine EndsG.finQ rfl (RdQ.no (at_ l 0) (j := j) hN (by omega)) ?_; simp (maxSteps := 2000000) (disch := omega) only [go_sem])
      · (repeat' (first | (with_reducible first | refine Z ?_ | refine Y ?_ | (refine hK _ _ ?_; clear hK K) | exact trivial | refine And.intro ?_ ?_) | with_reducible rfl | ((with_reducible refine E ?_); (with_reducible repeat refine Y ?_); refine eF rfl ?_) | (with_reducible refine fun (K : _ → _ → Prop) hK => ?_) | (with_reducible show drawOK _ _ = true; kernel_rfl) | (with_reducible refine gI fun hg => ?_; try simp only [hC, reduceCtorEq] at hg; try simp only [hg]) | simp (maxSteps := 2000000) (disch := omega) only [go_sem] | (with_reducible intro hg; try simp only [hC, reduceCtorEq] at hg) | (with_reducible show List.Nodup _; decide) | (with_reducible show (_ : Bool) = false; first | rfl | (simp [*]; done)) | with_reducible exact at8_le _ _ | with_reducible exact at8_ge _ _ | (simp only [hC, reduceCtorEq]; omega) | omega | with_reducible assumption | (with_reducible show (_ : Bool) = true; first | (simp [*]; done) | (simp only [hC, reduceCtorEq]; (repeat' (first | assumption | apply And.intro)); done))))
        (refine AW.ret (EndsG.imp (Imp.frzO (b := b2) (by simp (maxSteps := 2000000) (disch := omega) only [go_sem]; rfl) ?_)); simp (maxSteps := 2000000) (disch := omega) only [go_sem]; refine EndsG.finQ rfl (RdQ.no (.mk 3 [] l) (j := j) hN (by omega)) ?_; simp (maxSteps := 2000000) (disch := omega) only [go_sem])
    | false =>
      have hR := hR rfl
      have hst := pAltL_stop l h
      (refine AW.i rfl (fun h => ?_) (fun h => ?_) <;> try simp only [hC, reduceCtorEq] at h)
      · (repeat' (first | (with_reducible first | refine Z ?_ | refine Y ?_ | (refine hK _ _ ?_; clear hK K) | exact trivial | refine And.intro ?_ ?_) | with_reducible rfl | ((with_reducible refine E ?_); (with_reducible repeat refine Y ?_); refine eF rfl ?_) | (with_reducible refine fun (K : _ → _ → Prop) hK => ?_) | (with_reducible show drawOK _ _ = true; kernel_rfl) | (with_reducible refine gI fun hg => ?_; try simp only [hC, reduceCtorEq] at hg; try simp only [hg]) | simp (maxSteps := 2000000) (disch := omega) only [go_sem] | (with_reducible intro hg; try simp only [hC, reduceCtorEq] at hg) | (with_reducible show List.Nodup _; decide) | (with_reducible show (_ : Bool) = false; first | rfl | (simp [*]; done)) | with_reducible exact at8_le _ _ | with_reducible exact at8_ge _ _ | (simp only [hC, reduceCtorEq]; omega) | omega | with_reducible assumption | (with_reducible show (_ : Bool) = true; first | (simp [*]; done) | (simp only [hC, reduceCtorEq]; (repeat' (first | assumption | apply And.intro)); done))))
        (refine AW.ret (EndsG.imp (Imp.frzO (b := b2) (by simp (maxSteps := 2000000) (disch := omega) only [go_sem]; rfl) ?_)); simp (maxSteps := 2000000) (disch := omega) only [go_sem]; refine EndsG.finQ rfl (RdQ.yes (p := at_ l 0) (j := j) (by rw [← hR, hst, mkAlt, if_pos (by omega)]) (by omega)) ?_; simp (maxSteps := 2000000) (disch := omega) only [go_sem])
      · (repeat' (first | (with_reducible first | refine Z ?_ | refine Y ?_ | (refine hK _ _ ?_; clear hK K) | exact trivial | refine And.intro ?_ ?_) | with_reducible rfl | ((with_reducible refine E ?_); (with_reducible repeat refine Y ?_); refine eF rfl ?_) | (with_reducible refine fun (K : _ → _ → Prop) hK => ?_) | (with_reducible show drawOK _ _ = true; kernel_rfl) | (with_reducible refine gI fun hg => ?_; try simp only [hC, reduceCtorEq] at hg; try simp only [hg]) | simp (maxSteps := 2000000) (disch := omega) only [go_sem] | (with_reducible intro hg; try simp only [hC, reduceCtorEq] at hg) | (with_reducible show List.Nodup _; decide) | (with_reducible show (_ : Bool) = false; first | rfl | (simp [*]; done)) | with_reducible exact at8_le _ _ | with_reducible exact at8_ge _ _ | (simp only [hC, reduceCtorEq]; omega) | omega | with_reducible assumption | (with_reducible show (_ : Bool) = true; first | (simp [*]; done) | (simp only [hC, reduceCtorEq]; (repeat' (first | assumption | apply And.intro)); done))))
        (refine AW.ret (EndsG.imp (Imp.frzO (b := b2) (by simp (maxSteps := 2000000) (disch := omega) only [go_sem]; rfl) ?_)); simp (maxSteps := 2000000) (disch := omega) only [go_sem]; refine EndsG.finQ rfl (RdQ.yes (p := .mk 3 [] l) (j := j) (by rw [← hR, hst, mkAlt, if_neg (by omega)]) (by omega)) ?_; simp (maxSteps := 2000000) (disch := omega) only [go_sem])
end Go.Proofs.YtkdchlggdcmkbaaGreat
