/-
  Part of a proof: Pl1, Pl2.
-/
import Derived.Test.YtkdchlggdcmkbaaGreatG8
import Derived.Test.YtkdchlggdcmkbaaGreatG19
import Derived.Test.YtkdchlggdcmkbaaGreatG25
set_option linter.unusedSimpArgs false
set_option linter.unusedVariables false
namespace Go.Proofs.YtkdchlggdcmkbaaGreat
open Go.Ab Go.Dt
set_option maxRecDepth 20000
set_option maxHeartbeats 4000000

instance tNam1_i (L : Nat → Nat) (x : GTemplate) (n : Str) : Ctr L Tryz.prog 105 [] [.agg [.str x.fName, .sl false 6 (x.fParams.map (encParam false)), .sl false 3 (x.fBody.map (encNode false))], .vp [.str n]] (.v (.bool (x.fName == n))) [] True := by
  refine Ctr.of_body en105 Tryz.func105 rfl rfl fun hp => (?_); rw [Tryz.ntmps105]
  all_goals exact uU
instance ixTemplate_i (L : Nat → Nat) [hL : Lok L] (l : List GTemplate) (n : Str) : Ctr L Tryz.prog 104 [] [.sl false 3 (l.map (encTemplate false)), .fn 105 [.vp [.str n]]] (.v (.int .i64 (tmI l n))) [] True := by
  refine Ctr.of_body en104 Tryz.func104 rfl rfl fun hp => (?_); rw [Tryz.ntmps104]
  refine AW.fact 0 fun hf => ?_
  simp (disch := omega) only [go_sem] at hf
  have hf := Nat.le_trans hf (hL.le 3)
  (repeat' first | (with_reducible first | refine Z ?_ | refine Y ?_ | (refine hK _ _ ?_; clear hK K) | refine And.intro ?_ ?_ | exact Ct | intro (K : _ → _ → Prop) hK | (refine gI fun hg => ?_; try simp only [hC, reduceCtorEq] at hg; try simp only [hg])) | (refine AW.i rfl (fun h => ?_) (fun h => ?_) <;> try simp only [hC, reduceCtorEq] at h) | ((with_reducible refine E ?_; repeat refine Y ?_); refine eF rfl ?_) | simp (disch := omega) only [go_sem] | (with_reducible intro hg; try simp only [hC, reduceCtorEq] at hg) | exact Cl | fail)
  refine AW.loopV [8] [0, 1, 7] (fun m xs o => ∃ k : Nat, xs = [.v (.int .i64 k)] ∧ o = [] ∧ m = l.length - k ∧ k ≤ l.length ∧ ∀ x ∈ l.take k, (x.fName == n) = false) l.length [] trivial ⟨0, ?_, rfl, rfl, ?_, ?_⟩ ?_
  · rfl
  · omega
  · simp
  rintro m xs o ⟨k, rfl, rfl, rfl, hk, hR⟩
  (repeat' first | (with_reducible first | refine Z ?_ | refine Y ?_ | (refine hK _ _ ?_; clear hK K) | refine And.intro ?_ ?_ | exact Ct | intro (K : _ → _ → Prop) hK | (refine gI fun hg => ?_; try simp only [hC, reduceCtorEq] at hg; try simp only [hg])) | (refine AW.i rfl (fun h => ?_) (fun h => ?_) <;> try simp only [hC, reduceCtorEq] at h) | ((with_reducible refine E ?_; repeat refine Y ?_); refine eF rfl ?_) | simp (disch := omega) only [go_sem] | (with_reducible intro hg; try simp only [hC, reduceCtorEq] at hg) | exact Cl | fail)
  · rw [tmI, idx_at' (p := fun x : GTemplate => x.fName == n) (by assumption) hR (by simpa using h)]
  · exact ⟨_, [_], [], by omega, ⟨k + 1, rfl, rfl, rfl, by omega, take_step' (p := fun x : GTemplate => x.fName == n) (by assumption) hR (by simpa using h)⟩, rfl, trivial⟩
  · rw [tmI, idx_end (p := fun x : GTemplate => x.fName == n) h hR]
instance templateNamed_i (L : Nat → Nat) [hL : Lok L] (T : List GTemplate) (S : List GService) (n : Str) : Ctr L Tryz.prog 46 [] [.agg [.sl false 3 (T.map (encTemplate false)), .sl false 4 (S.map (encService false))], .str n] (.v (.int .i64 (tmI T n))) [] True := by
  refine Ctr.of_body en46 Tryz.func46 rfl rfl fun hp => (?_); rw [Tryz.ntmps46]
  all_goals exact uU
instance l29Template_i (L : Nat → Nat) [hL : Lok L] (l : List GTemplate) (S : List GService) (n : Str) : Ctr L Tryz.prog 39 [] [.agg [.sl false 3 (l.map (encTemplate false)), .sl false 4 (S.map (encService false))], .str n] (.v (.int .i64 (tmI l n))) [] True := by
  refine Ctr.of_body en39 Tryz.func39 rfl rfl fun hp => (?_); rw [Tryz.ntmps39]
  refine AW.fact 0 fun hf => ?_
  simp (disch := omega) only [go_sem] at hf
  have hf := Nat.le_trans hf.1 (hL.le 3)
  (repeat' first | (with_reducible first | refine Z ?_ | refine Y ?_ | (refine hK _ _ ?_; clear hK K) | refine And.intro ?_ ?_ | exact Ct | intro (K : _ → _ → Prop) hK | (refine gI fun hg => ?_; try simp only [hC, reduceCtorEq] at hg; try simp only [hg])) | (refine AW.i rfl (fun h => ?_) (fun h => ?_) <;> try simp only [hC, reduceCtorEq] at h) | ((with_reducible refine E ?_; repeat refine Y ?_); refine eF rfl ?_) | simp (disch := omega) only [go_sem] | (with_reducible intro hg; try simp only [hC, reduceCtorEq] at hg) | exact Cl | fail)
  refine AW.loopV [5] [1, 2] (fun m xs o => ∃ k : Nat, xs = [.v (.int .i64 k)] ∧ o = [] ∧ m = l.length - k ∧ k ≤ l.length ∧ ∀ x ∈ l.take k, (x.fName == n) = false) l.length [] trivial ⟨0, ?_, rfl, rfl, ?_, ?_⟩ ?_
  · rfl
  · omega
  · simp
  rintro m xs o ⟨k, rfl, rfl, rfl, hk, hR⟩
  (repeat' first | (with_reducible first | refine Z ?_ | refine Y ?_ | (refine hK _ _ ?_; clear hK K) | refine And.intro ?_ ?_ | exact Ct | intro (K : _ → _ → Prop) hK | (refine gI fun hg => ?_; try simp only [hC, reduceCtorEq] at hg; try simp only [hg])) | (refine AW.i rfl (fun h => ?_) (fun h => ?_) <;> try simp only [hC, reduceCtorEq] at h) | ((with_reducible refine E ?_; repeat refine Y ?_); refine eF rfl ?_) | simp (disch := omega) only [go_sem] | (with_reducible intro hg; try simp only [hC, reduceCtorEq] at hg) | exact Cl | fail)
  · rw [tmI, idx_at' (p := fun x : GTemplate => x.fName == n) (by assumption) hR (by simpa using h)]
  · exact ⟨_, [_], [], by omega, ⟨k + 1, rfl, rfl, rfl, by omega, take_step' (p := fun x : GTemplate => x.fName == n) (by assumption) hR (by simpa using h)⟩, rfl, trivial⟩
  · rw [tmI, idx_end (p := fun x : GTemplate => x.fName == n) h hR]
instance l23In_i (L : Nat → Nat) [hL : Lok L] (l : List Str) (n : Str) : Ctr L Tryz.prog 96 [] [.sl false 1 (l.map AV.str), .str n] (.v (.bool (cont l n))) [] True := by
  refine Ctr.of_body en96 Tryz.func96 rfl rfl fun hp => (?_); rw [Tryz.ntmps96]
  refine AW.fact 0 fun hf => ?_
  simp (disch := omega) only [go_sem] at hf
  have hf := Nat.le_trans hf (hL.le 1)
  (repeat' first | (with_reducible first | refine Z ?_ | refine Y ?_ | (refine hK _ _ ?_; clear hK K) | refine And.intro ?_ ?_ | exact Ct | intro (K : _ → _ → Prop) hK | (refine gI fun hg => ?_; try simp only [hC, reduceCtorEq] at hg; try simp only [hg])) | (refine AW.i rfl (fun h => ?_) (fun h => ?_) <;> try simp only [hC, reduceCtorEq] at h) | ((with_reducible refine E ?_; repeat refine Y ?_); refine eF rfl ?_) | simp (disch := omega) only [go_sem] | (with_reducible intro hg; try simp only [hC, reduceCtorEq] at hg) | exact Cl | fail)
  refine AW.loopV [5] [0, 1] (fun m xs o => ∃ k : Nat, xs = [.v (.int .i64 k)] ∧ o = [] ∧ m = l.length - k ∧ k ≤ l.length ∧ ∀ x ∈ l.take k, (x == n) = false) l.length [] trivial ⟨0, ?_, rfl, rfl, ?_, ?_⟩ ?_
  · rfl
  · omega
  · simp
  rintro m xs o ⟨k, rfl, rfl, rfl, hk, hR⟩
  (repeat' first | (with_reducible first | refine Z ?_ | refine Y ?_ | (refine hK _ _ ?_; clear hK K) | refine And.intro ?_ ?_ | exact Ct | intro (K : _ → _ → Prop) hK | (refine gI fun hg => ?_; try simp only [hC, reduceCtorEq] at hg; try simp only [hg])) | (refine AW.i rfl (fun h => ?_) (fun h => ?_) <;> try simp only [hC, reduceCtorEq] at h) | ((with_reducible refine E ?_; repeat refine Y ?_); refine eF rfl ?_) | simp (disch := omega) only [go_sem] | (with_reducible intro hg; try simp only [hC, reduceCtorEq] at hg) | exact Cl | fail)
  · rw [cont, idx_at' (p := fun x : Str => x == n) (by assumption) hR (by simpa using h)]; simp
  · exact ⟨_, [_], [], by omega, ⟨k + 1, rfl, rfl, rfl, by omega, take_step' (p := fun x : Str => x == n) (by assumption) hR (by simpa using h)⟩, rfl, trivial⟩
  · rw [cont, idx_end (p := fun x : Str => x == n) h hR]; rfl
instance l29Service_i (T : List GTemplate) (S : List GService) (x : GService) : Ctr lim Tryz.prog 40 [] [.agg [.sl false 3 (T.map (encTemplate false)), .sl false 4 (S.map (encService false))], .agg [.str x.fName, .str x.fTemplate, .sl false 2 (x.fArgs.map (encArg false)), .sl false 1 (x.fTargets.map AV.str)]] (.v (.bool (svc T x))) [] True := by
  refine Ctr.of_body en40 Tryz.func40 rfl rfl fun hp => (?_); rw [Tryz.ntmps40]
  refine AW.fact 1 fun hf => ?_
  simp (disch := omega) only [go_sem] at hf
  (repeat' first | (with_reducible first | refine Z ?_ | refine Y ?_ | (refine hK _ _ ?_; clear hK K) | refine And.intro ?_ ?_ | exact Ct | intro (K : _ → _ → Prop) hK | (refine gI fun hg => ?_; try simp only [hC, reduceCtorEq] at hg; try simp only [hg])) | (refine AW.i rfl (fun h => ?_) (fun h => ?_) <;> try simp only [hC, reduceCtorEq] at h) | ((with_reducible refine E ?_; repeat refine Y ?_); refine eF rfl ?_) | simp (disch := omega) only [go_sem] | (with_reducible intro hg; try simp only [hC, reduceCtorEq] at hg) | exact Cl | fail)
  refine AW.loopV [5] [2, 3] (fun m xs o => ∃ k : Nat, xs = [.v (.int .i64 k)] ∧ o = [] ∧ m = x.fTargets.length - k ∧ k ≤ x.fTargets.length ∧ allTo (fun j => isName (at_ x.fTargets j)) k = true ∧ allTo (fun j => !cont (x.fTargets.take j) (at_ x.fTargets j)) k = true) x.fTargets.length [] trivial ⟨0, ?_, rfl, rfl, ?_, rfl, rfl⟩ ?_
  · rfl
  · omega
  rintro m xs o ⟨k, rfl, rfl, rfl, hk, hR, hQ⟩
  (repeat' first | (with_reducible first | refine Z ?_ | refine Y ?_ | (refine hK _ _ ?_; clear hK K) | refine And.intro ?_ ?_ | exact Ct | intro (K : _ → _ → Prop) hK | (refine gI fun hg => ?_; try simp only [hC, reduceCtorEq] at hg; try simp only [hg])) | (refine AW.i rfl (fun h => ?_) (fun h => ?_) <;> try simp only [hC, reduceCtorEq] at h) | ((with_reducible refine E ?_; repeat refine Y ?_); refine eF rfl ?_) | simp (disch := omega) only [go_sem, ← List.map_take, Int.toNat_zero, List.drop_zero] | (with_reducible intro hg; try simp only [hC, reduceCtorEq] at hg) | exact Cl | fail)
  · rename_i hkl
    rcases h with h | h
    · rw [svc, show names x.fTargets = false from allTo_false hkl h]; simp
    · rw [svc, show diffs x.fTargets = false from allTo_false hkl (by simp [h])]; simp
  · exact ⟨_, [_], [], by omega, ⟨k + 1, rfl, rfl, rfl, by omega, allTo_step hR h.1, allTo_step hQ (by simp [h.2])⟩, rfl, trivial⟩
  · rw [show k = x.fTargets.length by omega] at hR hQ
    rw [svc, show names x.fTargets = true from hR, show diffs x.fTargets = true from hQ]; simp
end Go.Proofs.YtkdchlggdcmkbaaGreat
namespace Go.Proofs.YtkdchlggdcmkbaaGreat
open Go.Ab Go.Dt
set_option maxRecDepth 20000
set_option maxHeartbeats 4000000
section
variable (ip : Str → Bool)
variable [hs : ∀ x : GTemplate, Ctr lim Tryz.prog 38 [] [.agg [.str x.fName, .sl false 6 (x.fParams.map (encParam false)), .sl false 3 (x.fBody.map (encNode false))]] (.v (.bool (isTemplate ip x))) [] (wt x.fBody ≤ 1048576 ∧ x.fParams.length ≤ 1048576)]
variable [hi : ∀ x : GTemplate, Ctr lim Tryz.prog 43 [] [.agg [.str x.fName, .sl false 6 (x.fParams.map (encParam false)), .sl false 3 (x.fBody.map (encNode false))]] (.v (.bool (isTemplate ip x))) [] (wt x.fBody ≤ 1048576 ∧ x.fParams.length ≤ 1048576)]
omit hs in
include hi in
theorem iIsPlan_t (T : List GTemplate) (S : List GService) : Ctr lim Tryz.prog 10 [] [.agg [.sl false 3 (T.map (encTemplate false)), .sl false 4 (S.map (encService false))]] (.v (.bool (isPlan ip T S))) [] (tmsOk T) := by
  refine Ctr.of_body en10 Tryz.func10 rfl rfl fun hp => (?_); rw [Tryz.ntmps10]
  refine AW.fact 0 fun hf => ?_
  simp (disch := omega) only [go_sem] at hf
  (repeat' first | (with_reducible first | refine Z ?_ | refine Y ?_ | (refine hK _ _ ?_; clear hK K) | refine And.intro ?_ ?_ | exact Ct | intro (K : _ → _ → Prop) hK | (refine gI fun hg => ?_; try simp only [hC, reduceCtorEq] at hg; try simp only [hg])) | (refine AW.i rfl (fun h => ?_) (fun h => ?_) <;> try simp only [hC, reduceCtorEq] at h) | ((with_reducible refine E ?_; repeat refine Y ?_); refine eF rfl ?_) | simp (disch := omega) only [go_sem] | (with_reducible intro hg; try simp only [hC, reduceCtorEq] at hg) | exact Cl | fail)
  refine AW.loopV [3, 12] [1, 10, 11] (fun m xs o => ∃ k : Nat, xs = [.sl true 1 (((T.take k).map GTemplate.fName).map AV.str), .v (.int .i64 k)] ∧ o = [] ∧ m = T.length - k ∧ k ≤ T.length ∧ allTo (fun j => isTemplate ip (at_ T j)) k = true) T.length [] trivial ⟨0, ?_, rfl, rfl, ?_, rfl⟩ ?_
  · rfl
  · omega
  rintro m xs o ⟨k, rfl, rfl, rfl, hk, hR⟩
  have hlt : (T.take k).length = k := by rw [List.length_take]; omega
  (repeat' first | (with_reducible first | refine Z ?_ | refine Y ?_ | (refine hK _ _ ?_; clear hK K) | refine And.intro ?_ ?_ | exact Ct | intro (K : _ → _ → Prop) hK | (refine gI fun hg => ?_; try simp only [hC, reduceCtorEq] at hg; try simp only [hg])) | ((with_reducible refine E ?_; repeat refine Y ?_); refine eF rfl ?_) | simp (disch := omega) only [go_sem] | (with_reducible intro hg; try simp only [hC, reduceCtorEq] at hg) | exact Cl | fail)
  (refine AW.i rfl (fun h => ?_) (fun h => ?_) <;> try simp only [hC, reduceCtorEq] at h)
  · have hpk := hp _ (at_mem (l := T) (k := k) (by omega))
    have hkT : k < T.length := by omega
    (repeat' first | (with_reducible first | refine Z ?_ | refine Y ?_ | (refine hK _ _ ?_; clear hK K) | refine And.intro ?_ ?_ | exact Ct | intro (K : _ → _ → Prop) hK | (refine gI fun hg => ?_; try simp only [hC, reduceCtorEq] at hg; try simp only [hg])) | (refine AW.i rfl (fun h => ?_) (fun h => ?_) <;> try simp only [hC, reduceCtorEq] at h) | ((with_reducible refine E ?_; repeat refine Y ?_); refine eF rfl ?_) | simp (disch := omega) only [go_sem] | (with_reducible intro hg; try simp only [hC, reduceCtorEq] at hg) | exact Cl | fail)
    · rw [isPlan_t hkT h]
    · refine ⟨_, [_, _], [], by omega, ⟨k + 1, ?_, rfl, rfl, by omega, allTo_step hR h⟩, rfl, trivial⟩
      rw [take_at' hkT, List.map_append, List.map_append]; rfl
  · refine AW.imp (Imp.frz 3 ?_)
    simp (maxSteps := 2000000) (disch := omega) only [go_sem, frzL_str]
    (repeat' first | (with_reducible first | refine Z ?_ | refine Y ?_ | (refine hK _ _ ?_; clear hK K) | refine And.intro ?_ ?_ | exact Ct | intro (K : _ → _ → Prop) hK | (refine gI fun hg => ?_; try simp only [hC, reduceCtorEq] at hg; try simp only [hg])) | (refine AW.i rfl (fun h => ?_) (fun h => ?_) <;> try simp only [hC, reduceCtorEq] at h) | ((with_reducible refine E ?_; repeat refine Y ?_); refine eF rfl ?_) | simp (disch := omega) only [go_sem] | (with_reducible intro hg; try simp only [hC, reduceCtorEq] at hg) | exact Cl | fail)
    · rw [show k = T.length by omega, List.take_length] at h
      rw [isPlan_n (by rcases h with (h | h) | h; exact .inl (.inl (by omega)); exact .inl (.inr h); exact .inr (by omega))]
    · refine AW.loopV [42] [1, 40, 41] (fun m xs o => ∃ j : Nat, xs = [.v (.int .i64 j)] ∧ o = [] ∧ m = S.length - j ∧ j ≤ S.length ∧ allTo (svOk T S) j = true) S.length [] trivial ⟨0, ?_, rfl, rfl, ?_, rfl⟩ ?_
      · rfl
      · omega
      rintro m xs o ⟨j, rfl, rfl, rfl, hj, hQ⟩
      (repeat' first | (with_reducible first | refine Z ?_ | refine Y ?_ | (refine hK _ _ ?_; clear hK K) | refine And.intro ?_ ?_ | exact Ct | intro (K : _ → _ → Prop) hK | (refine gI fun hg => ?_; try simp only [hC, reduceCtorEq] at hg; try simp only [hg])) | (refine AW.i rfl (fun h => ?_) (fun h => ?_) <;> try simp only [hC, reduceCtorEq] at h) | ((with_reducible refine E ?_; repeat refine Y ?_); refine eF rfl ?_) | simp (disch := omega) only [go_sem] | (with_reducible intro hg; try simp only [hC, reduceCtorEq] at hg) | exact Cl | fail)
      · rw [isPlan_s (by assumption) (svOk_no h)]
      · exact ⟨_, [_], [], by omega, ⟨j + 1, rfl, rfl, rfl, by omega, allTo_step hQ (svOk_yes h)⟩, rfl, trivial⟩
      · rename_i h8 h9
        rw [show k = T.length by omega, List.take_length] at h9
        rw [show k = T.length by omega] at hR
        rw [show j = S.length by omega] at hQ
        rw [isPlan, hR, hQ, h9.1.2, show decide (T.length ≤ 8) = true from decide_eq_true (by omega), show decide (S.length ≤ 8) = true from decide_eq_true (by omega)]; rfl
omit hi in
include hs in
theorem sIsPlan_t (T : List GTemplate) (S : List GService) : Ctr lim Tryz.prog 8 [] [.agg [.sl false 3 (T.map (encTemplate false)), .sl false 4 (S.map (encService false))]] (.v (.bool (isPlan ip T S))) [] (tmsOk T) := by
  refine Ctr.of_body en8 Tryz.func8 rfl rfl fun hp => (?_); rw [Tryz.ntmps8]
  refine AW.fact 0 fun hf => ?_
  simp (disch := omega) only [go_sem] at hf
  (repeat' first | (with_reducible first | refine Z ?_ | refine Y ?_ | (refine hK _ _ ?_; clear hK K) | refine And.intro ?_ ?_ | exact Ct | intro (K : _ → _ → Prop) hK | (refine gI fun hg => ?_; try simp only [hC, reduceCtorEq] at hg; try simp only [hg])) | (refine AW.i rfl (fun h => ?_) (fun h => ?_) <;> try simp only [hC, reduceCtorEq] at h) | ((with_reducible refine E ?_; repeat refine Y ?_); refine eF rfl ?_) | simp (disch := omega) only [go_sem] | (with_reducible intro hg; try simp only [hC, reduceCtorEq] at hg) | exact Cl | fail)
  refine AW.loopV [3] [1] (fun m xs o => ∃ k : Nat, xs = [.v (.int .i64 k)] ∧ o = [] ∧ m = T.length - k ∧ k ≤ T.length ∧ allTo (fun j => isTemplate ip (at_ T j)) k = true ∧ allTo (fun j => !cont ((T.map GTemplate.fName).take j) (at_ (T.map GTemplate.fName) j)) k = true) T.length [] trivial ⟨0, ?_, rfl, rfl, ?_, rfl, rfl⟩ ?_
  · rfl
  · omega
  rintro m xs o ⟨k, rfl, rfl, rfl, hk, hR, hD⟩
  (repeat' first | (with_reducible first | refine Z ?_ | refine Y ?_ | (refine hK _ _ ?_; clear hK K) | refine And.intro ?_ ?_ | exact Ct | intro (K : _ → _ → Prop) hK | (refine gI fun hg => ?_; try simp only [hC, reduceCtorEq] at hg; try simp only [hg])) | ((with_reducible refine E ?_; repeat refine Y ?_); refine eF rfl ?_) | simp (disch := omega) only [go_sem] | (with_reducible intro hg; try simp only [hC, reduceCtorEq] at hg) | exact Cl | fail)
  (refine AW.i rfl (fun h => ?_) (fun h => ?_) <;> try simp only [hC, reduceCtorEq] at h)
  · have hpk := hp _ (at_mem (l := T) (k := k) (by omega))
    have hkT : k < T.length := by omega
    (repeat' first | (with_reducible first | refine Z ?_ | refine Y ?_ | (refine hK _ _ ?_; clear hK K) | refine And.intro ?_ ?_ | exact Ct | intro (K : _ → _ → Prop) hK | (refine gI fun hg => ?_; try simp only [hC, reduceCtorEq] at hg; try simp only [hg])) | (refine AW.i rfl (fun h => ?_) (fun h => ?_) <;> try simp only [hC, reduceCtorEq] at h) | ((with_reducible refine E ?_; repeat refine Y ?_); refine eF rfl ?_) | simp (disch := omega) only [go_sem] | (with_reducible intro hg; try simp only [hC, reduceCtorEq] at hg) | exact Cl | fail)
    · rcases h with h | h
      · rw [isPlan_t hkT h]
      · rw [isPlan_dup hkT h]
    · exact ⟨_, [_], [], by omega, ⟨k + 1, rfl, rfl, rfl, by omega, allTo_step hR h.1, allTo_step hD (by rw [(first_iff GTemplate.fName hkT).1 h.2]; rfl)⟩, rfl, trivial⟩
  · (repeat' first | (with_reducible first | refine Z ?_ | refine Y ?_ | (refine hK _ _ ?_; clear hK K) | refine And.intro ?_ ?_ | exact Ct | intro (K : _ → _ → Prop) hK | (refine gI fun hg => ?_; try simp only [hC, reduceCtorEq] at hg; try simp only [hg])) | (refine AW.i rfl (fun h => ?_) (fun h => ?_) <;> try simp only [hC, reduceCtorEq] at h) | ((with_reducible refine E ?_; repeat refine Y ?_); refine eF rfl ?_) | simp (disch := omega) only [go_sem] | (with_reducible intro hg; try simp only [hC, reduceCtorEq] at hg) | exact Cl | fail)
    refine AW.loopV [4] [1] (fun m xs o => ∃ j : Nat, xs = [.v (.int .i64 j)] ∧ o = [] ∧ m = S.length - j ∧ j ≤ S.length ∧ allTo (svOk T S) j = true) S.length [] trivial ⟨0, ?_, rfl, rfl, ?_, rfl⟩ ?_
    · rfl
    · omega
    rintro m xs o ⟨j, rfl, rfl, rfl, hj, hQ⟩
    (repeat' first | (with_reducible first | refine Z ?_ | refine Y ?_ | (refine hK _ _ ?_; clear hK K) | refine And.intro ?_ ?_ | exact Ct | intro (K : _ → _ → Prop) hK | (refine gI fun hg => ?_; try simp only [hC, reduceCtorEq] at hg; try simp only [hg])) | (refine AW.i rfl (fun h => ?_) (fun h => ?_) <;> try simp only [hC, reduceCtorEq] at h) | ((with_reducible refine E ?_; repeat refine Y ?_); refine eF rfl ?_) | simp (disch := omega) only [go_sem] | (with_reducible intro hg; try simp only [hC, reduceCtorEq] at hg) | exact Cl | fail)
    · rw [isPlan_s (by assumption) (svOk_no2 h)]
    · exact ⟨_, [_], [], by omega, ⟨j + 1, rfl, rfl, rfl, by omega, allTo_step hQ (svOk_yes2 h)⟩, rfl, trivial⟩
    · rw [show k = T.length by omega] at hR hD
      rw [show j = S.length by omega] at hQ
      have hd : diffs (T.map GTemplate.fName) = true := by unfold diffs; rw [List.length_map]; exact hD
      rw [isPlan, hR, hQ, hd, show decide ((T.length : Int) ≤ 8) = decide (T.length ≤ 8) from decide_eq_decide.2 (by omega), show decide ((S.length : Int) ≤ 8) = decide (S.length ≤ 8) from decide_eq_decide.2 (by omega)]; simp
end
end Go.Proofs.YtkdchlggdcmkbaaGreat
