/-
  Part of a proof: Cp9.
-/
import Derived.Test.YtkdchlggdcmkbaaGreatG22
import Derived.Test.YtkdchlggdcmkbaaGreatG23
set_option linter.unusedSimpArgs false
set_option linter.unusedVariables false
namespace Go.Proofs.YtkdchlggdcmkbaaGreat
open Go.Ab Go.Dt
set_option maxRecDepth 20000
set_option maxHeartbeats 4000000
instance iCopyService_i (x : GService) : Ctr lim Tryz.prog 83 [] [.agg [.str x.fName, .str x.fTemplate, .sl false 2 (x.fArgs.map (encArg false)), .sl false 1 (x.fTargets.map AV.str)]] (.agg [.str x.fName, .str x.fTemplate, .sl true 2 (x.fArgs.map (encArg true)), .sl true 1 (x.fTargets.map AV.str)]) [] True := by
  refine Ctr.of_body en83 Tryz.func83 rfl rfl fun hp => (?_); rw [Tryz.ntmps83]
  refine AW.fact 0 fun hf => ?_
  simp (disch := omega) only [go_sem] at hf
  (repeat' first | (with_reducible first | refine Z ?_ | refine xO ?_ | refine Y ?_ | (refine hK _ _ ?_; clear hK K) | refine And.intro ?_ ?_ | exact Ct | intro (K : _ → _ → Prop) hK | (refine gI fun hg => ?_; try simp only [hC, reduceCtorEq] at hg; try simp only [hg])) | (refine AW.i rfl (fun h => ?_) (fun h => ?_) <;> try simp only [hC, reduceCtorEq] at h) | ((with_reducible refine E ?_; repeat refine Y ?_); refine eF rfl ?_) | simp (disch := omega) only [go_sem] | (with_reducible intro hg; try simp only [hC, reduceCtorEq] at hg) | exact Cl | fail)
  rfl
instance sCopyService_i (x : GService) : Ctr lim Tryz.prog 76 [] [.agg [.str x.fName, .str x.fTemplate, .sl false 2 (x.fArgs.map (encArg false)), .sl false 1 (x.fTargets.map AV.str)]] (.agg [.str x.fName, .str x.fTemplate, .sl true 2 (x.fArgs.map (encArg true)), .sl true 1 (x.fTargets.map AV.str)]) [] True := by
  refine Ctr.of_body en76 Tryz.func76 rfl rfl fun hp => (?_); rw [Tryz.ntmps76]
  refine AW.fact 0 fun hf => ?_
  simp (disch := omega) only [go_sem] at hf
  (repeat' first | (with_reducible first | refine Z ?_ | refine Y ?_ | (refine hK _ _ ?_; clear hK K) | refine And.intro ?_ ?_ | exact Ct | intro (K : _ → _ → Prop) hK | (refine gI fun hg => ?_; try simp only [hC, reduceCtorEq] at hg; try simp only [hg])) | (refine AW.i rfl (fun h => ?_) (fun h => ?_) <;> try simp only [hC, reduceCtorEq] at h) | ((with_reducible refine E ?_; repeat refine Y ?_); refine eF rfl ?_) | simp (disch := omega) only [go_sem] | (with_reducible intro hg; try simp only [hC, reduceCtorEq] at hg) | exact Cl | fail)
  rfl
instance iCopyPlan_i (x : GPlan) : Ctr lim Tryz.prog 79 [] [.agg [.sl false 3 (x.fTemplates.map (encTemplate false)), .sl false 4 (x.fServices.map (encService false))]] (.agg [.sl true 3 (x.fTemplates.map (encTemplate true)), .sl true 4 (x.fServices.map (encService true))]) [] True := by
  refine Ctr.of_body en79 Tryz.func79 rfl rfl fun hp => (?_); rw [Tryz.ntmps79]
  refine AW.fact 0 fun hf => ?_
  simp (disch := omega) only [go_sem] at hf
  (repeat' first | (with_reducible first | refine Z ?_ | refine Y ?_ | (refine hK _ _ ?_; clear hK K) | refine And.intro ?_ ?_ | exact Ct | intro (K : _ → _ → Prop) hK | (refine gI fun hg => ?_; try simp only [hC, reduceCtorEq] at hg; try simp only [hg])) | (refine AW.i rfl (fun h => ?_) (fun h => ?_) <;> try simp only [hC, reduceCtorEq] at h) | ((with_reducible refine E ?_; repeat refine Y ?_); refine eF rfl ?_) | simp (disch := omega) only [go_sem] | (with_reducible intro hg; try simp only [hC, reduceCtorEq] at hg) | exact Cl | fail)
  rename_i b2 b3
  refine AW.imp (Imp.nilOT (b := b3) 3 [] [_] (O_eq _ _ _) ?_)
  simp (maxSteps := 2000000) (disch := omega) only [go_sem]
  refine AW.loopW [15] [1, 2, 3, 13, 14] (fun m xs o => ∃ k : Nat, xs = [.v (.int .i64 k)] ∧ o = [(b3, some [.sl true 3 ((x.fTemplates.take k).map (encTemplate true)), .v (.slice none 0 0)]), (b2, some [.v (.slice none 0 0), .v (.slice none 0 0)])] ∧ m = x.fTemplates.length - k ∧ k ≤ x.fTemplates.length) x.fTemplates.length [(b3, some [.sl true 3 ((x.fTemplates.take 0).map (encTemplate true)), .v (.slice none 0 0)]), (b2, some [.v (.slice none 0 0), .v (.slice none 0 0)])] gO ⟨0, rfl, rfl, rfl, by omega⟩ ?_
  rintro m xs o ⟨k, rfl, rfl, rfl, hk⟩
  have hlt : (x.fTemplates.take k).length = k := by rw [List.length_take]; omega
  (repeat' first | (with_reducible first | refine Z ?_ | refine Y ?_ | (refine hK _ _ ?_; clear hK K) | refine And.intro ?_ ?_ | exact Ct | intro (K : _ → _ → Prop) hK | (refine gI fun hg => ?_; try simp only [hC, reduceCtorEq] at hg; try simp only [hg])) | ((with_reducible refine E ?_; repeat refine Y ?_); refine eF rfl ?_) | simp (disch := omega) only [go_sem] | (with_reducible intro hg; try simp only [hC, reduceCtorEq] at hg) | exact Cl | fail)
  (refine AW.i rfl (fun h => ?_) (fun h => ?_) <;> try simp only [hC, reduceCtorEq] at h)
  · refine AW.factE 13 rfl (x := encTemplate false (at_ x.fTemplates k)) (List.mem_map_of_mem (at_mem h)) fun hfe => ?_
    simp (disch := omega) only [go_sem] at hfe
    have hkt := h
    (repeat' first | (with_reducible first | refine Z ?_ | refine Y ?_ | (refine hK _ _ ?_; clear hK K) | refine And.intro ?_ ?_ | exact Ct | intro (K : _ → _ → Prop) hK | (refine gI fun hg => ?_; try simp only [hC, reduceCtorEq] at hg; try simp only [hg])) | ((with_reducible refine E ?_; repeat refine Y ?_); refine eF rfl ?_) | simp (disch := omega) only [go_sem] | (with_reducible intro hg; try simp only [hC, reduceCtorEq] at hg) | exact Cl | fail)
    rename_i b5
    refine AW.loopV [6, 23] [1, 2, 3, 5, 13, 14, 15, 21, 22] (fun m xs o => ∃ j : Nat, xs = [.sl true 6 ((((at_ x.fTemplates k).fParams).take j).map (encParam true)), .v (.int .i64 j)] ∧ o = [(b5, some [.str (at_ x.fTemplates k).fName, .sl false 6 ((at_ x.fTemplates k).fParams.map (encParam false)), .sl false 3 ((at_ x.fTemplates k).fBody.map (encNode false))]), (b3, some [.sl true 3 ((x.fTemplates.take k).map (encTemplate true)), .v (.slice none 0 0)]), (b2, some [.v (.slice none 0 0), .v (.slice none 0 0)])] ∧ m = (at_ x.fTemplates k).fParams.length - j ∧ j ≤ (at_ x.fTemplates k).fParams.length) (at_ x.fTemplates k).fParams.length [(b5, some [.str (at_ x.fTemplates k).fName, .sl false 6 ((at_ x.fTemplates k).fParams.map (encParam false)), .sl false 3 ((at_ x.fTemplates k).fBody.map (encNode false))]), (b3, some [.sl true 3 ((x.fTemplates.take k).map (encTemplate true)), .v (.slice none 0 0)]), (b2, some [.v (.slice none 0 0), .v (.slice none 0 0)])] gO ⟨0, rfl, rfl, rfl, by omega⟩ ?_
    rintro m xs o ⟨j, rfl, rfl, rfl, hj⟩
    have hlj : ((at_ x.fTemplates k).fParams.take j).length = j := by rw [List.length_take]; omega
    (repeat' first | (with_reducible first | refine Z ?_ | refine Y ?_ | (refine hK _ _ ?_; clear hK K) | refine And.intro ?_ ?_ | exact Ct | intro (K : _ → _ → Prop) hK | (refine gI fun hg => ?_; try simp only [hC, reduceCtorEq] at hg; try simp only [hg])) | ((with_reducible refine E ?_; repeat refine Y ?_); refine eF rfl ?_) | simp (disch := omega) only [go_sem] | (with_reducible intro hg; try simp only [hC, reduceCtorEq] at hg) | exact Cl | fail)
    (refine AW.i rfl (fun h => ?_) (fun h => ?_) <;> try simp only [hC, reduceCtorEq] at h)
    · refine AW.factE 21 rfl (x := encParam false (at_ (at_ x.fTemplates k).fParams j)) (List.mem_map_of_mem (at_mem (by assumption))) fun hfp => ?_
      simp (disch := omega) only [go_sem] at hfp
      (repeat' first | (with_reducible first | refine Z ?_ | refine Y ?_ | (refine hK _ _ ?_; clear hK K) | refine And.intro ?_ ?_ | exact Ct | intro (K : _ → _ → Prop) hK | (refine gI fun hg => ?_; try simp only [hC, reduceCtorEq] at hg; try simp only [hg])) | (refine AW.i rfl (fun h => ?_) (fun h => ?_) <;> try simp only [hC, reduceCtorEq] at h) | ((with_reducible refine E ?_; repeat refine Y ?_); refine eF rfl ?_) | simp (disch := omega) only [go_sem] | (with_reducible intro hg; try simp only [hC, reduceCtorEq] at hg) | exact Cl | fail)
      exact ⟨_, [_, _], _, by omega, ⟨j + 1, by rw [take_at' (by assumption), List.map_append, List.map_cons, List.map_nil]; rfl, rfl, rfl, by omega⟩, rfl, by simp (maxSteps := 2000000) (disch := omega) only [go_sem]⟩
    · rw [show j = (at_ x.fTemplates k).fParams.length by omega, List.take_length]
      (repeat' first | (with_reducible first | refine Y ?_ | (refine hK _ _ ?_; clear hK K) | refine And.intro ?_ ?_ | exact Ct | intro (K : _ → _ → Prop) hK | (refine gI fun hg => ?_; try simp only [hC, reduceCtorEq] at hg; try simp only [hg])) | ((with_reducible refine E ?_; repeat refine Y ?_); refine eF rfl ?_) | simp (disch := omega) only [go_sem] | (with_reducible intro hg; try simp only [hC, reduceCtorEq] at hg) | exact Cl | fail)
      refine AW.imp (Imp.unfoldO2 (b0 := b3) (k := 0) (sz := 3) (l := (x.fTemplates.take k).map (encTemplate true)) (by simp (maxSteps := 2000000) (disch := omega) only [go_sem]; rfl) rfl (map_elem (fun _ => rfl) _) (fun b hb => ?_) (fun hnil => ?_))
      · have hb1 := hb.nf
        simp only [go_sem] at hb1
        simp only [List.set_cons_zero, List.set_cons_succ, List.length_map]
        (repeat' first | (with_reducible first | refine Z ?_ | refine Y ?_ | (refine hK _ _ ?_; clear hK K) | refine And.intro ?_ ?_ | exact Ct | intro (K : _ → _ → Prop) hK | (refine gI fun hg => ?_; try simp only [hC, reduceCtorEq] at hg; try simp only [hg])) | (refine AW.i rfl (fun h => ?_) (fun h => ?_) <;> try simp only [hC, reduceCtorEq] at h) | ((with_reducible refine E ?_; repeat refine Y ?_); refine eF rfl ?_) | simp (disch := omega) only [go_sem] | (with_reducible intro hg; try simp only [hC, reduceCtorEq] at hg) | exact Cl | fail)
        · rw [flat_elem_len (sz := 3) (map_elem (fun _ => rfl) _), List.length_map]
        rename_i g
        refine Imp.foldA (b0 := b3) (k := 0) (b := g) (sz := 3) (cells0 := [.arr g 0 ((x.fTemplates.take k).length + 1) 3, .v (.slice none 0 0)]) (l := (x.fTemplates.take k).map (encTemplate true)) (encTemplate true (at_ x.fTemplates k)) gO (by rw [List.length_map]; rfl) (by simp (maxSteps := 2000000) (disch := omega) only [go_sem]; try rfl) (by omega) (map_elem (fun _ => rfl) _) rfl ?_
        simp only [List.set_cons_zero, List.set_cons_succ]
        exact ⟨trivial, _, [_], _, by omega, ⟨k + 1, rfl, rfl, rfl, by omega⟩, rfl, by rw [take_at' hkt, List.map_append]; simp (maxSteps := 2000000) (disch := omega) only [go_sem]; try rfl⟩
      · simp only [List.set_cons_zero, List.set_cons_succ, hnil]
        (repeat' first | (with_reducible first | refine Z ?_ | refine Y ?_ | (refine hK _ _ ?_; clear hK K) | refine And.intro ?_ ?_ | exact Ct | intro (K : _ → _ → Prop) hK | (refine gI fun hg => ?_; try simp only [hC, reduceCtorEq] at hg; try simp only [hg])) | (refine AW.i rfl (fun h => ?_) (fun h => ?_) <;> try simp only [hC, reduceCtorEq] at h) | ((with_reducible refine E ?_; repeat refine Y ?_); refine eF rfl ?_) | simp (disch := omega) only [go_sem] | (with_reducible intro hg; try simp only [hC, reduceCtorEq] at hg) | exact Cl | fail)
        have hk0 : k = 0 := by rw [List.map_eq_nil_iff] at hnil; rw [hnil] at hlt; exact hlt.symm
        subst hk0
        refine Imp.id ?_
        simp (maxSteps := 2000000) (disch := omega) only [go_sem]
        exact ⟨_, [_], _, by omega, ⟨1, rfl, rfl, rfl, by omega⟩, rfl, by rw [take_at' hkt]; simp (maxSteps := 2000000) (disch := omega) only [go_sem]; try rfl⟩
  · rw [show k = x.fTemplates.length by omega, List.take_length]
    (repeat' first | (with_reducible first | refine Z ?_ | refine Y ?_ | (refine hK _ _ ?_; clear hK K) | refine And.intro ?_ ?_ | exact Ct | intro (K : _ → _ → Prop) hK | (refine gI fun hg => ?_; try simp only [hC, reduceCtorEq] at hg; try simp only [hg])) | (refine AW.i rfl (fun h => ?_) (fun h => ?_) <;> try simp only [hC, reduceCtorEq] at h) | ((with_reducible refine E ?_; repeat refine Y ?_); refine eF rfl ?_) | simp (disch := omega) only [go_sem] | (with_reducible intro hg; try simp only [hC, reduceCtorEq] at hg) | exact Cl | fail)
    refine AW.imp (Imp.nilOT (b := b3) 4 [_] [] (O_eq _ _ _) ?_)
    simp (maxSteps := 2000000) (disch := omega) only [go_sem]
    refine AW.loopW [53] [1, 2, 3, 51, 52] (fun m xs o => ∃ k : Nat, xs = [.v (.int .i64 k)] ∧ o = [(b3, some [.sl true 3 (x.fTemplates.map (encTemplate true)), .sl true 4 ((x.fServices.take k).map (encService true))]), (b2, some [.v (.slice none 0 0), .v (.slice none 0 0)])] ∧ m = x.fServices.length - k ∧ k ≤ x.fServices.length) x.fServices.length [(b3, some [.sl true 3 (x.fTemplates.map (encTemplate true)), .sl true 4 ((x.fServices.take 0).map (encService true))]), (b2, some [.v (.slice none 0 0), .v (.slice none 0 0)])] gO ⟨0, rfl, rfl, rfl, by omega⟩ ?_
    rintro m xs o ⟨k, rfl, rfl, rfl, hk⟩
    have hlt : (x.fServices.take k).length = k := by rw [List.length_take]; omega
    (repeat' first | (with_reducible first | refine Z ?_ | refine Y ?_ | (refine hK _ _ ?_; clear hK K) | refine And.intro ?_ ?_ | exact Ct | intro (K : _ → _ → Prop) hK | (refine gI fun hg => ?_; try simp only [hC, reduceCtorEq] at hg; try simp only [hg])) | ((with_reducible refine E ?_; repeat refine Y ?_); refine eF rfl ?_) | simp (disch := omega) only [go_sem] | (with_reducible intro hg; try simp only [hC, reduceCtorEq] at hg) | exact Cl | fail)
    (refine AW.i rfl (fun h => ?_) (fun h => ?_) <;> try simp only [hC, reduceCtorEq] at h)
    · refine AW.factE 51 rfl (x := encService false (at_ x.fServices k)) (List.mem_map_of_mem (at_mem h)) fun hfe => ?_
      simp (disch := omega) only [go_sem] at hfe
      have hkt := h
      refine AW.imp (Imp.unfoldO2 (b0 := b3) (k := 1) (sz := 4) (l := (x.fServices.take k).map (encService true)) (by simp (maxSteps := 2000000) (disch := omega) only [go_sem]; rfl) rfl (map_elem (fun _ => rfl) _) (fun b hb => ?_) (fun hnil => ?_))
      · have hb1 := hb.nf
        simp only [go_sem] at hb1
        simp only [List.set_cons_zero, List.set_cons_succ, List.length_map]
        (repeat' first | (with_reducible first | refine Z ?_ | refine Y ?_ | (refine hK _ _ ?_; clear hK K) | refine And.intro ?_ ?_ | exact Ct | intro (K : _ → _ → Prop) hK | (refine gI fun hg => ?_; try simp only [hC, reduceCtorEq] at hg; try simp only [hg])) | (refine AW.i rfl (fun h => ?_) (fun h => ?_) <;> try simp only [hC, reduceCtorEq] at h) | ((with_reducible refine E ?_; repeat refine Y ?_); refine eF rfl ?_) | simp (disch := omega) only [go_sem] | (with_reducible intro hg; try simp only [hC, reduceCtorEq] at hg) | exact Cl | fail)
        · rw [flat_elem_len (sz := 4) (map_elem (fun _ => rfl) _), List.length_map]
        rename_i g
        refine Imp.foldA (b0 := b3) (k := 1) (b := g) (sz := 4) (cells0 := [.sl true 3 (x.fTemplates.map (encTemplate true)), .arr g 0 ((x.fServices.take k).length + 1) 4]) (l := (x.fServices.take k).map (encService true)) (encService true (at_ x.fServices k)) gO (by rw [List.length_map]; rfl) (by simp (maxSteps := 2000000) (disch := omega) only [go_sem]; try rfl) (by omega) (map_elem (fun _ => rfl) _) rfl ?_
        simp only [List.set_cons_zero, List.set_cons_succ]
        exact ⟨trivial, _, [_], _, by omega, ⟨k + 1, rfl, rfl, rfl, by omega⟩, rfl, by rw [take_at' hkt, List.map_append]; simp (maxSteps := 2000000) (disch := omega) only [go_sem]; try rfl⟩
      · simp only [List.set_cons_zero, List.set_cons_succ, hnil]
        (repeat' first | (with_reducible first | refine Z ?_ | refine Y ?_ | (refine hK _ _ ?_; clear hK K) | refine And.intro ?_ ?_ | exact Ct | intro (K : _ → _ → Prop) hK | (refine gI fun hg => ?_; try simp only [hC, reduceCtorEq] at hg; try simp only [hg])) | (refine AW.i rfl (fun h => ?_) (fun h => ?_) <;> try simp only [hC, reduceCtorEq] at h) | ((with_reducible refine E ?_; repeat refine Y ?_); refine eF rfl ?_) | simp (disch := omega) only [go_sem] | (with_reducible intro hg; try simp only [hC, reduceCtorEq] at hg) | exact Cl | fail)
        have hk0 : k = 0 := by rw [List.map_eq_nil_iff] at hnil; rw [hnil] at hlt; exact hlt.symm
        subst hk0
        refine Imp.id ?_
        simp (maxSteps := 2000000) (disch := omega) only [go_sem]
        exact ⟨_, [_], _, by omega, ⟨1, rfl, rfl, rfl, by omega⟩, rfl, by rw [take_at' hkt]; simp (maxSteps := 2000000) (disch := omega) only [go_sem]; try rfl⟩
    · rw [show k = x.fServices.length by omega, List.take_length]
      all_goals exact uU
instance sCopyPlan_i (x : GPlan) : Ctr lim Tryz.prog 75 [] [.agg [.sl false 3 (x.fTemplates.map (encTemplate false)), .sl false 4 (x.fServices.map (encService false))]] (.agg [.sl true 3 (x.fTemplates.map (encTemplate true)), .sl true 4 (x.fServices.map (encService true))]) [] True := by
  refine Ctr.of_body en75 Tryz.func75 rfl rfl fun hp => (?_); rw [Tryz.ntmps75]
  refine AW.fact 0 fun hf => ?_
  simp (disch := omega) only [go_sem] at hf
  (repeat' first | (with_reducible first | refine Z ?_ | refine Y ?_ | (refine hK _ _ ?_; clear hK K) | refine And.intro ?_ ?_ | exact Ct | intro (K : _ → _ → Prop) hK | (refine gI fun hg => ?_; try simp only [hC, reduceCtorEq] at hg; try simp only [hg])) | (refine AW.i rfl (fun h => ?_) (fun h => ?_) <;> try simp only [hC, reduceCtorEq] at h) | ((with_reducible refine E ?_; repeat refine Y ?_); refine eF rfl ?_) | simp (disch := omega) only [go_sem] | (with_reducible intro hg; try simp only [hC, reduceCtorEq] at hg) | exact Cl | fail)
  rename_i b2 b3
  refine AW.imp (Imp.nilOT (b := b3) 3 [] [_] (O_eq _ _ _) ?_)
  simp (maxSteps := 2000000) (disch := omega) only [go_sem]
  refine AW.loopW [4] [1, 2, 3] (fun m xs o => ∃ k : Nat, xs = [.v (.int .i64 k)] ∧ o = [(b3, some [.sl true 3 ((x.fTemplates.take k).map (encTemplate true)), .v (.slice none 0 0)]), (b2, some [.v (.slice none 0 0), .v (.slice none 0 0)])] ∧ m = x.fTemplates.length - k ∧ k ≤ x.fTemplates.length) x.fTemplates.length [(b3, some [.sl true 3 ((x.fTemplates.take 0).map (encTemplate true)), .v (.slice none 0 0)]), (b2, some [.v (.slice none 0 0), .v (.slice none 0 0)])] gO ⟨0, rfl, rfl, rfl, by omega⟩ ?_
  rintro m xs o ⟨k, rfl, rfl, rfl, hk⟩
  have hlt : (x.fTemplates.take k).length = k := by rw [List.length_take]; omega
  (repeat' first | (with_reducible first | refine Z ?_ | refine Y ?_ | (refine hK _ _ ?_; clear hK K) | refine And.intro ?_ ?_ | exact Ct | intro (K : _ → _ → Prop) hK | (refine gI fun hg => ?_; try simp only [hC, reduceCtorEq] at hg; try simp only [hg])) | ((with_reducible refine E ?_; repeat refine Y ?_); refine eF rfl ?_) | simp (disch := omega) only [go_sem] | (with_reducible intro hg; try simp only [hC, reduceCtorEq] at hg) | exact Cl | fail)
  (refine AW.i rfl (fun h => ?_) (fun h => ?_) <;> try simp only [hC, reduceCtorEq] at h)
  · refine AW.factE 12 rfl (x := encTemplate false (at_ x.fTemplates k)) (List.mem_map_of_mem (at_mem h)) fun hfe => ?_
    simp (disch := omega) only [go_sem] at hfe
    have hkt := h
    (repeat' first | (with_reducible first | refine Y ?_ | (refine hK _ _ ?_; clear hK K) | refine And.intro ?_ ?_ | exact Ct | intro (K : _ → _ → Prop) hK | (refine gI fun hg => ?_; try simp only [hC, reduceCtorEq] at hg; try simp only [hg])) | ((with_reducible refine E ?_; repeat refine Y ?_); refine eF rfl ?_) | simp (disch := omega) only [go_sem] | (with_reducible intro hg; try simp only [hC, reduceCtorEq] at hg) | exact Cl | fail)
    (refine Z ?_; refine fun (K : _ → _ → Prop) hK => ?_; simp (maxSteps := 2000000) (disch := omega) only [go_sem])
    (repeat' first | (with_reducible first | refine Y ?_ | (refine hK _ _ ?_; clear hK K) | refine And.intro ?_ ?_ | exact Ct | intro (K : _ → _ → Prop) hK | (refine gI fun hg => ?_; try simp only [hC, reduceCtorEq] at hg; try simp only [hg])) | ((with_reducible refine E ?_; repeat refine Y ?_); refine eF rfl ?_) | simp (disch := omega) only [go_sem] | (with_reducible intro hg; try simp only [hC, reduceCtorEq] at hg) | exact Cl | fail)
    first | refine AW.sdrwnA ?_ | refine AW.drwnA ?_
    (repeat' first | (with_reducible first | refine Z ?_ | refine Y ?_ | (refine hK _ _ ?_; clear hK K) | refine And.intro ?_ ?_ | exact Ct | intro (K : _ → _ → Prop) hK | (refine gI fun hg => ?_; try simp only [hC, reduceCtorEq] at hg; try simp only [hg])) | ((with_reducible refine E ?_; repeat refine Y ?_); refine eF rfl ?_) | simp (disch := omega) only [go_sem] | (with_reducible intro hg; try simp only [hC, reduceCtorEq] at hg) | exact Cl | fail)
    rename_i b5 hg5 b6
    refine AW.imp (Imp.nilOT (b := b6) 6 [_] [_] (O_eq _ _ _) ?_)
    simp (maxSteps := 2000000) (disch := omega) only [go_sem]
    refine AW.loopW [7] [1, 2, 3, 4, 5, 6] (fun m xs o => ∃ j : Nat, xs = [.v (.int .i64 j)] ∧ o = [(b6, some [.str (at_ x.fTemplates k).fName, .sl true 6 ((((at_ x.fTemplates k).fParams).take j).map (encParam true)), .sl true 3 ((at_ x.fTemplates k).fBody.map (encNode true))]), (b5, some [.str (at_ x.fTemplates k).fName, .sl false 6 ((at_ x.fTemplates k).fParams.map (encParam false)), .sl false 3 ((at_ x.fTemplates k).fBody.map (encNode false))]), (b3, some [.sl true 3 ((x.fTemplates.take k).map (encTemplate true)), .v (.slice none 0 0)]), (b2, some [.v (.slice none 0 0), .v (.slice none 0 0)])] ∧ m = (at_ x.fTemplates k).fParams.length - j ∧ j ≤ (at_ x.fTemplates k).fParams.length) (at_ x.fTemplates k).fParams.length [(b6, some [.str (at_ x.fTemplates k).fName, .sl true 6 ((((at_ x.fTemplates k).fParams).take 0).map (encParam true)), .sl true 3 ((at_ x.fTemplates k).fBody.map (encNode true))]), (b5, some [.str (at_ x.fTemplates k).fName, .sl false 6 ((at_ x.fTemplates k).fParams.map (encParam false)), .sl false 3 ((at_ x.fTemplates k).fBody.map (encNode false))]), (b3, some [.sl true 3 ((x.fTemplates.take k).map (encTemplate true)), .v (.slice none 0 0)]), (b2, some [.v (.slice none 0 0), .v (.slice none 0 0)])] gO ⟨0, rfl, rfl, rfl, by omega⟩ ?_
    rintro m xs o ⟨j, rfl, rfl, rfl, hj⟩
    have hlj : ((at_ x.fTemplates k).fParams.take j).length = j := by rw [List.length_take]; omega
    (repeat' first | (with_reducible first | refine Z ?_ | refine Y ?_ | (refine hK _ _ ?_; clear hK K) | refine And.intro ?_ ?_ | exact Ct | intro (K : _ → _ → Prop) hK | (refine gI fun hg => ?_; try simp only [hC, reduceCtorEq] at hg; try simp only [hg])) | ((with_reducible refine E ?_; repeat refine Y ?_); refine eF rfl ?_) | simp (disch := omega) only [go_sem] | (with_reducible intro hg; try simp only [hC, reduceCtorEq] at hg) | exact Cl | fail)
    (refine AW.i rfl (fun h => ?_) (fun h => ?_) <;> try simp only [hC, reduceCtorEq] at h)
    · refine AW.factE 30 rfl (x := encParam false (at_ (at_ x.fTemplates k).fParams j)) (List.mem_map_of_mem (at_mem h)) fun hfp => ?_
      simp (disch := omega) only [go_sem] at hfp
      refine AW.imp (Imp.unfoldO2 (b0 := b6) (k := 1) (sz := 6) (l := ((at_ x.fTemplates k).fParams.take j).map (encParam true)) (O_eq _ _ _) rfl (map_elem (fun _ => rfl) _) (fun b hb => ?_) (fun hnil => ?_))
      · have hb1 := hb.nf
        simp only [go_sem] at hb1
        simp only [List.set_cons_zero, List.set_cons_succ, List.length_map]
        (repeat' first | (with_reducible first | refine Z ?_ | refine Y ?_ | (refine hK _ _ ?_; clear hK K) | refine And.intro ?_ ?_ | exact Ct | intro (K : _ → _ → Prop) hK | (refine gI fun hg => ?_; try simp only [hC, reduceCtorEq] at hg; try simp only [hg])) | (refine AW.i rfl (fun h => ?_) (fun h => ?_) <;> try simp only [hC, reduceCtorEq] at h) | ((with_reducible refine E ?_; repeat refine Y ?_); refine eF rfl ?_) | simp (disch := omega) only [go_sem] | (with_reducible intro hg; try simp only [hC, reduceCtorEq] at hg) | exact Cl | fail)
        · rw [flat_elem_len (sz := 6) (map_elem (fun _ => rfl) _), List.length_map]
        rename_i g
        refine Imp.foldA (b0 := b6) (k := 1) (b := g) (sz := 6) (cells0 := [.str (at_ x.fTemplates k).fName, .arr g 0 (((at_ x.fTemplates k).fParams.take j).length + 1) 6, .sl true 3 ((at_ x.fTemplates k).fBody.map (encNode true))]) (l := ((at_ x.fTemplates k).fParams.take j).map (encParam true)) (encParam true (at_ (at_ x.fTemplates k).fParams j)) gO (by rw [List.length_map]; rfl) (by simp (maxSteps := 2000000) (disch := omega) only [go_sem]; try rfl) (by omega) (map_elem (fun _ => rfl) _) rfl ?_
        simp only [List.set_cons_zero, List.set_cons_succ]
        exact ⟨trivial, _, [_], _, by omega, ⟨j + 1, rfl, rfl, rfl, by omega⟩, rfl, by rw [take_at' h, List.map_append]; simp (maxSteps := 2000000) (disch := omega) only [go_sem]; try rfl⟩
      · simp only [List.set_cons_zero, List.set_cons_succ, hnil]
        (repeat' first | (with_reducible first | refine Z ?_ | refine Y ?_ | (refine hK _ _ ?_; clear hK K) | refine And.intro ?_ ?_ | exact Ct | intro (K : _ → _ → Prop) hK | (refine gI fun hg => ?_; try simp only [hC, reduceCtorEq] at hg; try simp only [hg])) | (refine AW.i rfl (fun h => ?_) (fun h => ?_) <;> try simp only [hC, reduceCtorEq] at h) | ((with_reducible refine E ?_; repeat refine Y ?_); refine eF rfl ?_) | simp (disch := omega) only [go_sem] | (with_reducible intro hg; try simp only [hC, reduceCtorEq] at hg) | exact Cl | fail)
        have hj0 : j = 0 := by rw [List.map_eq_nil_iff] at hnil; rw [hnil] at hlj; exact hlj.symm
        subst hj0
        refine Imp.id ?_
        simp (maxSteps := 2000000) (disch := omega) only [go_sem]
        exact ⟨_, [_], _, by omega, ⟨1, rfl, rfl, rfl, by omega⟩, rfl, by rw [take_at' h]; simp (maxSteps := 2000000) (disch := omega) only [go_sem]; try rfl⟩
    · rw [show j = (at_ x.fTemplates k).fParams.length by omega, List.take_length]
      (repeat' first | (with_reducible first | refine Y ?_ | (refine hK _ _ ?_; clear hK K) | refine And.intro ?_ ?_ | exact Ct | intro (K : _ → _ → Prop) hK | (refine gI fun hg => ?_; try simp only [hC, reduceCtorEq] at hg; try simp only [hg])) | ((with_reducible refine E ?_; repeat refine Y ?_); refine eF rfl ?_) | simp (disch := omega) only [go_sem] | (with_reducible intro hg; try simp only [hC, reduceCtorEq] at hg) | exact Cl | fail)
      refine AW.imp (Imp.unfoldO2 (b0 := b3) (k := 0) (sz := 3) (l := (x.fTemplates.take k).map (encTemplate true)) (by simp (maxSteps := 2000000) (disch := omega) only [go_sem]; rfl) rfl (map_elem (fun _ => rfl) _) (fun b hb => ?_) (fun hnil => ?_))
      · have hb1 := hb.nf
        simp only [go_sem] at hb1
        simp only [List.set_cons_zero, List.set_cons_succ, List.length_map]
        (repeat' first | (with_reducible first | refine Z ?_ | refine Y ?_ | (refine hK _ _ ?_; clear hK K) | refine And.intro ?_ ?_ | exact Ct | intro (K : _ → _ → Prop) hK | (refine gI fun hg => ?_; try simp only [hC, reduceCtorEq] at hg; try simp only [hg])) | (refine AW.i rfl (fun h => ?_) (fun h => ?_) <;> try simp only [hC, reduceCtorEq] at h) | ((with_reducible refine E ?_; repeat refine Y ?_); refine eF rfl ?_) | simp (disch := omega) only [go_sem] | (with_reducible intro hg; try simp only [hC, reduceCtorEq] at hg) | exact Cl | fail)
        · rw [flat_elem_len (sz := 3) (map_elem (fun _ => rfl) _), List.length_map]
        rename_i g
        refine Imp.foldA (b0 := b3) (k := 0) (b := g) (sz := 3) (cells0 := [.arr g 0 ((x.fTemplates.take k).length + 1) 3, .v (.slice none 0 0)]) (l := (x.fTemplates.take k).map (encTemplate true)) (encTemplate true (at_ x.fTemplates k)) gO (by rw [List.length_map]; rfl) (by simp (maxSteps := 2000000) (disch := omega) only [go_sem]; try rfl) (by omega) (map_elem (fun _ => rfl) _) rfl ?_
        simp only [List.set_cons_zero, List.set_cons_succ]
        exact ⟨trivial, _, [_], _, by omega, ⟨k + 1, rfl, rfl, rfl, by omega⟩, rfl, by rw [take_at' hkt, List.map_append]; simp (maxSteps := 2000000) (disch := omega) only [go_sem]; try rfl⟩
      · simp only [List.set_cons_zero, List.set_cons_succ, hnil]
        (repeat' first | (with_reducible first | refine Z ?_ | refine Y ?_ | (refine hK _ _ ?_; clear hK K) | refine And.intro ?_ ?_ | exact Ct | intro (K : _ → _ → Prop) hK | (refine gI fun hg => ?_; try simp only [hC, reduceCtorEq] at hg; try simp only [hg])) | (refine AW.i rfl (fun h => ?_) (fun h => ?_) <;> try simp only [hC, reduceCtorEq] at h) | ((with_reducible refine E ?_; repeat refine Y ?_); refine eF rfl ?_) | simp (disch := omega) only [go_sem] | (with_reducible intro hg; try simp only [hC, reduceCtorEq] at hg) | exact Cl | fail)
        have hk0 : k = 0 := by rw [List.map_eq_nil_iff] at hnil; rw [hnil] at hlt; exact hlt.symm
        subst hk0
        refine Imp.id ?_
        simp (maxSteps := 2000000) (disch := omega) only [go_sem]
        exact ⟨_, [_], _, by omega, ⟨1, rfl, rfl, rfl, by omega⟩, rfl, by rw [take_at' hkt]; simp (maxSteps := 2000000) (disch := omega) only [go_sem]; try rfl⟩
  · rw [show k = x.fTemplates.length by omega, List.take_length]
    (repeat' first | (with_reducible first | refine Z ?_ | refine Y ?_ | (refine hK _ _ ?_; clear hK K) | refine And.intro ?_ ?_ | exact Ct | intro (K : _ → _ → Prop) hK | (refine gI fun hg => ?_; try simp only [hC, reduceCtorEq] at hg; try simp only [hg])) | (refine AW.i rfl (fun h => ?_) (fun h => ?_) <;> try simp only [hC, reduceCtorEq] at h) | ((with_reducible refine E ?_; repeat refine Y ?_); refine eF rfl ?_) | simp (disch := omega) only [go_sem] | (with_reducible intro hg; try simp only [hC, reduceCtorEq] at hg) | exact Cl | fail)
    refine AW.imp (Imp.nilOT (b := b3) 4 [_] [] (O_eq _ _ _) ?_)
    simp (maxSteps := 2000000) (disch := omega) only [go_sem]
    refine AW.loopW [8] [1, 2, 3] (fun m xs o => ∃ k : Nat, xs = [.v (.int .i64 k)] ∧ o = [(b3, some [.sl true 3 (x.fTemplates.map (encTemplate true)), .sl true 4 ((x.fServices.take k).map (encService true))]), (b2, some [.v (.slice none 0 0), .v (.slice none 0 0)])] ∧ m = x.fServices.length - k ∧ k ≤ x.fServices.length) x.fServices.length [(b3, some [.sl true 3 (x.fTemplates.map (encTemplate true)), .sl true 4 ((x.fServices.take 0).map (encService true))]), (b2, some [.v (.slice none 0 0), .v (.slice none 0 0)])] gO ⟨0, rfl, rfl, rfl, by omega⟩ ?_
    rintro m xs o ⟨k, rfl, rfl, rfl, hk⟩
    have hlt : (x.fServices.take k).length = k := by rw [List.length_take]; omega
    (repeat' first | (with_reducible first | refine Z ?_ | refine Y ?_ | (refine hK _ _ ?_; clear hK K) | refine And.intro ?_ ?_ | exact Ct | intro (K : _ → _ → Prop) hK | (refine gI fun hg => ?_; try simp only [hC, reduceCtorEq] at hg; try simp only [hg])) | ((with_reducible refine E ?_; repeat refine Y ?_); refine eF rfl ?_) | simp (disch := omega) only [go_sem] | (with_reducible intro hg; try simp only [hC, reduceCtorEq] at hg) | exact Cl | fail)
    (refine AW.i rfl (fun h => ?_) (fun h => ?_) <;> try simp only [hC, reduceCtorEq] at h)
    · refine AW.factE 62 rfl (x := encService false (at_ x.fServices k)) (List.mem_map_of_mem (at_mem h)) fun hfe => ?_
      simp (disch := omega) only [go_sem] at hfe
      have hkt := h
      refine AW.imp (Imp.unfoldO2 (b0 := b3) (k := 1) (sz := 4) (l := (x.fServices.take k).map (encService true)) (by simp (maxSteps := 2000000) (disch := omega) only [go_sem]; rfl) rfl (map_elem (fun _ => rfl) _) (fun b hb => ?_) (fun hnil => ?_))
      · have hb1 := hb.nf
        simp only [go_sem] at hb1
        simp only [List.set_cons_zero, List.set_cons_succ, List.length_map]
        (repeat' first | (with_reducible first | refine Z ?_ | refine Y ?_ | (refine hK _ _ ?_; clear hK K) | refine And.intro ?_ ?_ | exact Ct | intro (K : _ → _ → Prop) hK | (refine gI fun hg => ?_; try simp only [hC, reduceCtorEq] at hg; try simp only [hg])) | (refine AW.i rfl (fun h => ?_) (fun h => ?_) <;> try simp only [hC, reduceCtorEq] at h) | ((with_reducible refine E ?_; repeat refine Y ?_); refine eF rfl ?_) | simp (disch := omega) only [go_sem] | (with_reducible intro hg; try simp only [hC, reduceCtorEq] at hg) | exact Cl | fail)
        · rw [flat_elem_len (sz := 4) (map_elem (fun _ => rfl) _), List.length_map]
        rename_i g
        refine Imp.foldA (b0 := b3) (k := 1) (b := g) (sz := 4) (cells0 := [.sl true 3 (x.fTemplates.map (encTemplate true)), .arr g 0 ((x.fServices.take k).length + 1) 4]) (l := (x.fServices.take k).map (encService true)) (encService true (at_ x.fServices k)) gO (by rw [List.length_map]; rfl) (by simp (maxSteps := 2000000) (disch := omega) only [go_sem]; try rfl) (by omega) (map_elem (fun _ => rfl) _) rfl ?_
        simp only [List.set_cons_zero, List.set_cons_succ]
        exact ⟨trivial, _, [_], _, by omega, ⟨k + 1, rfl, rfl, rfl, by omega⟩, rfl, by rw [take_at' hkt, List.map_append]; simp (maxSteps := 2000000) (disch := omega) only [go_sem]; try rfl⟩
      · simp only [List.set_cons_zero, List.set_cons_succ, hnil]
        (repeat' first | (with_reducible first | refine Z ?_ | refine Y ?_ | (refine hK _ _ ?_; clear hK K) | refine And.intro ?_ ?_ | exact Ct | intro (K : _ → _ → Prop) hK | (refine gI fun hg => ?_; try simp only [hC, reduceCtorEq] at hg; try simp only [hg])) | (refine AW.i rfl (fun h => ?_) (fun h => ?_) <;> try simp only [hC, reduceCtorEq] at h) | ((with_reducible refine E ?_; repeat refine Y ?_); refine eF rfl ?_) | simp (disch := omega) only [go_sem] | (with_reducible intro hg; try simp only [hC, reduceCtorEq] at hg) | exact Cl | fail)
        have hk0 : k = 0 := by rw [List.map_eq_nil_iff] at hnil; rw [hnil] at hlt; exact hlt.symm
        subst hk0
        refine Imp.id ?_
        simp (maxSteps := 2000000) (disch := omega) only [go_sem]
        exact ⟨_, [_], _, by omega, ⟨1, rfl, rfl, rfl, by omega⟩, rfl, by rw [take_at' hkt]; simp (maxSteps := 2000000) (disch := omega) only [go_sem]; try rfl⟩
    · rw [show k = x.fServices.length by omega, List.take_length]
      all_goals exact uU
end Go.Proofs.YtkdchlggdcmkbaaGreat
