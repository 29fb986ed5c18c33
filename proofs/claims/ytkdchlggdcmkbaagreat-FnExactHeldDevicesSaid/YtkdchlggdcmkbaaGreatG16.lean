/-
  Part of a proof: Hd1.
-/
import Derived.Test.YtkdchlggdcmkbaaGreatG8
import Derived.Test.YtkdchlggdcmkbaaGreatG15
set_option linter.unusedSimpArgs false
set_option linter.unusedVariables false
namespace Go.Proofs.YtkdchlggdcmkbaaGreat
open Go.Ab Go.Dt
set_option maxRecDepth 20000
set_option maxHeartbeats 4000000
instance iHeld_i (x : GManager) : Ctr lim Tryz.prog 22 [] [.agg [.sl false 3 (x.fPlan.fTemplates.map (encTemplate false)), .sl false 4 (x.fPlan.fServices.map (encService false)), .sl false 15 (x.fDevices.map (encDevice false)), .v (.int .i64 x.fCampaign.fState), .sl false 3 (x.fCampaign.fTasks.map (encTask false)), .v (.int .i64 x.fLast.fState), .sl false 3 (x.fLast.fTasks.map (encTask false)), .v (.int .i64 x.fNow)]] (.sl true 1 ((hld x.fDevices).map AV.str)) [] True := by
  refine Ctr.of_body en22 Tryz.func22 rfl rfl fun hp => (?_); rw [Tryz.ntmps22]
  refine AW.fact 0 fun hf => ?_
  simp (disch := omega) only [go_sem] at hf
  (repeat' (first | (with_reducible first | refine Z ?_ | refine Y ?_ | (refine hK _ _ ?_; clear hK K) | exact trivial | refine And.intro ?_ ?_) | (refine AW.i rfl (fun h => ?_) (fun h => ?_) <;> try simp only [hC, reduceCtorEq] at h) | with_reducible rfl | ((with_reducible refine E ?_); (with_reducible repeat refine Y ?_); refine eF rfl ?_) | (with_reducible refine fun (K : _ → _ → Prop) hK => ?_) | (with_reducible show drawOK _ _ = true; kernel_rfl) | (with_reducible refine gI fun hg => ?_; try simp only [hC, reduceCtorEq] at hg; try simp only [hg]) | simp (maxSteps := 2000000) (disch := omega) only [go_sem] | (with_reducible intro hg; try simp only [hC, reduceCtorEq] at hg) | (with_reducible show List.Nodup _; decide) | (with_reducible show (_ : Bool) = false; first | rfl | (simp [*]; done)) | with_reducible exact at8_le _ _ | with_reducible exact at8_ge _ _ | (simp only [hC, reduceCtorEq]; omega) | omega | with_reducible assumption | (with_reducible show (_ : Bool) = true; first | (simp [*]; done) | (simp only [hC, reduceCtorEq]; (repeat' (first | assumption | apply And.intro)); done))))
  refine AW.loopV [3, 10] [8, 9] (fun m xs o => ∃ k : Nat, xs = [.sl true 1 ((hld (x.fDevices.take k)).map AV.str), .v (.int .i64 k)] ∧ o = [] ∧ m = x.fDevices.length - k ∧ k ≤ x.fDevices.length) x.fDevices.length [] trivial ⟨0, ?_, rfl, rfl, ?_⟩ ?_
  · rfl
  · omega
  rintro m xs o ⟨k, rfl, rfl, rfl, hk⟩
  have hl := hld_len (x.fDevices.take k)
  rw [List.length_take] at hl
  (repeat' (first | (with_reducible first | refine Z ?_ | refine Y ?_ | (refine hK _ _ ?_; clear hK K) | exact trivial | refine And.intro ?_ ?_) | (refine AW.i rfl (fun h => ?_) (fun h => ?_) <;> try simp only [hC, reduceCtorEq] at h) | with_reducible rfl | ((with_reducible refine E ?_); (with_reducible repeat refine Y ?_); refine eF rfl ?_) | (with_reducible refine fun (K : _ → _ → Prop) hK => ?_) | (with_reducible show drawOK _ _ = true; kernel_rfl) | (with_reducible refine gI fun hg => ?_; try simp only [hC, reduceCtorEq] at hg; try simp only [hg]) | simp (maxSteps := 2000000) (disch := omega) only [go_sem] | (with_reducible intro hg; try simp only [hC, reduceCtorEq] at hg) | (with_reducible show List.Nodup _; decide) | (with_reducible show (_ : Bool) = false; first | rfl | (simp [*]; done)) | with_reducible exact at8_le _ _ | with_reducible exact at8_ge _ _ | (simp only [hC, reduceCtorEq]; omega) | omega | with_reducible assumption | (with_reducible show (_ : Bool) = true; first | (simp [*]; done) | (simp only [hC, reduceCtorEq]; (repeat' (first | assumption | apply And.intro)); done))))
  · exact ⟨_, [_, _], [], by omega, ⟨k + 1, by rw [hld_yes (by assumption) h, List.map_append]; rfl, rfl, rfl, by omega⟩, rfl, trivial⟩
  · exact ⟨_, [_, _], [], by omega, ⟨k + 1, by rw [hld_no (by assumption) h], rfl, rfl, by omega⟩, rfl, trivial⟩
  · rw [show k = x.fDevices.length by omega, List.take_length]
instance sHeld_i (x : GManager) : Ctr lim Tryz.prog 20 [] [.agg [.sl false 3 (x.fPlan.fTemplates.map (encTemplate false)), .sl false 4 (x.fPlan.fServices.map (encService false)), .sl false 15 (x.fDevices.map (encDevice false)), .v (.int .i64 x.fCampaign.fState), .sl false 3 (x.fCampaign.fTasks.map (encTask false)), .v (.int .i64 x.fLast.fState), .sl false 3 (x.fLast.fTasks.map (encTask false)), .v (.int .i64 x.fNow)]] (.sl true 1 ((hld x.fDevices).map AV.str)) [] True := by
  refine Ctr.of_body en20 Tryz.func20 rfl rfl fun hp => (?_); rw [Tryz.ntmps20]
  refine AW.fact 0 fun hf => ?_
  simp (disch := omega) only [go_sem] at hf
  (repeat' (first | (with_reducible first | refine Z ?_ | refine Y ?_ | (refine hK _ _ ?_; clear hK K) | exact trivial | refine And.intro ?_ ?_) | (refine AW.i rfl (fun h => ?_) (fun h => ?_) <;> try simp only [hC, reduceCtorEq] at h) | with_reducible rfl | ((with_reducible refine E ?_); (with_reducible repeat refine Y ?_); refine eF rfl ?_) | (with_reducible refine fun (K : _ → _ → Prop) hK => ?_) | (with_reducible show drawOK _ _ = true; kernel_rfl) | (with_reducible refine gI fun hg => ?_; try simp only [hC, reduceCtorEq] at hg; try simp only [hg]) | simp (maxSteps := 2000000) (disch := omega) only [go_sem] | (with_reducible intro hg; try simp only [hC, reduceCtorEq] at hg) | (with_reducible show List.Nodup _; decide) | (with_reducible show (_ : Bool) = false; first | rfl | (simp [*]; done)) | with_reducible exact at8_le _ _ | with_reducible exact at8_ge _ _ | (simp only [hC, reduceCtorEq]; omega) | omega | with_reducible assumption | (with_reducible show (_ : Bool) = true; first | (simp [*]; done) | (simp only [hC, reduceCtorEq]; (repeat' (first | assumption | apply And.intro)); done))))
  refine AW.loopV [3, 4] [1] (fun m xs o => ∃ k : Nat, xs = [.sl true 1 ((hld (x.fDevices.take k)).map AV.str), .v (.int .i64 k)] ∧ o = [] ∧ m = x.fDevices.length - k ∧ k ≤ x.fDevices.length) x.fDevices.length [] trivial ⟨0, ?_, rfl, rfl, ?_⟩ ?_
  · rfl
  · omega
  rintro m xs o ⟨k, rfl, rfl, rfl, hk⟩
  have hl := hld_len (x.fDevices.take k)
  rw [List.length_take] at hl
  (repeat' (first | (with_reducible first | refine Z ?_ | refine Y ?_ | (refine hK _ _ ?_; clear hK K) | exact trivial | refine And.intro ?_ ?_) | (refine AW.i rfl (fun h => ?_) (fun h => ?_) <;> try simp only [hC, reduceCtorEq] at h) | with_reducible rfl | ((with_reducible refine E ?_); (with_reducible repeat refine Y ?_); refine eF rfl ?_) | (with_reducible refine fun (K : _ → _ → Prop) hK => ?_) | (with_reducible show drawOK _ _ = true; kernel_rfl) | (with_reducible refine gI fun hg => ?_; try simp only [hC, reduceCtorEq] at hg; try simp only [hg]) | simp (maxSteps := 2000000) (disch := omega) only [go_sem] | (with_reducible intro hg; try simp only [hC, reduceCtorEq] at hg) | (with_reducible show List.Nodup _; decide) | (with_reducible show (_ : Bool) = false; first | rfl | (simp [*]; done)) | with_reducible exact at8_le _ _ | with_reducible exact at8_ge _ _ | (simp only [hC, reduceCtorEq]; omega) | omega | with_reducible assumption | (with_reducible show (_ : Bool) = true; first | (simp [*]; done) | (simp only [hC, reduceCtorEq]; (repeat' (first | assumption | apply And.intro)); done))))
  · exact ⟨_, [_, _], [], by omega, ⟨k + 1, by rw [hld_yes (by assumption) h, List.map_append]; rfl, rfl, rfl, by omega⟩, rfl, trivial⟩
  · exact ⟨_, [_, _], [], by omega, ⟨k + 1, by rw [hld_no (by assumption) h], rfl, rfl, by omega⟩, rfl, trivial⟩
  · rw [show k = x.fDevices.length by omega, List.take_length]
end Go.Proofs.YtkdchlggdcmkbaaGreat
