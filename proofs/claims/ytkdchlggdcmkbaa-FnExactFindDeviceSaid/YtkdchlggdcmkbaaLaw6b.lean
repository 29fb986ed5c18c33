/-
  FnExactFindDevice at both sides of its size tests, as a contract.
-/
import Derived.Test.YtkdchlggdcmkbaaLaw6
set_option linter.unusedSimpArgs false
set_option linter.unusedVariables false
namespace Go.Proofs.Ytkdchlggdcmkbaa
open Go.Ab Go.Dt

theorem lawFindDevice_A0 (l : List Dt.GDevice) (name : Str) (h : 1048576 < name.length) : PureC rawL Try.prog 6 [.sl false 15 (l.map (encDevice false)), .str name] (.v (.bool true)) := by
  refine PureC.of_body Try.func6 rfl rfl ?_
  rw [Try.ntmps6]
  refine AW.sreg [] fun K hK => ?_
  try simp only [go_sem, Nat.reduceBEq, Nat.reduceAdd]
  refine hK _ _ (OpsW.nil ?_)
  refine AW.seq (AW.sreg [] fun K hK => ?_)
  try simp only [go_sem, Nat.reduceBEq, Nat.reduceAdd]
  refine hK _ _ (OpsW.nil ?_)
  refine AW.cond rfl (fun _ => ?_) (fun h' => absurd h' (by simp; omega))
  refine AW.sreg [] fun K hK => ?_
  try simp only [go_sem, Nat.reduceBEq, Nat.reduceAdd]
  exact hK _ _ (OpsW.nil (AW.ret (Ends.one' rfl rfl)))

theorem lawFindDevice_A (l : List Dt.GDevice) (name : Str) (hn : ¬ 1048576 < name.length) (h : szSl szDevice l 1048576 < 0) : PureC rawL Try.prog 6 [.sl false 15 (l.map (encDevice false)), .str name] (.v (.bool true)) := by
  refine PureC.of_body Try.func6 rfl rfl ?_
  rw [Try.ntmps6]
  refine AW.sreg [] fun K hK => ?_
  try simp only [go_sem, Nat.reduceBEq, Nat.reduceAdd]
  refine hK _ _ (OpsW.nil ?_)
  refine AW.seq (AW.sreg [] fun K hK => ?_)
  try simp only [go_sem, Nat.reduceBEq, Nat.reduceAdd]
  refine hK _ _ (OpsW.nil ?_)
  refine AW.cond rfl (fun h' => absurd h' (by simp; omega)) (fun _ => AW.skip ?_)
  refine AW.sreg [] fun K hK => ?_
  try simp only [go_sem, Nat.reduceBEq, Nat.reduceAdd]
  refine hK _ _ (OpsW.nil ?_)
  refine AW.sreg [] fun K hK => ?_
  try simp only [go_sem, Nat.reduceBEq, Nat.reduceAdd]
  refine ⟨_, CallOK.pure en24 rfl (szDeviceS_a hraw l 1048576 (by omega) (by omega)), ?_⟩
  try simp only [go_sem, Nat.reduceBEq, Nat.reduceAdd]
  refine hK _ _ (OpsW.nil ?_)
  refine AW.seq (AW.sreg [] fun K hK => ?_)
  try simp only [go_sem, Nat.reduceBEq, Nat.reduceAdd]
  refine hK _ _ (OpsW.nil ?_)
  refine AW.cond rfl (fun _ => ?_) (fun h' => absurd h' (by simp [h]))
  refine AW.sreg [] fun K hK => ?_
  try simp only [go_sem, Nat.reduceBEq, Nat.reduceAdd]
  exact hK _ _ (OpsW.nil (AW.ret (Ends.one' rfl rfl)))

theorem lawFindDevice_B (l : List Dt.GDevice) (name : Str) (hn : ¬ 1048576 < name.length) (h : ¬ szSl szDevice l 1048576 < 0) : PureC lim Try.prog 6 [.sl false 15 (l.map (encDevice false)), .str name] (.v (.bool true)) := by
  refine PureC.of_body Try.func6 rfl rfl ?_
  rw [Try.ntmps6]
  refine AW.sreg [] fun K hK => ?_
  try simp only [go_sem, Nat.reduceBEq, Nat.reduceAdd]
  refine hK _ _ (OpsW.nil ?_)
  refine AW.seq (AW.sreg [] fun K hK => ?_)
  try simp only [go_sem, Nat.reduceBEq, Nat.reduceAdd]
  refine hK _ _ (OpsW.nil ?_)
  refine AW.cond rfl (fun h' => absurd h' (by simp; omega)) (fun _ => AW.skip ?_)
  refine AW.sreg [] fun K hK => ?_
  try simp only [go_sem, Nat.reduceBEq, Nat.reduceAdd]
  refine hK _ _ (OpsW.nil ?_)
  refine AW.sreg [] fun K hK => ?_
  try simp only [go_sem, Nat.reduceBEq, Nat.reduceAdd]
  refine ⟨_, CallOK.pure en24 rfl (szDeviceS_a hlim l 1048576 (by omega) (by omega)), ?_⟩
  try simp only [go_sem, Nat.reduceBEq, Nat.reduceAdd]
  refine hK _ _ (OpsW.nil ?_)
  refine AW.seq (AW.sreg [] fun K hK => ?_)
  try simp only [go_sem, Nat.reduceBEq, Nat.reduceAdd]
  refine hK _ _ (OpsW.nil ?_)
  refine AW.cond rfl (fun h' => absurd h' (by simp [h])) (fun _ => AW.skip ?_)
  refine AW.sreg [] fun K hK => ?_
  try simp only [go_sem, Nat.reduceBEq, Nat.reduceAdd]
  refine ⟨_, CallOK.pure en26 rfl (toDeviceS_v l), ?_⟩
  try simp only [go_sem, Nat.reduceBEq, Nat.reduceAdd]
  refine ⟨_, CallOK.pure en25 rfl (sFindDevice_c hlim l name), ?_⟩
  try simp only [go_sem, Nat.reduceBEq, Nat.reduceAdd]
  refine hK _ _ (OpsW.nil ?_)
  refine AW.sreg [] fun K hK => ?_
  try simp only [go_sem, Nat.reduceBEq, Nat.reduceAdd]
  refine ⟨_, CallOK.pure en26 rfl (toDeviceS_v l), ?_⟩
  try simp only [go_sem, Nat.reduceBEq, Nat.reduceAdd]
  refine hK _ _ (OpsW.nil ?_)
  refine AW.sreg [] fun K hK => ?_
  try simp only [go_sem, Nat.reduceBEq, Nat.reduceAdd]
  refine ⟨_, CallOK.pure en27 rfl (iFindDevice_c hlim l name), ?_⟩
  try simp only [go_sem, Nat.reduceBEq, Nat.reduceAdd]
  refine hK _ _ (OpsW.nil ?_)
  refine AW.seq (AW.sreg [] fun K hK => ?_)
  try simp only [go_sem, Nat.reduceBEq, Nat.reduceAdd]
  refine hK _ _ (OpsW.nil ?_)
  refine AW.cond rfl (fun h' => absurd h' (by simp)) (fun _ => AW.skip ?_)
  refine AW.seq (AW.sreg [] fun K hK => ?_)
  try simp only [go_sem, Nat.reduceBEq, Nat.reduceAdd]
  refine ⟨_, CallOK.pure en26 rfl (toDeviceS_v l), ?_⟩
  try simp only [go_sem, Nat.reduceBEq, Nat.reduceAdd]
  refine ⟨_, CallOK.pure en28 rfl (eqDeviceS_a hlim l), ?_⟩
  try simp only [go_sem, Nat.reduceBEq, Nat.reduceAdd]
  refine hK _ _ (OpsW.nil ?_)
  refine AW.cond rfl (fun h' => absurd h' (by simp)) (fun _ => AW.skip ?_)
  refine AW.sreg [] fun K hK => ?_
  try simp only [go_sem, Nat.reduceBEq, Nat.reduceAdd]
  exact hK _ _ (OpsW.nil (AW.ret (Ends.one' rfl rfl)))
end Go.Proofs.Ytkdchlggdcmkbaa
