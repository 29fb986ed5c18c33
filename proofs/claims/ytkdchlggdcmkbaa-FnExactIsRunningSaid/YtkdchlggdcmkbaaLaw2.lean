/-
  FnExactIsRunning, at both sides of its size test, as a contract.
-/
import Derived.Test.YtkdchlggdcmkbaaFam1
set_option linter.unusedSimpArgs false
set_option linter.unusedVariables false
namespace Go.Proofs.Ytkdchlggdcmkbaa
open Go.Ab Go.Dt

theorem hlim : ∀ z, lim z ≤ 4611686018427387904 := by intro z; unfold lim; split <;> omega
theorem hraw : ∀ z, rawL z ≤ 4611686018427387904 := by intro z; unfold rawL; omega

theorem eqCampaign_a {L : Nat → Nat} (hL : ∀ z, L z ≤ 4611686018427387904) (c : Dt.Campaign) : PureC L Try.prog 18 [encCampaign false c, encCampaign false c] (.v (.bool true)) :=
  eqCampaign_c c (eqTaskS_c hL c.tasks fun t _ => eqTask_c t (eqNodeS_a hL t.tree))
theorem szCampaign_a {L : Nat → Nat} (hL : ∀ z, L z ≤ 4611686018427387904) (c : Dt.Campaign) (left : Int) (h0 : 0 ≤ left) (h1 : left ≤ 1048576) : PureC L Try.prog 14 [encCampaign false c, .v (.int .i64 left)] (.v (.int .i64 (szCampaign c left))) :=
  szCampaign_c c (szTaskS_c hL c.tasks fun t _ r r0 r1 => szTask_c t (szNodeS_a hL t.tree) r r0 r1) left h0 h1
theorem toCampaign_a (c : Dt.Campaign) : PureC lim Try.prog 16 [encCampaign false c] (encCampaign true c) :=
  toCampaign_c c (toTaskS_c c.tasks fun t _ => toTask_c t (toNodeS_a t.tree))
theorem toCampaign_v (c : Dt.Campaign) : PureC lim Try.prog 16 [encCampaign false c] (encCampaign false c) := by
  have := (toCampaign_a c).frz
  rwa [encCampaign_frz] at this

theorem l1In_c (L : Nat → Nat) (x a b : Int) : PureC L Try.prog 47 [.v (.int .i64 x), .v (.int .i64 a), .v (.int .i64 b)] (.v (.bool (decide (a ≤ x) && decide (x ≤ b)))) := by
  refine PureC.of_body Try.func47 rfl rfl ?_
  rw [Try.ntmps47]
  refine AW.sreg [] fun K hK => ?_
  simp only [go_sem, Nat.reduceBEq, Nat.reduceAdd]
  refine hK _ _ (OpsW.nil ?_)
  refine AW.sreg [] fun K hK => ?_
  simp only [go_sem, Nat.reduceBEq, Nat.reduceAdd]
  refine hK _ _ (OpsW.nil ?_)
  exact AW.ret (Ends.one' rfl rfl)

theorem sIsRunning_c (L : Nat → Nat) (c : Dt.Campaign) : PureC L Try.prog 15 [encCampaign false c] (.v (.bool (decide (1 ≤ c.state) && decide (c.state ≤ 4)))) := by
  refine PureC.of_body Try.func15 rfl rfl ?_
  rw [Try.ntmps15]
  refine AW.sreg [] fun K hK => ?_
  simp only [go_sem, Nat.reduceBEq, Nat.reduceAdd]
  refine hK _ _ (OpsW.nil ?_)
  refine AW.sreg [] fun K hK => ?_
  simp only [go_sem, Nat.reduceBEq, Nat.reduceAdd]
  refine ⟨_, CallOK.pure en47 rfl (l1In_c L _ _ _), ?_⟩
  refine hK _ _ (OpsW.nil ?_)
  exact AW.ret (Ends.one' rfl rfl)

theorem iIsRunning_c (L : Nat → Nat) (c : Dt.Campaign) : PureC L Try.prog 17 [encCampaign false c] (.v (.bool (decide (1 ≤ c.state) && decide (c.state ≤ 4)))) := by
  refine PureC.of_body Try.func17 rfl rfl ?_
  rw [Try.ntmps17]
  refine AW.sreg [] fun K hK => ?_
  simp only [go_sem, Nat.reduceBEq, Nat.reduceAdd]
  refine hK _ _ (OpsW.nil ?_)
  refine AW.sreg [] fun K hK => ?_
  simp only [go_sem, Nat.reduceBEq, Nat.reduceAdd]
  refine hK _ _ (OpsW.nil ?_)
  exact AW.ret (Ends.one' rfl rfl)

theorem lawIsRunning_A (c : Dt.Campaign) (h : szCampaign c 1048576 < 0) : PureC rawL Try.prog 4 [encCampaign false c] (.v (.bool true)) := by
  refine PureC.of_body Try.func4 rfl rfl ?_
  rw [Try.ntmps4]
  refine AW.sreg [] fun K hK => ?_
  simp only [go_sem, Nat.reduceBEq, Nat.reduceAdd]
  refine hK _ _ (OpsW.nil ?_)
  refine AW.sreg [] fun K hK => ?_
  simp only [go_sem, Nat.reduceBEq, Nat.reduceAdd]
  refine hK _ _ (OpsW.nil ?_)
  refine AW.sreg [] fun K hK => ?_
  simp only [go_sem, Nat.reduceBEq, Nat.reduceAdd]
  refine ⟨_, CallOK.pure en14 rfl (szCampaign_a hraw c 1048576 (by omega) (by omega)), ?_⟩
  try simp only [go_sem, Nat.reduceBEq, Nat.reduceAdd]
  refine hK _ _ (OpsW.nil ?_)
  refine AW.seq (AW.sreg [] fun K hK => ?_)
  simp only [go_sem, Nat.reduceBEq, Nat.reduceAdd]
  refine hK _ _ (OpsW.nil ?_)
  refine AW.cond rfl (fun _ => ?_) (fun h' => absurd h' (by simp [h]))
  refine AW.sreg [] fun K hK => ?_
  simp only [go_sem, Nat.reduceBEq, Nat.reduceAdd]
  exact hK _ _ (OpsW.nil (AW.ret (Ends.one' rfl rfl)))

theorem lawIsRunning_B (c : Dt.Campaign) (h : ¬ szCampaign c 1048576 < 0) : PureC lim Try.prog 4 [encCampaign false c] (.v (.bool true)) := by
  refine PureC.of_body Try.func4 rfl rfl ?_
  rw [Try.ntmps4]
  refine AW.sreg [] fun K hK => ?_
  simp only [go_sem, Nat.reduceBEq, Nat.reduceAdd]
  refine hK _ _ (OpsW.nil ?_)
  refine AW.sreg [] fun K hK => ?_
  simp only [go_sem, Nat.reduceBEq, Nat.reduceAdd]
  refine hK _ _ (OpsW.nil ?_)
  refine AW.sreg [] fun K hK => ?_
  simp only [go_sem, Nat.reduceBEq, Nat.reduceAdd]
  refine ⟨_, CallOK.pure en14 rfl (szCampaign_a hlim c 1048576 (by omega) (by omega)), ?_⟩
  try simp only [go_sem, Nat.reduceBEq, Nat.reduceAdd]
  refine hK _ _ (OpsW.nil ?_)
  refine AW.seq (AW.sreg [] fun K hK => ?_)
  simp only [go_sem, Nat.reduceBEq, Nat.reduceAdd]
  refine hK _ _ (OpsW.nil ?_)
  refine AW.cond rfl (fun h' => absurd h' (by simp [h])) (fun _ => AW.skip ?_)
  refine AW.sreg [] fun K hK => ?_
  simp only [go_sem, Nat.reduceBEq, Nat.reduceAdd]
  refine ⟨_, CallOK.pure en16 rfl (toCampaign_v c), ?_⟩
  simp only [go_sem, Nat.reduceBEq, Nat.reduceAdd]
  refine ⟨_, CallOK.pure en15 rfl (sIsRunning_c lim c), ?_⟩
  try simp only [go_sem, Nat.reduceBEq, Nat.reduceAdd]
  refine hK _ _ (OpsW.nil ?_)
  refine AW.sreg [] fun K hK => ?_
  simp only [go_sem, Nat.reduceBEq, Nat.reduceAdd]
  refine ⟨_, CallOK.pure en16 rfl (toCampaign_v c), ?_⟩
  try simp only [go_sem, Nat.reduceBEq, Nat.reduceAdd]
  refine hK _ _ (OpsW.alloc rfl rfl rfl rfl zer_35 fun K hK b hb => ?_)
  simp only [go_sem, Nat.reduceBEq, Nat.reduceAdd]
  refine hK _ _ (OpsW.store rfl rfl rfl rfl rfl (by simp only [O, if_true]; rfl) ty_35 rfl (by rfl) (by rfl) (by simp) fun K hK => ?_)
  simp only [go_sem, Nat.reduceBEq, Nat.reduceAdd]
  refine hK _ _ (OpsW.nil ?_)
  refine AW.sreg [] fun K hK => ?_
  simp only [go_sem, Nat.reduceBEq, Nat.reduceAdd]
  refine ⟨_, CallOK.pure en17 rfl (iIsRunning_c lim c), ?_⟩
  try simp only [go_sem, Nat.reduceBEq, Nat.reduceAdd]
  refine hK _ _ (OpsW.nil ?_)
  refine AW.seq (AW.sreg [] fun K hK => ?_)
  simp only [go_sem, Nat.reduceBEq, Nat.reduceAdd]
  refine hK _ _ (OpsW.nil ?_)
  refine AW.cond rfl (fun h' => absurd h' (by simp)) (fun _ => AW.skip ?_)
  refine AW.seq (AW.sdrw [] fun K hK => ?_)
  simp only [go_sem, Nat.reduceBEq, Nat.reduceAdd]
  refine ⟨_, CallOK.pure en16 rfl (toCampaign_v c), ?_⟩
  simp only [go_sem, Nat.reduceBEq, Nat.reduceAdd]
  refine ⟨_, CallOK.pure en18 rfl (eqCampaign_a hlim c), ?_⟩
  simp only [go_sem, Nat.reduceBEq, Nat.reduceAdd]
  refine hK _ _ ?_ ?_
  · kernel_rfl
  refine OpsW.nil ?_
  refine AW.cond rfl (fun h' => absurd h' (by simp)) (fun _ => AW.skip ?_)
  refine AW.sreg [] fun K hK => ?_
  simp only [go_sem, Nat.reduceBEq, Nat.reduceAdd]
  exact hK _ _ (OpsW.nil (AW.ret (Ends.one' rfl rfl)))
end Go.Proofs.Ytkdchlggdcmkbaa
