/-
  FindDevice: reference and program, what each returns.
-/
import Derived.Test.YtkdchlggdcmkbaaFam2
import Derived.Test.YtkdchlggdcmkbaaIdx
set_option linter.unusedSimpArgs false
set_option linter.unusedVariables false
namespace Go.Proofs.Ytkdchlggdcmkbaa
open Go.Ab Go.Dt

theorem hlim : ∀ z, lim z ≤ 4611686018427387904 := by intro z; unfold lim; split <;> omega
theorem hraw : ∀ z, rawL z ≤ 4611686018427387904 := by intro z; unfold rawL; omega

theorem sFindDevice_c {L : Nat → Nat} (hL : ∀ z, L z ≤ 4611686018427387904) (l : List Dt.GDevice) (name : Str) : PureC L Try.prog 25 [.sl false 15 (l.map (encDevice false)), .str name] (.v (.int .i64 (idx (fun d => d.fName == name) l))) := by
  refine PureC.of_body Try.func25 rfl rfl ?_
  rw [Try.ntmps25]
  refine AW.len 0 rfl fun hlen => ?_
  have hlen' := Nat.le_trans hlen (hL 15)
  rw [List.length_map] at hlen'
  clear hlen
  refine AW.sreg [] fun K hK => ?_
  simp only [go_sem, Nat.reduceBEq, Nat.reduceAdd]
  refine hK _ _ (OpsW.nil ?_)
  refine AW.seq (AW.sreg [] fun K hK => ?_)
  simp only [go_sem, Nat.reduceBEq, Nat.reduceAdd]
  refine hK _ _ (OpsW.nil ?_)
  refine AW.block (AW.loopK [0, 1, 5] (fun m t => ∃ k : Nat, t = [(0, .sl false 15 (l.map (encDevice false))), (1, .str name), (5, .v (.int .i64 k))] ∧ m = l.length - k ∧ k ≤ l.length ∧ ∀ x ∈ l.take k, (x.fName == name) = false) l.length ⟨0, rfl, by simp, by simp, by simp⟩ ?_)
  rintro m t ⟨k, rfl, rfl, hk, hp⟩
  refine AW.seq (AW.sreg [] fun K hK => ?_)
  simp only [go_sem, Nat.reduceBEq, Nat.reduceAdd]
  refine hK _ _ (OpsW.nil ?_)
  refine AW.cond rfl (fun h => ?_) (fun h => ?_)
  · have hlt : k < l.length := by simpa using h
    clear h
    refine AW.skip (AW.seq (AW.block (AW.sreg [] fun K hK => ?_)))
    simp only [go_sem, Nat.reduceBEq, Nat.reduceAdd, hlt]
    refine hK _ _ (OpsW.nil ?_)
    refine AW.cond rfl (fun h => ?_) (fun h => ?_)
    · refine AW.sreg [] fun K hK => ?_
      simp only [go_sem, Nat.reduceBEq, Nat.reduceAdd]
      refine hK _ _ (OpsW.nil (AW.ret (Ends.one' rfl ?_)))
      rw [idx_at hlt hp (by simpa using h)]; rfl
    · refine AW.skip (AW.reg [] fun K hK => ?_)
      simp only [go_sem, Nat.reduceBEq, Nat.reduceAdd]
      refine hK _ _ (OpsW.nil ⟨rfl, l.length - (k + 1), by omega, k + 1, ?_, rfl, hlt, take_step (p := fun x : Dt.GDevice => x.fName == name) hlt hp (by simpa using h)⟩)
      simp only [go_sem, Nat.reduceBEq, Nat.reduceAdd]
      rw [wrap_i64 (by omega) (by omega)]; rfl
  · have hge : k = l.length := by have := h; simp at this; omega
    subst hge
    refine AW.exit ?_
    simp only [blockQ, thenQ, if_true]
    refine AW.sreg [] fun K hK => ?_
    simp only [go_sem, Nat.reduceBEq, Nat.reduceAdd]
    refine hK _ _ (OpsW.nil (AW.ret (Ends.one' rfl ?_)))
    rw [idx_none (by rw [List.take_of_length_le (Nat.le_refl _)] at hp; exact hp)]; rfl

theorem indexFuncDevice_c {L : Nat → Nat} (hL : ∀ z, L z ≤ 4611686018427387904) (l : List Dt.GDevice) (g : FuncId) (caps : List AV) (p : Dt.GDevice → Bool) (hen : enters Try.prog g = true) (hcap : AV.nownL caps = true)
    (hx : ∀ x, x ∈ l → PureC L Try.prog g (encDevice false x :: caps) (.v (.bool (p x)))) :
    PureC L Try.prog 60 [.sl false 15 (l.map (encDevice false)), .fn g caps] (.v (.int .i64 (idx p l))) := by
  refine PureC.of_body Try.func60 rfl rfl ?_
  rw [Try.ntmps60]
  refine AW.len 0 rfl fun hlen => ?_
  have hlen' := Nat.le_trans hlen (hL 15)
  rw [List.length_map] at hlen'
  clear hlen
  refine AW.sreg [] fun K hK => ?_
  simp only [go_sem, Nat.reduceBEq, Nat.reduceAdd, hcap]
  refine hK _ _ (OpsW.nil ?_)
  refine AW.seq (AW.sreg [] fun K hK => ?_)
  simp only [go_sem, Nat.reduceBEq, Nat.reduceAdd, hcap]
  refine hK _ _ (OpsW.nil ?_)
  refine AW.block (AW.loopK [0, 1, 7, 8] (fun m t => ∃ k : Nat, t = [(0, .sl false 15 (l.map (encDevice false))), (1, .fn g caps), (7, .v (.int .i64 l.length)), (8, .v (.int .i64 k))] ∧ m = l.length - k ∧ k ≤ l.length ∧ ∀ x ∈ l.take k, p x = false) l.length ⟨0, ?_, by simp, by simp, by simp⟩ ?_)
  · first | rfl | simp
  rintro m t ⟨k, rfl, rfl, hk, hp⟩
  refine AW.sreg [] fun K hK => ?_
  simp only [go_sem, Nat.reduceBEq, Nat.reduceAdd, hcap]
  refine hK _ _ (OpsW.nil ?_)
  refine AW.seq (AW.cond rfl (fun h => ?_) (fun h => ?_))
  · have hlt : k < l.length := by simpa using h
    clear h
    refine AW.skip (AW.seq (AW.block (AW.sreg [] fun K hK => ?_)))
    simp only [go_sem, Nat.reduceBEq, Nat.reduceAdd, hcap]
    refine hK _ _ (OpsW.nil ?_)
    refine AW.sreg [] fun K hK => ?_
    simp only [go_sem, Nat.reduceBEq, Nat.reduceAdd, hcap, hlt]
    refine ⟨_, CallOK.pure hen ?_ (by have := hx l[k] (List.getElem_mem hlt); simpa only [go_sem] using this), ?_⟩
    · simp only [AV.nownL, AV.nown, hcap, Bool.and_true, Bool.true_and]; rfl
    try simp only [go_sem, Nat.reduceBEq, Nat.reduceAdd, hcap]
    refine hK _ _ (OpsW.nil ?_)
    refine AW.cond rfl (fun h => ?_) (fun h => ?_)
    · refine AW.sreg [] fun K hK => ?_
      simp only [go_sem, Nat.reduceBEq, Nat.reduceAdd, hcap]
      refine hK _ _ (OpsW.nil (AW.ret (Ends.one' rfl ?_)))
      rw [idx_at hlt hp (by simpa using h)]; rfl
    · refine AW.skip (AW.reg [] fun K hK => ?_)
      simp only [go_sem, Nat.reduceBEq, Nat.reduceAdd, hcap]
      refine hK _ _ (OpsW.nil ⟨rfl, l.length - (k + 1), by omega, k + 1, ?_, rfl, hlt, take_step hlt hp (by simpa using h)⟩)
      simp only [go_sem, Nat.reduceBEq, Nat.reduceAdd, hcap]
      rw [wrap_i64 (by omega) (by omega)]; rfl
  · have hge : k = l.length := by have := h; simp at this; omega
    subst hge
    refine AW.exit ?_
    simp only [blockQ, thenQ, if_true]
    refine AW.sreg [] fun K hK => ?_
    simp only [go_sem, Nat.reduceBEq, Nat.reduceAdd, hcap]
    refine hK _ _ (OpsW.nil (AW.ret (Ends.one' rfl ?_)))
    rw [idx_none (by rw [List.take_of_length_le (Nat.le_refl _)] at hp; exact hp)]; rfl

theorem iFindDevice1_c {L : Nat → Nat} (d : Dt.GDevice) (name : Str) : PureC L Try.prog 61 [encDevice false d, .vp [.str name]] (.v (.bool (d.fName == name))) := by
  refine PureC.of_body Try.func61 rfl rfl ?_
  rw [Try.ntmps61]
  refine AW.sreg [] fun K hK => ?_
  simp only [go_sem, Nat.reduceBEq, Nat.reduceAdd]
  refine hK _ _ (OpsW.nil ?_)
  refine AW.sreg [] fun K hK => ?_
  simp only [go_sem, Nat.reduceBEq, Nat.reduceAdd]
  refine hK _ _ (OpsW.nil (AW.ret (Ends.one' rfl ?_)))
  first | rfl | (simp; done) | skip

theorem iFindDevice_c {L : Nat → Nat} (hL : ∀ z, L z ≤ 4611686018427387904) (l : List Dt.GDevice) (name : Str) : PureC L Try.prog 27 [.sl false 15 (l.map (encDevice false)), .str name] (.v (.int .i64 (idx (fun d => d.fName == name) l))) := by
  refine PureC.of_body Try.func27 rfl rfl ?_
  rw [Try.ntmps27]
  refine AW.sreg [] fun K hK => ?_
  simp only [go_sem, Nat.reduceBEq, Nat.reduceAdd]
  refine hK _ _ (OpsW.nil ?_)
  refine AW.sreg [] fun K hK => ?_
  simp only [go_sem, Nat.reduceBEq, Nat.reduceAdd]
  refine ⟨_, CallOK.pure en60 rfl (indexFuncDevice_c hL l 61 _ _ en61 rfl fun x _ => iFindDevice1_c x name), ?_⟩
  try simp only [go_sem, Nat.reduceBEq, Nat.reduceAdd]
  exact hK _ _ (OpsW.nil (AW.ret (Ends.one' rfl rfl)))
end Go.Proofs.Ytkdchlggdcmkbaa
