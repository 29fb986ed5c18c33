/-
  Part of a proof: Dw1.
-/
import Derived.Test.YtfglembdjbhanaaGreatDoorG7
import Derived.Test.YtfglembdjbhanaaGreatDoorG8
import Derived.Test.YtfglembdjbhanaaGreatDoorG9
set_option linter.unusedSimpArgs false
set_option linter.unusedVariables false
namespace Go.Proofs.YtfglembdjbhanaaGreatDoor
open Go.Ab Go.Dt
set_option maxRecDepth 20000
set_option maxHeartbeats 2000000
instance l1New_i (s : Str) : NCtr lim Tryz.prog 26 [.sl false 1 (bytesA s)] (newQ s) True := by
  refine NCtr.of_body en26 Tryz.func26 rfl rfl fun hp => ?_
  rw [Tryz.ntmps26]
  refine AW.fact 0 fun hf => ?_
  simp (disch := omega) only [go_sem, Nat.reduceBEq] at hf
  (refine vU ?_; with_reducible repeat' first | exact Le.l | refine Sw ?_ ?_ | intro (K : _ → _ → Prop) hK | intro h)
  refine AW.loopV [3, 4] [0] (fun m xs o => ∃ (k : Nat) (h : Int), xs = [.v (.int .i64 h), .v (.int .i64 k)] ∧ o = [] ∧ m = s.length - k ∧ k ≤ s.length) s.length [] trivial ⟨0, _, rfl, rfl, ?_, ?_⟩ ?_
  · omega
  · omega
  rintro m xs o ⟨k, h, rfl, rfl, rfl, hk⟩
  (refine bU ?_; with_reducible repeat' first | exact Le.l | refine Sw ?_ ?_ | intro (K : _ → _ → Prop) hK | intro h)
  · exact ⟨_, [_, _], [], by omega, ⟨k + 1, _, rfl, rfl, rfl, by omega⟩, rfl, trivial⟩
  · refine AW.ret (EndsG.new rfl ?_)
    simp (maxSteps := 2000000) (disch := omega) only [go_sem]
instance l1Byte_i (b : Nat) (s : Str) (i h : Int) : GCtr lim Tryz.prog 84 [(b, some [.sl false 1 (bytesA s), .v (.int .i64 i), .v (.int .i64 h)])] [.ptr b 0] (curQ b s (rI 256)) (0 ≤ i ∧ s.length ≤ 4096) := by
  refine GCtr.of_body en84 Tryz.func84 rfl rfl fun hp => (?_); rw [Tryz.ntmps84]
  (refine vU ?_; with_reducible repeat' first | exact Le.l | refine Sw ?_ ?_ | intro (K : _ → _ → Prop) hK | intro h)
  all_goals (refine AW.ret (EndsG.cur rfl ?_); simp (maxSteps := 2000000) (disch := omega) only [go_sem])
  · have hw : IntKind.i64.wrap (i + 1) = i + 1 := wrap_i64 (by omega) (by omega)
    exact ⟨by omega, and_255 _⟩
  · exact ⟨by omega, and_255 _⟩
instance l1Below_i (b : Nat) (s : Str) (i h n : Int) : GCtr lim Tryz.prog 39 [(b, some [.sl false 1 (bytesA s), .v (.int .i64 i), .v (.int .i64 h)])] [.ptr b 0, .v (.int .i64 n)] (curQ b s (rI n)) ((0 ≤ i ∧ s.length ≤ 4096) ∧ 0 < n ∧ n ≤ 256) := by
  refine GCtr.of_body en39 Tryz.func39 rfl rfl fun hp => (?_); rw [Tryz.ntmps39]
  (refine vU ?_; with_reducible repeat' first | exact Le.l | refine Sw ?_ ?_ | intro (K : _ → _ → Prop) hK | intro h)
  refine AW.ret (EndsG.cur rfl ?_)
  simp (maxSteps := 2000000) (disch := omega) only [go_sem]
  have hm := tmod_in h.2.1 hp.2.1
  exact ⟨h.1, hm⟩
instance l1Once_i (b : Nat) (s : Str) (i h n : Int) : GCtr lim Tryz.prog 29 [(b, some [.sl false 1 (bytesA s), .v (.int .i64 i), .v (.int .i64 h)])] [.ptr b 0, .v (.int .i64 n)] (curQ b s rB) ((0 ≤ i ∧ s.length ≤ 4096) ∧ 0 < n ∧ n ≤ 256) := by
  refine GCtr.of_body en29 Tryz.func29 rfl rfl fun hp => (?_); rw [Tryz.ntmps29]
  (refine vU ?_; with_reducible repeat' first | exact Le.l | refine Sw ?_ ?_ | intro (K : _ → _ → Prop) hK | intro h)
  refine AW.ret (EndsG.cur rfl ?_)
  simp (maxSteps := 2000000) (disch := omega) only [go_sem]
  omega
instance l1Str_i (b : Nat) (s : Str) (i h : Int) (l : List Str) : GCtr lim Tryz.prog 72 [(b, some [.sl false 1 (bytesA s), .v (.int .i64 i), .v (.int .i64 h)])] [.ptr b 0, .sl false 1 (l.map AV.str)] (curQ b s (rS 16)) ((0 ≤ i ∧ s.length ≤ 4096) ∧ (0 < l.length ∧ l.length ≤ 256) ∧ ∀ x ∈ l, x.length ≤ 16) := by
  refine GCtr.of_body en72 Tryz.func72 rfl rfl fun hp => (?_); rw [Tryz.ntmps72]
  (refine vU ?_; with_reducible repeat' first | exact Le.l | refine Sw ?_ ?_ | intro (K : _ → _ → Prop) hK | intro h)
  refine AW.ret (EndsG.cur rfl ?_)
  simp (maxSteps := 2000000) (disch := omega) only [go_sem]
  exact ⟨h.1, hp.2.2 _ (at_mem (by omega))⟩
end Go.Proofs.YtfglembdjbhanaaGreatDoor
