/-
  Part of a proof: Cp1t.
-/
import Derived.Test.YtmdbmmmlccipdaaGreatDoorG19
import Derived.Test.YtmdbmmmlccipdaaGreatDoorG35
set_option linter.unusedSimpArgs false
set_option linter.unusedVariables false
namespace Go.Proofs.YtmdbmmmlccipdaaGreatDoor
open Go.Ab Go.Dt
set_option maxRecDepth 20000
set_option maxHeartbeats 4000000
instance sCopyType_i (x : GType) : Ctr lim Tryz.prog 165 [] [.agg [.v (.int .i64 x.fKind), .sl false 2 (x.fRanges.map (encRange false)), .sl false 1 (x.fNames.map AV.str), .str x.fPattern, .str x.fPath]] (.agg [.v (.int .i64 x.fKind), .sl true 2 (x.fRanges.map (encRange true)), .sl true 1 (x.fNames.map AV.str), .str x.fPattern, .str x.fPath]) [] True := by
  refine Ctr.of_body en165 Tryz.func165 rfl rfl fun hp => (?_); rw [Tryz.ntmps165]
  refine AW.fact 0 fun hf => ?_
  simp (disch := omega) only [go_sem] at hf
  (refine bU ?_; with_reducible repeat' first | exact Le.l | refine Sw ?_ ?_ | intro h)
  rfl
end Go.Proofs.YtmdbmmmlccipdaaGreatDoor
