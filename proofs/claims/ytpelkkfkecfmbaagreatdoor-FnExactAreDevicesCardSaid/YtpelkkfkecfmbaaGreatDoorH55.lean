/- Part of a proof. -/
import Derived.Test.YtpelkkfkecfmbaaGreatDoorH54
set_option linter.all false
set_option maxRecDepth 20000
set_option maxHeartbeats 4000000
open Go.Proofs.Tryz
namespace Go.Proofs
open Go.Ab Go.Dt
attribute [go_sem] oB aC lj aR aM
attribute [-instance] cK dh
theorem zu(x0:List Dt.bJ)(h0:aQ cD x0 1048576<0):Ctr gE prog 5 [] [.sl false 15 (x0.map (cq false))] (.ac true) [] True:=by
 refine Ctr.bd func5 ntmps5 fun hp=>?_
 all_goals exact uU
theorem Bi(x0:List Dt.bJ)(h0:¬ aQ cD x0 1048576<0):Ctr lim prog 5 [] [.sl false 15 (x0.map (cq false))] (.ac true) [] True:=by
 have le0:=bu cD gA x0 1048576 Ir
 have hdv:∀ x∈x0,q4 x:=N7 (r:=1048576) Ir Ir Ir;refine Ctr.bd func5 ntmps5 fun hp=>?_
 (refine vL2 ?_ ?_<;>with_reducible repeat intro h)
 all_goals exact hdv _ yG
def Bh(x0:List Dt.bJ):vC prog 5 [.sl false 15 (x0.map (cq false))]:=by
 by_cases h0:aQ cD x0 1048576<0
 ·exact .raw (zu x0 h0) trivial
 have le0:=bu cD gA x0 1048576 Ir;exact .fit ⟨fc (f:=cD) gA x0 1048576 Ir Ir Ir fun y hy r' p q s=>w7 y r' p q s,trivial⟩ (Bi x0 h0) trivial
end Go.Proofs
