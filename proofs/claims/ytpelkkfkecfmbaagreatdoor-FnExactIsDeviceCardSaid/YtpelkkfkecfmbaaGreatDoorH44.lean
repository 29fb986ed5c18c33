/- Part of a proof. -/
import Derived.Test.YtpelkkfkecfmbaaGreatDoorH43
set_option linter.all false
set_option maxRecDepth 20000
set_option maxHeartbeats 4000000
open Go.Proofs.Tryz
namespace Go.Proofs
open Go.Ab Go.Dt
attribute [go_sem] oB aC lj aR aM
attribute [-instance] cK dh
theorem Cn(x0:Dt.bJ)(h0:cD x0 1048576<0):Ctr gE prog 3 [] [.agg (cDe x0)] (.ac true) [] True:=by
 refine Ctr.bd func3 ntmps3 fun hp=>?_
 all_goals exact uU
theorem Ec(x0:Dt.bJ)(h0:¬ cD x0 1048576<0):Ctr lim prog 3 [] [.agg (cDe x0)] (.ac true) [] True:=by
 have le0:=gA x0 1048576 Ir
 have hdv:=zT (x:=x0) (r:=1048576) Ir Ir Ir;refine Ctr.bd func3 ntmps3 fun hp=>?_;exact vL0
def Eb(x0:Dt.bJ):vC prog 3 [cq false x0]:=by
 by_cases h0:cD x0 1048576<0
 ·exact .raw (Cn x0 h0) trivial
 have le0:=gA x0 1048576 Ir;exact .fit ⟨w7 x0 1048576 Ir Ir Ir,trivial⟩ (Ec x0 h0) trivial
end Go.Proofs
