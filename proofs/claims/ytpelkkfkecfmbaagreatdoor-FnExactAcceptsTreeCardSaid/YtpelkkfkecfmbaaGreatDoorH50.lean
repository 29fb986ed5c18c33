/- Part of a proof. -/
import Derived.Test.YtpelkkfkecfmbaaGreatDoorH49
set_option linter.all false
set_option maxRecDepth 20000
set_option maxHeartbeats 4000000
open Go.Proofs.Tryz
namespace Go.Proofs
open Go.Ab Go.Dt
attribute [go_sem] oB aC lj aR aM
attribute [-instance] cK dh
theorem yx(x0:Dt.bJ)(x1:List Dt.ah)(h0:cD x0 1048576<0):Ctr gE prog 4 [] [.agg (cDe x0),.sl false 3 (x1.map (ak false))] (.ac true) [] True:=by
 refine Ctr.bd func4 ntmps4 fun hp=>?_
 all_goals exact uU
theorem yw(x0:Dt.bJ)(x1:List Dt.ah)(h0:¬ cD x0 1048576<0)(h1:aQ bz x1 (cD x0 1048576)<0):Ctr gE prog 4 [] [.agg (cDe x0),.sl false 3 (x1.map (ak false))] (.ac true) [] True:=by
 have le0:=gA x0 1048576 Ir;refine Ctr.bd func4 ntmps4 fun hp=>?_
 all_goals exact uU
theorem zx(x0:Dt.bJ)(x1:List Dt.ah)(h0:¬ cD x0 1048576<0)(h1:¬ aQ bz x1 (cD x0 1048576)<0):Ctr lim prog 4 [] [.agg (cDe x0),.sl false 3 (x1.map (ak false))] (.ac true) [] True:=by
 have le0:=gA x0 1048576 Ir
 have le1:=bu bz cw x1 (cD x0 1048576) Ir
 have hdv:=zT (x:=x0) (r:=1048576) Ir Ir Ir
 have hwl:wt x1<=1048576:=by have:=sV (l:=x1) (r:=cD x0 1048576) Ir Ir;omega
 refine Ctr.bd func4 ntmps4 fun hp=>?_;exact vL0
def zw(x0:Dt.bJ)(x1:List Dt.ah):vC prog 4 [cq false x0,.sl false 3 (x1.map (ak false))]:=by
 by_cases h0:cD x0 1048576<0
 ·exact .raw (yx x0 x1 h0) trivial
 have le0:=gA x0 1048576 Ir;by_cases h1:aQ bz x1 (cD x0 1048576)<0
 ·exact .raw (yw x0 x1 h0 h1) trivial
 have le1:=bu bz cw x1 (cD x0 1048576) Ir;exact .fit ⟨w7 x0 1048576 Ir Ir Ir,fc (f:=bz) cw x1 (cD x0 1048576) Ir Ir Ir fun y hy r' p q s=>qj y r' p q s,trivial⟩ (zx x0 x1 h0 h1) trivial
end Go.Proofs
