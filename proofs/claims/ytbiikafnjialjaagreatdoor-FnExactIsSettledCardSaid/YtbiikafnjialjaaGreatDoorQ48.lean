/- Part of a proof. -/
import Derived.Test.YtbiikafnjialjaaGreatDoorQ47
set_option linter.all false
set_option maxRecDepth 20000
set_option maxHeartbeats 4000000
open Go.Proofs.Tryz
open List
namespace Go.Proofs
open Go.Ab Go.Dt
attribute [go_sem] getElem?_nil aV bu oC pK nZ pJ bL
theorem Cr(x0:Dt.gN)(x1:Dt.dI)(h0:cw x0 1048576<0):Ctr fN prog 5 [] [.agg [.ab 3 aK x0.aC,.ab 4 aP x0.aO],.agg [.str x1.ae,.ab 19 ak x1.av.bg,.ab 3 ai x1.av.bk,.ab 3 ai x1.av.cD,.aa x1.av.iV,.ab 3 bF x1.av.dL,.ac x1.av.bh.fOn,.aa x1.av.bh.gz,.aa x1.av.bh.fBy,.str x1.av.bh.ae,.ab 3 ai x1.av.bh.dS,.ab 3 ai x1.fJ,.ac x1.fUp,.aa x1.om,.ac x1.oq]] (.ac true) [] True:=by
 refine Ctr.bd func5 ntmps5 λhp=>?_
 all_goals exact uU
theorem Cq(x0:Dt.gN)(x1:Dt.dI)(h0:¬cw x0 1048576<0)(h1:dE x1 (cw x0 1048576)<0):Ctr fN prog 5 [] [.agg [.ab 3 aK x0.aC,.ab 4 aP x0.aO],.agg [.str x1.ae,.ab 19 ak x1.av.bg,.ab 3 ai x1.av.bk,.ab 3 ai x1.av.cD,.aa x1.av.iV,.ab 3 bF x1.av.dL,.ac x1.av.bh.fOn,.aa x1.av.bh.gz,.aa x1.av.bh.fBy,.str x1.av.bh.ae,.ab 3 ai x1.av.bh.dS,.ab 3 ai x1.fJ,.ac x1.fUp,.aa x1.om,.ac x1.oq]] (.ac true) [] True:=by
 have le0:=jD x0 1048576 Yt;refine Ctr.bd func5 ntmps5 λhp=>?_
 all_goals exact uU
theorem Ds(x0:Dt.gN)(x1:Dt.dI)(h0:¬cw x0 1048576<0)(h1:¬dE x1 (cw x0 1048576)<0):Ctr lim prog 5 [] [.agg [.ab 3 aK x0.aC,.ab 4 aP x0.aO],.agg [.str x1.ae,.ab 19 ak x1.av.bg,.ab 3 ai x1.av.bk,.ab 3 ai x1.av.cD,.aa x1.av.iV,.ab 3 bF x1.av.dL,.ac x1.av.bh.fOn,.aa x1.av.bh.gz,.aa x1.av.bh.fBy,.str x1.av.bh.ae,.ab 3 ai x1.av.bh.dS,.ab 3 ai x1.fJ,.ac x1.fUp,.aa x1.om,.ac x1.oq]] (.ac true) [] True:=by
 have le0:=jD x0 1048576 Yt
 have le1:=jv x1 (cw x0 1048576) Yt
 have hft:=L7 h0
 have hps:=xC h0
 have hdv:=KE (x:=x1) (r:=cw x0 1048576) Yt Yt Yt
 have afR:=hdv.1
 have hdb:=Io (x:=x1) (r:=cw x0 1048576) Yt Yt Yt;refine Ctr.bd func5 ntmps5 λhp=>?_
 (refine vL4 ?_ ?_ ?_ ?_<;>with_reducible repeat intro h)
 all_goals first|exact(hps _ h).1|exact(hps _ h).2
def Dr(x0:Dt.gN)(x1:Dt.dI):wU prog 5 [p7 false x0,cm false x1]:=by
 by_cases h0:cw x0 1048576<0
 ·exact .raw (Cr x0 x1 h0) trivial
 have le0:=jD x0 1048576 Yt;by_cases h1:dE x1 (cw x0 1048576)<0
 ·exact .raw (Cq x0 x1 h0 h1) trivial
 have le1:=jv x1 (cw x0 1048576) Yt;exact .fit ⟨DV x0 1048576 Yt Yt Yt,ER x1 (cw x0 1048576) Yt Yt Yt,trivial⟩ (Ds x0 x1 h0 h1) trivial
