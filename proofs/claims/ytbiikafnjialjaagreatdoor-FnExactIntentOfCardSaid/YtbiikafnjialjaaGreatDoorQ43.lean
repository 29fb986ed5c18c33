/- Part of a proof. -/
import Derived.Test.YtbiikafnjialjaaGreatDoorQ41
import Derived.Test.YtbiikafnjialjaaGreatDoorQ42
set_option linter.all false
set_option maxRecDepth 20000
set_option maxHeartbeats 4000000
open Go.Proofs.Tryz
open List
namespace Go.Proofs
open Go.Ab Go.Dt
attribute [go_sem] getElem?_nil aV bu oC pK nZ bL
theorem Dx(x0:Dt.gN)(x1:List Dt.ag)(x2:Str)(x3:List Dt.ah)(h0:1048576<x2.length):Ctr fN prog 4 [] [.agg [.ab 3 aK x0.aC,.ab 4 aP x0.aO],.ab 19 ak x1,.str x2,.ab 3 ai x3] (.ac true) [] True:=by
 refine Ctr.bd func4 ntmps4 λhp=>?_
 all_goals exact uU
theorem Dw(x0:Dt.gN)(x1:List Dt.ag)(x2:Str)(x3:List Dt.ah)(h0:¬1048576<x2.length)(h1:cw x0 1048576<0):Ctr fN prog 4 [] [.agg [.ab 3 aK x0.aC,.ab 4 aP x0.aO],.ab 19 ak x1,.str x2,.ab 3 ai x3] (.ac true) [] True:=by
 refine Ctr.bd func4 ntmps4 λhp=>?_
 all_goals exact uU
theorem Dv(x0:Dt.gN)(x1:List Dt.ag)(x2:Str)(x3:List Dt.ah)(h0:¬1048576<x2.length)(h1:¬cw x0 1048576<0)(h2:aM bG x1 (cw x0 1048576)<0):Ctr fN prog 4 [] [.agg [.ab 3 aK x0.aC,.ab 4 aP x0.aO],.ab 19 ak x1,.str x2,.ab 3 ai x3] (.ac true) [] True:=by
 have le0:=jD x0 1048576 Yt;refine Ctr.bd func4 ntmps4 λhp=>?_
 all_goals exact uU
theorem Du(x0:Dt.gN)(x1:List Dt.ag)(x2:Str)(x3:List Dt.ah)(h0:¬1048576<x2.length)(h1:¬cw x0 1048576<0)(h2:¬aM bG x1 (cw x0 1048576)<0)(h3:aM bA x3 (aM bG x1 (cw x0 1048576))<0):Ctr fN prog 4 [] [.agg [.ab 3 aK x0.aC,.ab 4 aP x0.aO],.ab 19 ak x1,.str x2,.ab 3 ai x3] (.ac true) [] True:=by
 have le0:=jD x0 1048576 Yt
 have le1:=ba bG fe x1 (cw x0 1048576) Yt;refine Ctr.bd func4 ntmps4 λhp=>?_
 all_goals exact uU
theorem Fj(x0:Dt.gN)(x1:List Dt.ag)(x2:Str)(x3:List Dt.ah)(h0:¬1048576<x2.length)(h1:¬cw x0 1048576<0)(h2:¬aM bG x1 (cw x0 1048576)<0)(h3:¬aM bA x3 (aM bG x1 (cw x0 1048576))<0):Ctr lim prog 4 [] [.agg [.ab 3 aK x0.aC,.ab 4 aP x0.aO],.ab 19 ak x1,.str x2,.ab 3 ai x3] (.ac true) [] True:=by
 have le0:=jD x0 1048576 Yt
 have le1:=ba bG fe x1 (cw x0 1048576) Yt
 have le3:=ba bA cf x3 (aM bG x1 (cw x0 1048576)) Yt
 have c0:=Bw x0 1 1048576 Yt Yt
 have d0:=MC x0 1;simp only[uz]at c0 d0;have c1:=fA fe sj x1 ((mkL cg x0.aO ((mkL bq x0.aC 1).2)).2) (cw x0 1048576) Yt Yt
 have d1:=bD jw x1 ((mkL cg x0.aO ((mkL bq x0.aC 1).2)).2)
 have c3:=fA cf j6 x3 ((mkL bH x1 ((mkL cg x0.aO ((mkL bq x0.aC 1).2)).2)).2) (aM bG x1 (cw x0 1048576)) Yt Yt
 have d3:=bD dO x3 ((mkL bH x1 ((mkL cg x0.aO ((mkL bq x0.aC 1).2)).2)).2)
 have hft:=L7 h1
 have hps:=xC h1
 have hwS:=Ju (l:=x1) (r:=cw x0 1048576) Yt Yt
 have hwL:=Bt (l:=x3) (r:=aM bG x1 (cw x0 1048576)) Yt Yt
 have cr:=Zh (T:=x0.aC) (S:=x0.aO) (s:=x1) (dev:=x2) (l:=x3) Yt
 have dr:=bD dO (inT x0.aC x0.aO x1 x2 x3).1 1
 have LS:decide ((mkL aQ (inT x0.aC x0.aO x1 x2 x3).1 1).2<0)=false:=decide_eq_false Yt
 have hneg:decide ((mkL aQ x3 ((mkL bH x1 ((mkL cg x0.aO ((mkL bq x0.aC 1).2)).2)).2)).2<0)=false:=decide_eq_false Yt;refine Ctr.bd func4 ntmps4 λhp=>?_
 (repeat' first|(with_reducible first|(refine X λhs=>?_)|refine Z ?_|refine Y ?_|(refine hK _ _ ?_;clear hK K)|refine And.intro ?_ ?_|exact Ct|intro(K:_->_->Prop) hK|(refine gI λhg=>?_;try simp only[hC,reduceCtorEq]at hg;try simp only[hg]))|(refine AW.i rfl (λh=>?_) (λh=>?_)<;>try simp only[hC,reduceCtorEq]at h)|((with_reducible refine E ?_;repeat refine Y ?_);refine eF rfl ?_)|simp(disch:=omega)only[go_sem,hneg,LS]|(with_reducible intro hg;try simp only[hC,reduceCtorEq]at hg)|exact Cl|fail)
 all_goals first|exact(hps _ hg).1|exact(hps _ hg).2
def Fh(x0:Dt.gN)(x1:List Dt.ag)(x2:Str)(x3:List Dt.ah):wU prog 4 [p7 false x0,.ab 19 ak x1,.str x2,.ab 3 ai x3]:=by
 by_cases h0:1048576<x2.length
 ·exact .raw (Dx x0 x1 x2 x3 h0) trivial
 by_cases h1:cw x0 1048576<0
 ·exact .raw (Dw x0 x1 x2 x3 h0 h1) trivial
 have le0:=jD x0 1048576 Yt;by_cases h2:aM bG x1 (cw x0 1048576)<0
 ·exact .raw (Dv x0 x1 x2 x3 h0 h1 h2) trivial
 have le1:=ba bG fe x1 (cw x0 1048576) Yt;by_cases h3:aM bA x3 (aM bG x1 (cw x0 1048576))<0
 ·exact .raw (Du x0 x1 x2 x3 h0 h1 h2 h3) trivial
 have le3:=ba bA cf x3 (aM bG x1 (cw x0 1048576)) Yt;exact .fit ⟨DV x0 1048576 Yt Yt Yt,eI (f:=bG) fe x1 (cw x0 1048576) Yt Yt Yt λy hy r' p q s=>EP y r' p q s,trivial,eI (f:=bA) cf x3 (aM bG x1 (cw x0 1048576)) Yt Yt Yt λy hy r' p q s=>oV y r' p q s,trivial⟩ (Fj x0 x1 x2 x3 h0 h1 h2 h3) trivial
