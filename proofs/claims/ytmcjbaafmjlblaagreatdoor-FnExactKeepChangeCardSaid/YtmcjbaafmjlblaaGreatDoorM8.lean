/- A part. -/
import Derived.Test.YtmcjbaafmjlblaaGreatDoorM1
import Derived.Test.YtmcjbaafmjlblaaGreatDoorM7
set_option linter.all false
set_option maxRecDepth 20000
set_option maxHeartbeats 4000000
namespace Go.Proofs
open Go.Ab Go.Dt
attribute [go_sem] List.getElem?_nil xx jz lQ aI aS gf ba
theorem yl(x0:List Dt.ag)(x1:Dt.bu)(x2:List Dt.ah)(x3:Int)(x4:Int)(h0:aG aL x0 1048576<0):Ctr eW Tryz.prog 8 [] [.sl false 19 (x0.map (ak false)),.agg [.sl false 3 (x1.aQ.map (aj false)),.sl false 3 (x1.aF.map (az false))],.sl false 3 (x2.map (aj false)),.v (.int .i64 x3),.v (.int .i64 x4)] (.v (.bool true)) [] True:=by
 refine Ctr.bd Tryz.func8 Tryz.ntmps8 rfl rfl fun hp=>?_
 all_goals exact uU
theorem yj(x0:List Dt.ag)(x1:Dt.bu)(x2:List Dt.ah)(x3:Int)(x4:Int)(h0:¬ aG aL x0 1048576<0)(h1:cW x1 (aG aL x0 1048576)<0):Ctr eW Tryz.prog 8 [] [.sl false 19 (x0.map (ak false)),.agg [.sl false 3 (x1.aQ.map (aj false)),.sl false 3 (x1.aF.map (az false))],.sl false 3 (x2.map (aj false)),.v (.int .i64 x3),.v (.int .i64 x4)] (.v (.bool true)) [] True:=by
 have le0:=aZ aL cV x0 1048576 (by omega)
 refine Ctr.bd Tryz.func8 Tryz.ntmps8 rfl rfl fun hp=>?_
 all_goals exact uU
theorem yh(x0:List Dt.ag)(x1:Dt.bu)(x2:List Dt.ah)(x3:Int)(x4:Int)(h0:¬ aG aL x0 1048576<0)(h1:¬ cW x1 (aG aL x0 1048576)<0)(h2:aG bM x2 (cW x1 (aG aL x0 1048576))<0):Ctr eW Tryz.prog 8 [] [.sl false 19 (x0.map (ak false)),.agg [.sl false 3 (x1.aQ.map (aj false)),.sl false 3 (x1.aF.map (az false))],.sl false 3 (x2.map (aj false)),.v (.int .i64 x3),.v (.int .i64 x4)] (.v (.bool true)) [] True:=by
 have le0:=aZ aL cV x0 1048576 (by omega)
 have le1:=jR x1 (aG aL x0 1048576) (by omega)
 refine Ctr.bd Tryz.func8 Tryz.ntmps8 rfl rfl fun hp=>?_
 all_goals exact uU
theorem zt(x0:List Dt.ag)(x1:Dt.bu)(x2:List Dt.ah)(x3:Int)(x4:Int)(h0:¬ aG aL x0 1048576<0)(h1:¬ cW x1 (aG aL x0 1048576)<0)(h2:¬ aG bM x2 (cW x1 (aG aL x0 1048576))<0):Ctr lim Tryz.prog 8 [] [.sl false 19 (x0.map (ak false)),.agg [.sl false 3 (x1.aQ.map (aj false)),.sl false 3 (x1.aF.map (az false))],.sl false 3 (x2.map (aj false)),.v (.int .i64 x3),.v (.int .i64 x4)] (.v (.bool true)) [] True:=by
 have le0:=aZ aL cV x0 1048576 (by omega)
 have le1:=jR x1 (aG aL x0 1048576) (by omega)
 have le2:=aZ bM dC x2 (cW x1 (aG aL x0 1048576)) (by omega)
 have c0:=fJ cV mW x0 1 1048576 (by omega) (by omega)
 have d0:=bG ib x0 1
 have c1:=mc x1 ((mkL ct x0 1).2) (aG aL x0 1048576) (by omega) (by omega)
 have d1:=uh x1 ((mkL ct x0 1).2)
 simp only [j1] at c1 d1
 have c2:=fJ dC pj x2 ((mkL aV x1.aF ((mkL aT x1.aQ ((mkL ct x0 1).2)).2)).2) (cW x1 (aG aL x0 1048576)) (by omega) (by omega)
 have d2:=bG dO x2 ((mkL aV x1.aF ((mkL aT x1.aQ ((mkL ct x0 1).2)).2)).2)
 have hwS:=Ad (l:=x0) (r:=1048576) (by omega) (by omega)
 have hwf:=uR (j:=x1) (r:=aG aL x0 1048576) (by omega) (by omega) (by omega)
 have hw1:=hwf.1
 have hw2:=hwf.2
 have hwB:=C6 (l:=x2) (r:=cW x1 (aG aL x0 1048576)) (by omega) (by omega)
 have cr:=TJ x0 x1 x2 x3 x4 (r:=aG aL x0 1048576) (by omega) (by omega) (by omega)
 have dr0:=bG dO x1.aQ 1
 have dr1:=bG dJ (kcL x0 x1 x2 x3 x4) (mkL aT x1.aQ 1).2
 have zB:decide ((mkL aV (kcL x0 x1 x2 x3 x4) (mkL aT x1.aQ 1).2).2<0)=false:=decide_eq_false (by omega)
 have hneg:decide ((mkL aT x2 ((mkL aV x1.aF ((mkL aT x1.aQ ((mkL ct x0 1).2)).2)).2)).2<0)=false:=decide_eq_false (by omega)
 refine Ctr.bd Tryz.func8 Tryz.ntmps8 rfl rfl fun hp=>?_
 (repeat' first|(with_reducible first|(refine X fun hs=>?_)|refine Z ?_|refine Y ?_|(refine hK _ _ ?_;clear hK K)|refine And.intro ?_ ?_|exact Ct|intro (K:_->_->Prop) hK|(refine gI fun hg=>?_;try simp only [hC,reduceCtorEq] at hg;try simp only [hg]))|(refine AW.i rfl (fun h=>?_) (fun h=>?_)<;>try simp only [hC,reduceCtorEq] at h)|((with_reducible refine E ?_;repeat refine Y ?_);refine eF rfl ?_)|simp (disch:=omega) only [go_sem,hneg,zB]|(with_reducible intro hg;try simp only [hC,reduceCtorEq] at hg)|exact Cl|fail)
 all_goals exact hw2 _ (by assumption)
theorem zr(x0:List Dt.ag)(x1:Dt.bu)(x2:List Dt.ah)(x3:Int)(x4:Int):tT Tryz.prog 8 [.sl false 19 (x0.map (ak false)),lP false x1,.sl false 3 (x2.map (aj false)),.v (.int .i64 x3),.v (.int .i64 x4)]:=by
 by_cases h0:aG aL x0 1048576<0
 ·exact .raw (yl x0 x1 x2 x3 x4 h0) trivial
 have le0:=aZ aL cV x0 1048576 (by omega)
 by_cases h1:cW x1 (aG aL x0 1048576)<0
 ·exact .raw (yj x0 x1 x2 x3 x4 h0 h1) trivial
 have le1:=jR x1 (aG aL x0 1048576) (by omega)
 by_cases h2:aG bM x2 (cW x1 (aG aL x0 1048576))<0
 ·exact .raw (yh x0 x1 x2 x3 x4 h0 h1 h2) trivial
 have le2:=aZ bM dC x2 (cW x1 (aG aL x0 1048576)) (by omega)
 exact .fit ⟨eM (f:=aL) cV x0 1048576 (by omega) (by omega) (by omega) fun y hy r' p q s=>vo y r' p q s,zH x1 (aG aL x0 1048576) (by omega) (by omega) (by omega),eM (f:=bM) dC x2 (cW x1 (aG aL x0 1048576)) (by omega) (by omega) (by omega) fun y hy r' p q s=>Bb y r' p q s,trivial,trivial,trivial⟩ (zt x0 x1 x2 x3 x4 h0 h1 h2) trivial
end Go.Proofs
