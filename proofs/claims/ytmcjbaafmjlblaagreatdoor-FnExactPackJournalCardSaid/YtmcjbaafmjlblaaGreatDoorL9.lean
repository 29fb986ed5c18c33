/- A part. -/
import Derived.Test.YtmcjbaafmjlblaaGreatDoorL8
set_option linter.all false
set_option maxRecDepth 20000
set_option maxHeartbeats 4000000
namespace Go.Proofs
open Go.Ab Go.Dt
attribute [go_sem] List.getElem?_nil xx jz lQ aI aS gf ba
theorem wZ(x0:List Dt.ag)(x1:Dt.bu)(x2:Int)(h0:aG aL x0 1048576<0):Ctr eW Tryz.prog 7 [] [.sl false 19 (x0.map (ak false)),.agg [.sl false 3 (x1.aQ.map (aj false)),.sl false 3 (x1.aF.map (az false))],.v (.int .i64 x2)] (.v (.bool true)) [] True:=by
 refine Ctr.bd Tryz.func7 Tryz.ntmps7 rfl rfl fun hp=>?_
 all_goals exact uU
theorem wY(x0:List Dt.ag)(x1:Dt.bu)(x2:Int)(h0:¬ aG aL x0 1048576<0)(h1:cW x1 (aG aL x0 1048576)<0):Ctr eW Tryz.prog 7 [] [.sl false 19 (x0.map (ak false)),.agg [.sl false 3 (x1.aQ.map (aj false)),.sl false 3 (x1.aF.map (az false))],.v (.int .i64 x2)] (.v (.bool true)) [] True:=by
 have le0:=aZ aL cV x0 1048576 (by omega)
 refine Ctr.bd Tryz.func7 Tryz.ntmps7 rfl rfl fun hp=>?_
 all_goals exact uU
theorem yg(x0:List Dt.ag)(x1:Dt.bu)(x2:Int)(h0:¬ aG aL x0 1048576<0)(h1:¬ cW x1 (aG aL x0 1048576)<0):Ctr lim Tryz.prog 7 [] [.sl false 19 (x0.map (ak false)),.agg [.sl false 3 (x1.aQ.map (aj false)),.sl false 3 (x1.aF.map (az false))],.v (.int .i64 x2)] (.v (.bool true)) [] True:=by
 have le0:=aZ aL cV x0 1048576 (by omega)
 have le1:=jR x1 (aG aL x0 1048576) (by omega)
 have c0:=fJ cV mW x0 1 1048576 (by omega) (by omega)
 have d0:=bG ib x0 1
 have c1:=mc x1 ((mkL ct x0 1).2) (aG aL x0 1048576) (by omega) (by omega)
 have d1:=uh x1 ((mkL ct x0 1).2)
 simp only [j1] at c1 d1
 have hwS:=Ad (l:=x0) (r:=1048576) (by omega) (by omega)
 have hwf:=uR (j:=x1) (r:=aG aL x0 1048576) (by omega) (by omega) (by omega)
 have hw1:=hwf.1
 have hw2:=hwf.2
 have cr:=Tz x0 x2 (j:=x1) (r:=aG aL x0 1048576) (by omega) (by omega) (by omega)
 have dr0:=bG dO (pkS x0 x1 x2) 1
 have dr1:=bG dJ (pkL x0 x1 x2) (mkL aT (pkS x0 x1 x2) 1).2
 have zB:decide ((mkL aV (pkL x0 x1 x2) (mkL aT (pkS x0 x1 x2) 1).2).2<0)=false:=decide_eq_false (by omega)
 have hneg:decide ((mkL aV x1.aF ((mkL aT x1.aQ ((mkL ct x0 1).2)).2)).2<0)=false:=decide_eq_false (by omega)
 refine Ctr.bd Tryz.func7 Tryz.ntmps7 rfl rfl fun hp=>?_
 (repeat' first|(with_reducible first|(refine X fun hs=>?_)|refine Z ?_|refine Y ?_|(refine hK _ _ ?_;clear hK K)|refine And.intro ?_ ?_|exact Ct|intro (K:_->_->Prop) hK|(refine gI fun hg=>?_;try simp only [hC,reduceCtorEq] at hg;try simp only [hg]))|(refine AW.i rfl (fun h=>?_) (fun h=>?_)<;>try simp only [hC,reduceCtorEq] at h)|((with_reducible refine E ?_;repeat refine Y ?_);refine eF rfl ?_)|simp (disch:=omega) only [go_sem,hneg,zB]|(with_reducible intro hg;try simp only [hC,reduceCtorEq] at hg)|exact Cl|fail)
 all_goals exact hw2 _ (by assumption)
theorem yf(x0:List Dt.ag)(x1:Dt.bu)(x2:Int):tT Tryz.prog 7 [.sl false 19 (x0.map (ak false)),lP false x1,.v (.int .i64 x2)]:=by
 by_cases h0:aG aL x0 1048576<0
 ·exact .raw (wZ x0 x1 x2 h0) trivial
 have le0:=aZ aL cV x0 1048576 (by omega)
 by_cases h1:cW x1 (aG aL x0 1048576)<0
 ·exact .raw (wY x0 x1 x2 h0 h1) trivial
 have le1:=jR x1 (aG aL x0 1048576) (by omega)
 exact .fit ⟨eM (f:=aL) cV x0 1048576 (by omega) (by omega) (by omega) fun y hy r' p q s=>vo y r' p q s,zH x1 (aG aL x0 1048576) (by omega) (by omega) (by omega),trivial,trivial⟩ (yg x0 x1 x2 h0 h1) trivial
end Go.Proofs
