/- Part of a proof. -/
import Derived.Test.YtbiikafnjialjaaGreatDoorG35
import Derived.Test.YtbiikafnjialjaaGreatDoorG36
set_option linter.all false
set_option maxRecDepth 20000
set_option maxHeartbeats 4000000
namespace Go.Proofs
open Go.Ab Go.Dt
attribute [go_sem] List.getElem?_nil cM eH w8 yA qO dF
theorem vD(x0:Dt.gz)(x1:List Dt.ae)(x2:Dt.bt)(h0:dz x0 1048576<0):Ctr gD Tryz.prog 3 [] [.agg [.sl false 3 (x0.bf.map (aQ false)),.sl false 4 (x0.bV.map (aT false))],.sl false 19 (x1.map (aq false)),.agg [.str x2.af,.str x2.aX,.sl false 2 (x2.fArgs.map (bp false)),.sl false 1 (x2.ck.map AV.str)]] (.v (.bool true)) [] True:=by
 refine Ctr.bd Tryz.func3 Tryz.ntmps3 rfl rfl fun hp=>?_
 all_goals exact uU
theorem vC(x0:Dt.gz)(x1:List Dt.ae)(x2:Dt.bt)(h0:¬ dz x0 1048576<0)(h1:aM bP x1 (dz x0 1048576)<0):Ctr gD Tryz.prog 3 [] [.agg [.sl false 3 (x0.bf.map (aQ false)),.sl false 4 (x0.bV.map (aT false))],.sl false 19 (x1.map (aq false)),.agg [.str x2.af,.str x2.aX,.sl false 2 (x2.fArgs.map (bp false)),.sl false 1 (x2.ck.map AV.str)]] (.v (.bool true)) [] True:=by
 have le0:=pY x0 1048576 (by omega)
 refine Ctr.bd Tryz.func3 Tryz.ntmps3 rfl rfl fun hp=>?_
 all_goals exact uU
theorem vB(x0:Dt.gz)(x1:List Dt.ae)(x2:Dt.bt)(h0:¬ dz x0 1048576<0)(h1:¬ aM bP x1 (dz x0 1048576)<0)(h2:dm x2 (aM bP x1 (dz x0 1048576))<0):Ctr gD Tryz.prog 3 [] [.agg [.sl false 3 (x0.bf.map (aQ false)),.sl false 4 (x0.bV.map (aT false))],.sl false 19 (x1.map (aq false)),.agg [.str x2.af,.str x2.aX,.sl false 2 (x2.fArgs.map (bp false)),.sl false 1 (x2.ck.map AV.str)]] (.v (.bool true)) [] True:=by
 have le0:=pY x0 1048576 (by omega)
 have le1:=bu bP fQ x1 (dz x0 1048576) (by omega)
 refine Ctr.bd Tryz.func3 Tryz.ntmps3 rfl rfl fun hp=>?_
 all_goals exact uU
theorem wR(x0:Dt.gz)(x1:List Dt.ae)(x2:Dt.bt)(h0:¬ dz x0 1048576<0)(h1:¬ aM bP x1 (dz x0 1048576)<0)(h2:¬ dm x2 (aM bP x1 (dz x0 1048576))<0):Ctr lim Tryz.prog 3 [] [.agg [.sl false 3 (x0.bf.map (aQ false)),.sl false 4 (x0.bV.map (aT false))],.sl false 19 (x1.map (aq false)),.agg [.str x2.af,.str x2.aX,.sl false 2 (x2.fArgs.map (bp false)),.sl false 1 (x2.ck.map AV.str)]] (.v (.bool true)) [] True:=by
 have le0:=pY x0 1048576 (by omega)
 have le1:=bu bP fQ x1 (dz x0 1048576) (by omega)
 have le2:=gW x2 (aM bP x1 (dz x0 1048576)) (by omega)
 have c0:=FI x0 1 1048576 (by omega) (by omega)
 have d0:=G9 x0 1
 simp only [tw] at c0 d0
 have c1:=gh fQ tJ x1 ((mkL dn x0.bV ((mkL cg x0.bf 1).2)).2) (dz x0 1048576) (by omega) (by omega)
 have d1:=bM jw x1 ((mkL dn x0.bV ((mkL cg x0.bf 1).2)).2)
 have c2:=Be x2 ((mkL du x1 ((mkL dn x0.bV ((mkL cg x0.bf 1).2)).2)).2) (aM bP x1 (dz x0 1048576)) (by omega) (by omega)
 have d2:=BV x2 ((mkL du x1 ((mkL dn x0.bV ((mkL cg x0.bf 1).2)).2)).2)
 simp only [nJ] at c2 d2
 have hft:=Rh h0
 have hwS:=Lg (l:=x1) (r:=dz x0 1048576) (by omega) (by omega)
 have hsv:=Jq (x:=x2) (r:=aM bP x1 (dz x0 1048576)) (by omega) (by omega) (by omega)
 have Xd:=hsv.1
 have Xc:=hsv.2
 have cr:=Qt x0.bf x1 x2
 have dr:=bM fM (svT x0.bf x1 x2).1 1
 have Q6:decide ((mkL cm (svT x0.bf x1 x2).1 1).2<0)=false:=decide_eq_false (by omega)
 have hneg:decide ((mkL au x2.ck ((mkL eQ x2.fArgs ((mkL du x1 ((mkL dn x0.bV ((mkL cg x0.bf 1).2)).2)).2)).2)).2<0)=false:=decide_eq_false (by omega)
 refine Ctr.bd Tryz.func3 Tryz.ntmps3 rfl rfl fun hp=>?_
 (repeat' first|(with_reducible first|(refine X fun hs=>?_)|refine Z ?_|refine Y ?_|(refine hK _ _ ?_;clear hK K)|refine And.intro ?_ ?_|exact Ct|intro (K:_->_->Prop) hK|(refine gI fun hg=>?_;try simp only [hC,reduceCtorEq] at hg;try simp only [hg]))|(refine AW.i rfl (fun h=>?_) (fun h=>?_)<;>try simp only [hC,reduceCtorEq] at h)|((with_reducible refine E ?_;repeat refine Y ?_);refine eF rfl ?_)|simp (disch:=omega) only [go_sem,hneg,Q6]|(with_reducible intro hg;try simp only [hC,reduceCtorEq] at hg)|exact Cl|fail)
theorem wQ(x0:Dt.gz)(x1:List Dt.ae)(x2:Dt.bt):xk Tryz.prog 3 [uY false x0,.sl false 19 (x1.map (aq false)),aT false x2]:=by
 by_cases h0:dz x0 1048576<0
 ·exact .raw (vD x0 x1 x2 h0) trivial
 have le0:=pY x0 1048576 (by omega)
 by_cases h1:aM bP x1 (dz x0 1048576)<0
 ·exact .raw (vC x0 x1 x2 h0 h1) trivial
 have le1:=bu bP fQ x1 (dz x0 1048576) (by omega)
 by_cases h2:dm x2 (aM bP x1 (dz x0 1048576))<0
 ·exact .raw (vB x0 x1 x2 h0 h1 h2) trivial
 have le2:=gW x2 (aM bP x1 (dz x0 1048576)) (by omega)
 exact .fit ⟨MI x0 1048576 (by omega) (by omega) (by omega),fP (f:=bP) fQ x1 (dz x0 1048576) (by omega) (by omega) (by omega) fun y hy r' p q s=>Ix y r' p q s,yq x2 (aM bP x1 (dz x0 1048576)) (by omega) (by omega) (by omega),trivial⟩ (wR x0 x1 x2 h0 h1 h2) trivial
end Go.Proofs
