/- A part. -/
import Derived.Test.YtmcjbaafmjlblaaGreatDoorJ45
set_option linter.all false
set_option maxRecDepth 20000
set_option maxHeartbeats 4000000
namespace Go.Proofs
open Go.Ab Go.Dt
attribute [go_sem] List.getElem?_nil I5 jz ub aI aS gf ba
theorem CB(x0:List Dt.ag)(x1:Dt.dm)(h0:aG aL x0 1048576<0):Ctr eW Tryz.prog 5 [] [.sl false 19 (x0.map (ak false)),.agg [.sl false 1 (x1.ax.map AV.str),.sl false 3 (x1.cL.map (aj false)),.sl false 1 (x1.bt.map (bD false))]] (.v (.bool true)) [] True:=by
 refine Ctr.bd Tryz.func5 Tryz.ntmps5 rfl rfl fun hp=>?_
 all_goals exact uU
theorem CA(x0:List Dt.ag)(x1:Dt.dm)(h0:¬ aG aL x0 1048576<0)(h1:fE x1 (aG aL x0 1048576)<0):Ctr eW Tryz.prog 5 [] [.sl false 19 (x0.map (ak false)),.agg [.sl false 1 (x1.ax.map AV.str),.sl false 3 (x1.cL.map (aj false)),.sl false 1 (x1.bt.map (bD false))]] (.v (.bool true)) [] True:=by
 have le0:=aZ aL cV x0 1048576 (by omega)
 refine Ctr.bd Tryz.func5 Tryz.ntmps5 rfl rfl fun hp=>?_
 all_goals exact uU
theorem Eh(x0:List Dt.ag)(x1:Dt.dm)(h0:¬ aG aL x0 1048576<0)(h1:¬ fE x1 (aG aL x0 1048576)<0):Ctr lim Tryz.prog 5 [] [.sl false 19 (x0.map (ak false)),.agg [.sl false 1 (x1.ax.map AV.str),.sl false 3 (x1.cL.map (aj false)),.sl false 1 (x1.bt.map (bD false))]] (.v (.bool true)) [] True:=by
 have le0:=aZ aL cV x0 1048576 (by omega)
 have le1:=um x1 (aG aL x0 1048576) (by omega)
 have c0:=fJ cV mW x0 1 1048576 (by omega) (by omega)
 have d0:=bG ib x0 1
 have c1:=Cp x1 ((mkL ct x0 1).2) (aG aL x0 1048576) (by omega) (by omega)
 have d1:=Dg x1 ((mkL ct x0 1).2)
 simp only [oh] at c1 d1
 have hwS:=Ad (l:=x0) (r:=1048576) (by omega) (by omega)
 have hwf:=Jj (w:=x1) (r:=aG aL x0 1048576) (by omega) (by omega) (by omega)
 have hw1:=hwf.1
 have hw2:=hwf.2
 have hnl:=Cq (x:=x1) (r:=aG aL x0 1048576) (by omega) (by omega) (by omega)
 have cr:=Rg x0 (w:=x1) hw1
 have dr:=bG dO (oR x0 x1) 1
 have zB:decide ((mkL aT (oR x0 x1) 1).2<0)=false:=decide_eq_false (by omega)
 have hneg:decide ((mkL eJ x1.bt ((mkL aT x1.cL ((mkL ay x1.ax ((mkL ct x0 1).2)).2)).2)).2<0)=false:=decide_eq_false (by omega)
 refine Ctr.bd Tryz.func5 Tryz.ntmps5 rfl rfl fun hp=>?_
 (repeat' first|(with_reducible first|(refine X fun hs=>?_)|refine Z ?_|refine Y ?_|(refine hK _ _ ?_;clear hK K)|refine And.intro ?_ ?_|exact Ct|intro (K:_->_->Prop) hK|(refine gI fun hg=>?_;try simp only [hC,reduceCtorEq] at hg;try simp only [hg]))|(refine AW.i rfl (fun h=>?_) (fun h=>?_)<;>try simp only [hC,reduceCtorEq] at h)|((with_reducible refine E ?_;repeat refine Y ?_);refine eF rfl ?_)|simp (disch:=omega) only [go_sem,hneg,zB]|(with_reducible intro hg;try simp only [hC,reduceCtorEq] at hg)|exact Cl|fail)
 all_goals exact hw2 _ (by assumption)
theorem Eg(x0:List Dt.ag)(x1:Dt.dm):tT Tryz.prog 5 [.sl false 19 (x0.map (ak false)),pF false x1]:=by
 by_cases h0:aG aL x0 1048576<0
 ·exact .raw (CB x0 x1 h0) trivial
 have le0:=aZ aL cV x0 1048576 (by omega)
 by_cases h1:fE x1 (aG aL x0 1048576)<0
 ·exact .raw (CA x0 x1 h0 h1) trivial
 have le1:=um x1 (aG aL x0 1048576) (by omega)
 exact .fit ⟨eM (f:=aL) cV x0 1048576 (by omega) (by omega) (by omega) fun y hy r' p q s=>vo y r' p q s,IQ x1 (aG aL x0 1048576) (by omega) (by omega) (by omega),trivial⟩ (Eh x0 x1 h0 h1) trivial
end Go.Proofs
