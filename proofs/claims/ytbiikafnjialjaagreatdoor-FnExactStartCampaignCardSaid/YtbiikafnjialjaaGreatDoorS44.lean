/- Part of a proof. -/
import Derived.Test.YtbiikafnjialjaaGreatDoorS42
import Derived.Test.YtbiikafnjialjaaGreatDoorS43
set_option linter.all false
set_option maxRecDepth 20000
set_option maxHeartbeats 4000000
open Go.Proofs.Tryz
open List
namespace Go.Proofs
open Go.Ab Go.Dt
attribute [go_sem] getElem?_nil aS bk Al BS tN sY Df He bD
theorem wI(x0:List Dt.dx)(x1:Dt.iC)(h0:aJ da x0 1048576<0):Ctr iF prog 6 [] [.ab 15 cn x0,.agg [.ab 3 aR x1.aL,.ab 4 aX x1.ba]] (.ac true) [] True:=by
 refine Ctr.bd func6 ntmps6 λhp=>?_
 all_goals exact uU
theorem wH(x0:List Dt.dx)(x1:Dt.iC)(h0:¬aJ da x0 1048576<0)(h1:kP x1 (aJ da x0 1048576)<0):Ctr iF prog 6 [] [.ab 15 cn x0,.agg [.ab 3 aR x1.aL,.ab 4 aX x1.ba]] (.ac true) [] True:=by
 have le0:=bh da lE x0 1048576 Um;refine Ctr.bd func6 ntmps6 λhp=>?_
 all_goals exact uU
theorem xl(x0:List Dt.dx)(x1:Dt.iC)(h0:¬aJ da x0 1048576<0)(h1:¬kP x1 (aJ da x0 1048576)<0):Ctr lim prog 6 [] [.ab 15 cn x0,.agg [.ab 3 aR x1.aL,.ab 4 aX x1.ba]] (.ac true) [] True:=by
 have le0:=bh da lE x0 1048576 Um
 have le1:=Dz x1 (aJ da x0 1048576) Um
 have c0:=fZ lE Fp x0 1 1048576 Um Um
 have d0:=bJ nP x0 1
 have c1:=J7 x1 ((mkL fB x0 1).2) (aJ da x0 1048576) Um Um
 have d1:=LG x1 ((mkL fB x0 1).2);simp only[wL]at c1 d1;have hpf:=Mg (x:=x1) (r:=aJ da x0 1048576) Um Um Um
 have hft:=hpf.1
 have hps:=hpf.2
 have hdv:=Qt (l:=x0) (r:=1048576) Um Um Um
 have hdl:=wO (f:=da) (l:=x0) (r:=1048576) Um
 have cr:=UO x1.aL x1.ba (l:=x0) Um
 have dr:=bJ jo (iD x1.aL x1.ba x0 []).1.eu 1
 have YS:decide ((mkL dJ (iD x1.aL x1.ba x0 []).1.eu 1).2<0)=false:=decide_eq_false Um
 have hneg:decide ((mkL dU x1.ba ((mkL cD x1.aL ((mkL fB x0 1).2)).2)).2<0)=false:=decide_eq_false Um;refine Ctr.bd func6 ntmps6 λhp=>?_
 (repeat' first|(with_reducible first|(refine X λhs=>?_)|refine Z ?_|refine Y ?_|(refine hK _ _ ?_;clear hK K)|refine And.intro ?_ ?_|exact Ct|intro(K:_->_->Prop) hK|(refine gI λhg=>?_;try simp only[hC,reduceCtorEq]at hg;try simp only[hg]))|(refine AW.i rfl (λh=>?_) (λh=>?_)<;>try simp only[hC,reduceCtorEq]at h)|((with_reducible refine E ?_;repeat refine Y ?_);refine eF rfl ?_)|simp(disch:=omega)only[go_sem,hneg,YS]|(with_reducible intro hg;try simp only[hC,reduceCtorEq]at hg)|exact Cl|fail)
 all_goals first|exact(hps _ hg).1|exact(hps _ hg).2|exact(hdv _ hg).1|exact(hdv _ hg).2
def xk(x0:List Dt.dx)(x1:Dt.iC):AE prog 6 [.ab 15 cn x0,yF false x1]:=by
 by_cases h0:aJ da x0 1048576<0
 ·exact .raw (wI x0 x1 h0) trivial
 have le0:=bh da lE x0 1048576 Um;by_cases h1:kP x1 (aJ da x0 1048576)<0
 ·exact .raw (wH x0 x1 h0 h1) trivial
 have le1:=Dz x1 (aJ da x0 1048576) Um;exact .fit ⟨fg (f:=da) lE x0 1048576 Um Um Um λy hy r' p q s=>NM y r' p q s,TD x1 (aJ da x0 1048576) Um Um Um,trivial⟩ (xl x0 x1 h0 h1) trivial
