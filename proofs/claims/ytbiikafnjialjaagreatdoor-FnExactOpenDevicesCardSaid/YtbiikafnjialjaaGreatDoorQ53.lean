/- Part of a proof. -/
import Derived.Test.YtbiikafnjialjaaGreatDoorQ52
set_option linter.all false
set_option maxRecDepth 20000
set_option maxHeartbeats 4000000
open Go.Proofs.Tryz
open List
namespace Go.Proofs
open Go.Ab Go.Dt
attribute [go_sem] getElem?_nil aV bu oC pK nZ pJ D0 H8 bL
theorem zx(x0:Dt.fB)(h0:iL x0 1048576<0):Ctr fN prog 7 [] [.agg [.ab 3 aK x0.aY.aC,.ab 4 aP x0.aY.aO,.ab 15 cm x0.bz,.aa x0.bQ.dx,.ab 3 bO x0.bQ.ck,.aa x0.eU.dx,.ab 3 bO x0.eU.ck,.aa x0.pI]] (.ac true) [] True:=by
 refine Ctr.bd func7 ntmps7 λhp=>?_
 all_goals exact uU
theorem AO(x0:Dt.fB)(h0:¬iL x0 1048576<0):Ctr lim prog 7 [] [.agg [.ab 3 aK x0.aY.aC,.ab 4 aP x0.aY.aO,.ab 15 cm x0.bz,.aa x0.bQ.dx,.ab 3 bO x0.bQ.ck,.aa x0.eU.dx,.ab 3 bO x0.eU.ck,.aa x0.pI]] (.ac true) [] True:=by
 have le0:=xj x0 1048576 Yt
 have c0:=E6 x0 1 1048576 Yt Yt
 have d0:=FZ x0 1;simp only[qo]at c0 d0;have hmf:=TC h0
 have hft:=L7 hmf.1
 have hps:=xC hmf.1
 have hdv:=hmf.2.1
 have cr:=Y3 x0.aY.aC x0.aY.aO hmf.2.2
 have dr:=bD iD (oz x0.aY.aC x0.aY.aO x0.bz) 1
 have e1:(mkL ay (oz x0.aY.aC x0.aY.aO x0.bz) 1).2=1+(oz x0.aY.aC x0.aY.aO x0.bz).length:=by rw[yM]
 have LS:decide ((mkL ay (oz x0.aY.aC x0.aY.aO x0.bz) 1).2<0)=false:=decide_eq_false Yt
 have hneg:decide ((mkL eu x0.eU.ck ((mkL eu x0.bQ.ck ((mkL dQ x0.bz ((mkL cg x0.aY.aO ((mkL bq x0.aY.aC 1).2)).2)).2)).2)).2<0)=false:=decide_eq_false Yt;refine Ctr.bd func7 ntmps7 λhp=>?_
 (repeat' first|(with_reducible first|(refine X λhs=>?_)|refine Z ?_|refine Y ?_|(refine hK _ _ ?_;clear hK K)|refine And.intro ?_ ?_|exact Ct|intro(K:_->_->Prop) hK|(refine gI λhg=>?_;try simp only[hC,reduceCtorEq]at hg;try simp only[hg]))|(refine AW.i rfl (λh=>?_) (λh=>?_)<;>try simp only[hC,reduceCtorEq]at h)|((with_reducible refine E ?_;repeat refine Y ?_);refine eF rfl ?_)|simp(disch:=omega)only[go_sem,hneg,LS]|(with_reducible intro hg;try simp only[hC,reduceCtorEq]at hg)|exact Cl|fail)
 all_goals first|exact(hps _ h).1|exact(hps _ h).2|exact(hdv _ h).1|exact(hdv _ h).2|exact(hps _ hg).1|exact(hps _ hg).2|exact(hdv _ hg).1|exact(hdv _ hg).2
def AL(x0:Dt.fB):wU prog 7 [rC false x0]:=by
 by_cases h0:iL x0 1048576<0
 ·exact .raw (zx x0 h0) trivial
 have le0:=xj x0 1048576 Yt;exact .fit ⟨L9 x0 1048576 Yt Yt Yt,trivial⟩ (AO x0 h0) trivial
