/- Part of a proof. -/
import Derived.Test.YtbiikafnjialjaaGreatDoorS17
import Derived.Test.YtbiikafnjialjaaGreatDoorS19
set_option linter.all false
set_option maxRecDepth 20000
set_option maxHeartbeats 4000000
open Go.Proofs.Tryz
open List
namespace Go.Proofs
open Go.Ab Go.Dt
instance(l:List ag):xX lim prog 196 [.ab 19 ak l] (.ab 19 ak (dk l)) (bR l<=1048576) :=
 ⟨(aT 196),λc=>by
  have:=((eQ l).pure c).frz
  simpa only[AV.frz,AV.cl,iE,cond_true]using this⟩
end Go.Proofs
namespace Go.Dt
open Go.Ab
def fD{α:Type}{f:α->AV}:∀(l:List α),(∀x∈l,(f x).closed=true)->AV.cL (l.map f)=true
 | [],_=>rfl
 | x::xs,h=>by simp only[map_cons,AV.cL,h x Xp,fD xs λy hy=>h y (by simp[hy]),Bool.true_and]
def mJ(l:List Str):AV.cL (l.map AV.str)=true:=fD l λ_ _=>rfl
def Ir(o:Bool)(l:List dV):(l.map (aU o)).all (AV.elem 2)=true:=dX (λ_=>rfl) l
def Iq(o:Bool)(l:List dV):((l.map (aU o)).flatMap AV.cells).all AV.one=true:=eD (λ_=>rfl) l
def NP(x:dV):(aU true x).closed=true:=by simp only[aU,AV.closed,AV.cL,mJ,Bool.true_and,Bool.and_true]
def jm(l:List dV):AV.cL (l.map (aU true))=true:=fD l λx _=>NP x
def Lg(o:Bool)(l:List fH):(l.map (cU o)).all (AV.elem 2)=true:=dX (λ_=>rfl) l
def Ld(o:Bool)(l:List fH):((l.map (cU o)).flatMap AV.cells).all AV.one=true:=eD (λ_=>rfl) l
def Qo(x:fH):(cU true x).closed=true:=by simp only[cU,AV.closed,AV.cL,mJ,jm,Bool.true_and,Bool.and_true]
def lj(l:List fH):AV.cL (l.map (cU true))=true:=fD l λx _=>Qo x
def NS(o:Bool)(l:List cu):(l.map (bS o)).all (AV.elem 2)=true:=dX (λ_=>rfl) l
def NR(o:Bool)(l:List cu):((l.map (bS o)).flatMap AV.cells).all AV.one=true:=eD (λ_=>rfl) l
def TH(x:cu):(bS true x).closed=true:=by simp only[bS,AV.closed,AV.cL,mJ,jm,lj,Bool.true_and,Bool.and_true]
def mX(l:List cu):AV.cL (l.map (bS true))=true:=fD l λx _=>TH x
def Li(o:Bool)(l:List GStep):(l.map (bg o)).all (AV.elem 2)=true:=dX (λ_=>rfl) l
def Lh(o:Bool)(l:List GStep):((l.map (bg o)).flatMap AV.cells).all AV.one=true:=eD (λ_=>rfl) l
def Qp(x:GStep):(bg true x).closed=true:=by simp only[bg,AV.closed,AV.cL,mJ,jm,lj,mX,Bool.true_and,Bool.and_true]
def mW(l:List GStep):AV.cL (l.map (bg true))=true:=fD l λx _=>Qp x
def Iv(o:Bool)(l:List bH):(l.map (bt o)).all (AV.elem 6)=true:=dX (λ_=>rfl) l
def Iu(o:Bool)(l:List bH):((l.map (bt o)).flatMap AV.cells).all AV.one=true:=eD (λ_=>rfl) l
def NQ(x:bH):(bt true x).closed=true:=by simp only[bt,AV.closed,AV.cL,mJ,jm,lj,mX,mW,Bool.true_and,Bool.and_true]
def nD(l:List bH):AV.cL (l.map (bt true))=true:=fD l λx _=>NQ x
def Ll(o:Bool)(l:List ah):(l.map (ai o)).all (AV.elem 3)=true:=dX (λx=>by rw[bO];rfl) l
def Lj(o:Bool)(l:List ah):((l.map (ai o)).flatMap AV.cells).all AV.one=true:=eD (λx=>by rw[bO];rfl) l
def Hs(x:ah):(ai true x).closed=true:=by rw[bO];simp only[AV.closed,AV.cL,mJ,jm,lj,mX,mW,nD,fD x.af (λy hy=>Hs y),Bool.true_and,Bool.and_true]
termination_by SizeOf.sizeOf x
decreasing_by have:=sizeOf_lt_of_mem hy;cases x;simp[ah.af]at *;omega
def qa(l:List ah):AV.cL (l.map (ai true))=true:=fD l λx _=>Hs x
def Ln(o:Bool)(l:List aZ):(l.map (aN o)).all (AV.elem 7)=true:=dX (λx=>by rw[dD];rfl) l
def Lm(o:Bool)(l:List aZ):((l.map (aN o)).flatMap AV.cells).all AV.one=true:=eD (λx=>by rw[dD];rfl) l
def Ht(x:aZ):(aN true x).closed=true:=by rw[dD];simp only[AV.closed,AV.cL,mJ,jm,lj,mX,mW,nD,qa,fD x.af (λy hy=>Ht y),Bool.true_and,Bool.and_true]
termination_by SizeOf.sizeOf x
decreasing_by have:=sizeOf_lt_of_mem hy;cases x;simp[aZ.af]at *;omega
def sZ(l:List aZ):AV.cL (l.map (aN true))=true:=fD l λx _=>Ht x
def Hr(o:Bool)(l:List ag):(l.map (ak o)).all (AV.elem 19)=true:=dX (λx=>by rw[dC];rfl) l
def Hq(o:Bool)(l:List ag):((l.map (ak o)).flatMap AV.cells).all AV.one=true:=eD (λx=>by rw[dC];rfl) l
def BU(x:ag):(ak true x).closed=true:=by rw[dC];simp only[AV.closed,AV.cL,mJ,jm,lj,mX,mW,nD,qa,sZ,fD x.af (λy hy=>BU y),Bool.true_and,Bool.and_true]
termination_by SizeOf.sizeOf x
decreasing_by have:=sizeOf_lt_of_mem hy;cases x;simp[ag.af]at *;omega
def tO(l:List ag):AV.cL (l.map (ak true))=true:=fD l λx _=>BU x
def Dh(o:Bool)(l:List aD):(l.map (aR o)).all (AV.elem 3)=true:=dX (λ_=>rfl) l
def Dg(o:Bool)(l:List aD):((l.map (aR o)).flatMap AV.cells).all AV.one=true:=eD (λ_=>rfl) l
def Hn(x:aD):(aR true x).closed=true:=by simp only[aR,AV.closed,AV.cL,mJ,jm,lj,mX,mW,nD,qa,sZ,tO,Bool.true_and,Bool.and_true]
def wG(l:List aD):AV.cL (l.map (aR true))=true:=fD l λx _=>Hn x
def EE(o:Bool)(l:List bp):(l.map (aX o)).all (AV.elem 4)=true:=dX (λ_=>rfl) l
def ED(o:Bool)(l:List bp):((l.map (aX o)).flatMap AV.cells).all AV.one=true:=eD (λ_=>rfl) l
def Ip(x:bp):(aX true x).closed=true:=by simp only[aX,AV.closed,AV.cL,mJ,jm,lj,mX,mW,nD,qa,sZ,tO,wG,Bool.true_and,Bool.and_true]
def Ho(l:List bp):AV.cL (l.map (aX true))=true:=fD l λx _=>Ip x
def OG(l:List Str):(l.map AV.str).all AV.one=true:=by have:=IG l;rwa [G9]at this
attribute [go_sem] Ir Iq jm Lg Ld lj NS NR mX Li Lh mW Iv Iu nD Ll Lj qa Ln Lm sZ Hr Hq tO Dh Dg wG EE ED Ho OG mJ
end Go.Dt
namespace Go.Proofs
open Go.Ab Go.Dt
section
attribute [local go_sem] bD aS eI eH fY iE
attribute [-instance] eQ
instance(s:List ag)(nm:Str):Ctr lim prog 214 [] [.ab 19 ak s,.sl false 1 [.str nm]] (.tup [ak false (at_ (dk s) (idx (nmP nm) (dk s)).toNat),.ac true]) [] (0<=idx (nmP nm) (dk s)/\bR s<=1048576):=by
 refine Ctr.bd func214 ntmps214 λhp=>?_;have gOn:=bI.on;obtain⟨hi,hc⟩:=hp;have hj:=fV (p:=nmP nm) (dk s);refine AW.f1 0 λhf=>?_
 (refine bU1 ?_;intro h h h)
 rename_i a b;refine AW.aw [0,14] [1,4,5,6,12,13] (λm xs o=>(xs=[.ab 19 ak s,.aa 0]/\o=[(b,some cZe),(a,some cZe)]/\m=1)\/(xs=[.sl false 19 ((at_ (dk s) (idx (nmP nm) (dk s)).toNat).af.map (ak false)),.aa 1]/\o=[(b,some (cSc (at_ (dk s) (idx (nmP nm) (dk s)).toNat))),(a,some cZe)]/\m=0)) 1 [(b,some cZe),(a,some cZe)] gO (.inl ⟨rfl,rfl,rfl⟩) ?_;rintro m xs o (⟨rfl,rfl,rfl⟩|⟨rfl,rfl,rfl⟩)
 ·(refine vU1 ?_;intro h h h)
  refine⟨.str nm,λ_=>⟨daa,rfl,rfl⟩,?_⟩;refine vU1 ?_;refine h _ _ ?_
  (refine vU1 ?_;intro h)
  exact⟨_,_,_,Nat.zero_lt_one,.inr ⟨rfl,rfl,rfl⟩,rfl,gO⟩
 ·(refine vU1 ?_;intro h)
  rfl
end
section
attribute [local go_sem] bD aS eI eH
theorem xC(l:List ag)(n:Str):Ctr lim prog 254 [] [.ab 19 ak l,.str n] (.tup [ak false (at_ l (idx (fq n) l).toNat),.ac true]) [] (0<=idx (fq n) l):=by
 refine Ctr.bd func254 ntmps254 λhp=>?_;have gOn:=bI.on;refine AW.f1 0 λhf=>?_
 (refine bU1 ?_;intro h)
 refine AW.aw [10] [1,4,8,9] (λm xs o=>∃k:Nat,xs=[.aa k]/\o=[(h,some cZe)]/\m=l.length - k/\k<=l.length/\∀x∈l.take k,fq n x=false) l.length [(h,some cZe)] gO ⟨0,rfl,rfl,rfl,Um,Xp⟩ ?_;rintro m xs o ⟨k,rfl,rfl,rfl,hk,hR⟩
 (refine vU3 ?_ ?_ ?_<;>with_reducible repeat intro h)
 ·rw[gD (p:=fq n) baa hR (by simp[fq];grind)];try rfl
 ·exact⟨_,[_],_,Um,⟨k+1,rfl,rfl,rfl,Um,bL baa hR (by simp[fq];grind)⟩,rfl,gO⟩
 ·exact absurd hp (by rw[jh baa hR];decide)
theorem GL(l:List ag)(n:Str):Ctr lim prog 254 [] [.ab 19 ak l,.str n] (.tup [.agg cZe,.ac false]) [] (idx (fq n) l<0):=by
 refine Ctr.bd func254 ntmps254 λhp=>?_;have gOn:=bI.on;refine AW.f1 0 λhf=>?_
 (refine bU1 ?_;intro h)
 refine AW.aw [10] [1,4,8,9] (λm xs o=>∃k:Nat,xs=[.aa k]/\o=[(h,some cZe)]/\m=l.length - k/\k<=l.length/\∀x∈l.take k,fq n x=false) l.length [(h,some cZe)] gO ⟨0,rfl,rfl,rfl,Um,Xp⟩ ?_;rintro m xs o ⟨k,rfl,rfl,rfl,hk,hR⟩
 (refine vU2 ?_ ?_<;>with_reducible repeat intro h)
 ·exact absurd hp (by rw[gD (p:=fq n) baa hR (by simp[fq];grind)];omega)
 ·exact⟨_,[_],_,Um,⟨k+1,rfl,rfl,rfl,Um,bL baa hR (by simp[fq];grind)⟩,rfl,gO⟩
theorem IU:∀(n:Nat) (l:List ag) (r:Int),Ctr lim prog 174 [] [.ab 19 ak l,.aa r] (.aa (gG l (r - l.length))) [] (SizeOf.sizeOf l<n/\bR l<=1048576/\0<=r/\r<=1048576)
 | 0,l,r=>⟨(aT 174),λh=>absurd h.1 (Nat.not_lt_zero _)⟩
 | n+1,l,r=>by
  have ih:=IU n;refine Ctr.bd func174 ntmps174 λhp=>?_;have hl:=nZ l;refine vU1 ?_;refine AW.aw [1,5] [0] (λm xs o=>∃(k:Nat) (q:Int),xs=[.aa q,.aa k]/\o=[]/\m=l.length - k/\k<=l.length/\-4611686018427387904<=q/\q<=1048576/\gG (l.drop k) q=gG l (r - l.length)) l.length [] trivial ⟨0,r - l.length,?_,rfl,rfl,?_,?_,?_,rfl⟩ ?_
  ·rfl
  ·omega
  ·omega
  ·omega
  rintro m xs o ⟨k,q,rfl,rfl,rfl,hk,h0,h1,hR⟩
  have hw:k<l.length->SizeOf.sizeOf (at_ l k).af<n/\bR (at_ l k).af<=1048576:=λh=>by
   have:=rX (at_mem h);have:=ag.dA (at_mem h);omega
  have h2:=nZ (at_ l k).af
  have h3:=zW (at_ l k).af (q - (at_ l k).af.length)
  (refine vU2 ?_ ?_<;>intro h)
  ·have h4:-4611686018427387904<=gG (at_ l k).af (q - (at_ l k).af.length):=zX _ _ (by have:=hw h.1;omega) (by have:=hw h.1;omega);refine⟨_,[_,_],[],Um,⟨k+1,_,rfl,rfl,rfl,Um,h4,Um,?_⟩,rfl,trivial⟩;rw[<- hR,Pu h.1,if_neg Um]
  ·rw[<- hR];by_cases e:k<l.length
   ·rw[p6 _ (h e)]
   ·rw[cT e,gG]
instance(l:List ag)(r:Int):Ctr lim prog 174 [] [.ab 19 ak l,.aa r] (.aa (gG l (r - l.length))) [] (bR l<=1048576/\0<=r/\r<=1048576):=⟨(aT 174),λc=>(IU (SizeOf.sizeOf l+1) l r).out ⟨Nat.lt_succ_self _,c⟩⟩
instance(l:List Str):Ctr lim prog 312 [] [.al l] (.ac (cm l && decide (l.length<=3))) [] True:=by
 refine Ctr.bd func312 ntmps312 λhp=>?_;have gOn:=bI.on;refine AW.f1 0 λhf=>?_;refine vU1 ?_;refine AW.aw [3] [0] (λm xs o=>∃k:Nat,xs=[.aa k]/\o=[]/\m=l.length - k/\k<=l.length/\cg (λj=>!cont (l.take j) (at_ l j)) k=true) l.length [] trivial ⟨0,?_,rfl,rfl,?_,rfl⟩ ?_
 ·rfl
 ·omega
 rintro m xs o ⟨k,rfl,rfl,rfl,hk,hQ⟩;refine vK1 ?_;refine AW.c (λh=>?_) λh=>?_
 ·refine vK1 ?_;refine AW.aw [4] [0,3] (λm xs o=>∃j:Nat,xs=[.aa j]/\o=[]/\m=k - j/\j<=k/\∀y∈(l.take k).take j,(y == at_ l k)=false) k [] trivial ⟨0,?_,rfl,rfl,?_,?_⟩ ?_
  ·rfl
  ·omega
  ·simp
  rintro m xs o ⟨j,rfl,rfl,rfl,hj,hS⟩
  (refine vU3 ?_ ?_ ?_<;>with_reducible repeat intro h)
  ·rw[show cm l=false from cM baa (by rw[vZ baa baa h];try rfl)];try rfl
  ·exact⟨_,[_],[],Um,⟨j+1,rfl,rfl,rfl,Um,bL (by rw[length_take];omega) hS (by rw[Dq baa];simpa using h)⟩,rfl,trivial⟩
  ·rw[show j=k by omega,take_take,Nat.min_self]at hS;exact⟨_,[_],[],Um,⟨k+1,rfl,rfl,rfl,Um,cf hQ (by rw[tf hS];try rfl)⟩,rfl,trivial⟩
 ·refine vU1 ?_;rw[show k=l.length by omega]at hQ;rw[show cm l=true from hQ,Bool.true_and,show decide ((l.length:Int)<=3)=decide (l.length<=3)from decide_eq_decide.2 Um]
end
instance(x:dq)(s:Str):Ctr lim prog 268 [] [.agg [.aa x.aj,.ab 2 aU x.ay,.al x.aB,.str x.aY,.str x.aF],.str s] (.ac (isVal x s)) [] (s.length<=1048576):=by
 refine Ctr.bd func268 ntmps268 λhp=>?_;refine vU1 ?_
 all_goals first|rfl|(rw[isVal];done)
instance(x:dq)(s:Str):Ctr lim prog 262 [] [.agg [.aa x.aj,.ab 2 aU x.ay,.al x.aB,.str x.aY,.str x.aF],.str s] (.ac (isVal x s)) [] (s.length<=1048576):=by
 refine Ctr.bd func262 ntmps262 λhp=>?_;refine vU1 ?_
 all_goals first|rfl|(rw[isVal];done)
end Go.Proofs
namespace Go.Dt
open Go Go.Ab
def kN{α:Type}(l:List α):l.isEmpty=decide (l.length=0):=by cases l<;>simp
section
variable {x : ag}
def OP(h:(((((((¬x.aj=3/\¬x.aj=4)/\nI x.fType=false\/¬x.aj=2/\0<((x.ax.length+x.aH.length:Nat):Int))\/¬x.aj=3/\((¬x.bw=[]\/x.cX=true)\/x.ez=true))\/(¬x.aj=3/\¬x.aj=5)/\x.dm=true)\/¬x.aj=1/\x.bQ=true)\/(¬x.aj=2/\¬x.aj=4)/\(¬x.iH=0\/¬x.iI=0))\/dK x.aj=false/\0<(x.cE.length:Int))\/(x.aj=3\/x.aj=4)/\0<(x.af.length:Int)):kX x=false:=by rw[kX,fj,kN x.ax,kN x.aH,kN x.cE,kN x.af];rcases h with((((((h|h)|h)|h)|h)|h)|h)|h<;>grind
def LX(h:(((((((¬x.aj=3/\¬x.aj=4->nI x.fType=true)/\(¬x.aj=2->((x.ax.length+x.aH.length:Nat):Int)<=0))/\(¬x.aj=3->(x.bw=[]/\x.cX=false)/\x.ez=false))/\(¬x.aj=3/\¬x.aj=5->x.dm=false))/\(¬x.aj=1->x.bQ=false))/\(¬x.aj=2/\¬x.aj=4->x.iH=0/\x.iI=0))/\(dK x.aj=false->(x.cE.length:Int)<=0))/\(x.aj=3\/x.aj=4->(x.af.length:Int)<=0)):kX x=true:=by rw[kX,fj,kN x.ax,kN x.aH,kN x.cE,kN x.af];obtain⟨⟨⟨⟨⟨⟨⟨h1,h2⟩,h3⟩,h4⟩,h5⟩,h6⟩,h7⟩,h8⟩:=h;simp only[Bool.and_eq_true,Bool.or_eq_true,decide_eq_true_eq,Bool.not_eq_true'];refine⟨⟨⟨⟨⟨⟨⟨?_,?_⟩,?_⟩,?_⟩,?_⟩,?_⟩,?_⟩,?_⟩<;>grind
def Ze(n:Nat):decide (1<=(n:Int))=decide (1<=n):=decide_eq_decide.2 Um
def Ru(n:Nat):decide ((n:Int)<=3)=decide (n<=3):=decide_eq_decide.2 Um
def abj(h:x.aj=1\/x.aj=5\/x.aj=6):true=jb x:=by rw[jb,if_pos h]
def abo(h:x.aj=2):(decide (1<=(x.ax.length:Int)) && decide ((x.ax.length:Int)<=3) && cm x.ax && names x.ax && decide ((x.aH.length:Int)<=3) && cm x.aH && names x.aH && oW x)=jb x:=by rw[jb,if_neg Um,if_pos h,Ze,Ru,Ru]
def abn(h:x.aj=3):(isType dM x.fType && !(x.cX && (x.dm || decide (0<(x.bP.length:Int)))) && (x.cX && isVal x.fType x.bw || !x.cX && x.bw == []))=jb x:=by rw[jb,if_neg Um,if_neg Um,if_pos h,rW,qN,mz];rfl
def abm(h:x.aj=4):(isType dM x.fType && oW x)=jb x:=by rw[jb,if_neg Um,if_neg Um,if_neg Um,if_pos h];rfl
def abl(h:x.aj=7):((x.bP.length:Int) == 0 && (x.af.length:Int) == 0)=jb x:=by rw[jb,if_neg Um,if_neg Um,if_neg Um,if_neg Um,if_pos h,kY,kY]
def abk(h1:¬x.aj=1)(h5:¬x.aj=5)(h6:¬x.aj=6)(h2:¬x.aj=2)(h3:¬x.aj=3)(h4:¬x.aj=4)(h7:¬x.aj=7):false=jb x:=by rw[jb,if_neg Um,if_neg h2,if_neg h3,if_neg h4,if_neg h7]
end
end Go.Dt
namespace Go.Proofs
open Go.Ab Go.Dt
attribute [local go_sem] bD aS eI eH
instance(x:ag):Ctr lim prog 253 [] [.agg (cSc x)] (.ac (lX x)) [] (eB x.bP<=1048576/\eB x.cE<=1048576/\x.bw.length<=1048576):=by
 refine Ctr.bd func253 ntmps253 λhp=>?_;have gOn:=bI.on;obtain⟨hw,hm,hd⟩:=hp;refine AW.f1 0 λhf=>?_;have hfk:x.ax.length+x.aH.length<=4294967296000:=by omega
 clear hf;refine vK1 ?_;refine AW.c (λh=>?_) λh=>?_
 ·refine vU1 ?_;refine congrArg (λb=>AV.ac b) ?_;rw[lX,nV];grind
 have hbase:nV x=true:=by rw[nV];grind
 clear h;refine vN1 ?_;refine Z ?_;intro K hK;simp only[append_eq,cons_append,nil_append];refine vN1 ?_;refine AW.c (λh=>?_) λh=>?_
 ·refine vU1 ?_;refine congrArg (λb=>AV.ac b) ?_;rw[lX,hbase,Bool.true_and,OP h];try rfl
 have hsh:=LX h;clear h
 (refine vU ?_;with_reducible repeat' first|exact Le.l|apply Sw|intro h)
 all_goals refine congrArg (λb=>AV.ac b) ?_
 all_goals rw[lX,hbase,hsh,Bool.true_and,Bool.true_and]
 all_goals first|exact abj Um|exact abo baa|exact abn baa|exact abm baa|exact abl baa|exact abk baa baa baa baa baa baa baa
end Go.Proofs
namespace Go.Dt
open Go Go.Ab
section
variable {l : List ag} {k : Nat} {kind : Int} {bd : Bool} {x : ag}
def EM(h:k<l.length)(hR:kA (l.drop k) kind bd=kA l kind bd)(e:jD kind bd (at_ l k)=false):kR l kind bd=false:=by rw[KJ h,e]at hR;rw[kR,<- hR];simp
def VL(h:k<l.length)(hR:kA (l.drop k) kind bd=kA l kind bd)(e:kR (at_ l k).af (at_ l k).aj (bd || !(at_ l k).bP.isEmpty || decide ((at_ l k).aj=6))=false):kR l kind bd=false:=by rw[KJ h]at hR;rw[kR]at e;rw[kR,<- hR,e];simp
def Td(h:k<l.length)(hR:kA (l.drop k) kind bd=kA l kind bd)(e1:jD kind bd (at_ l k)=true)(e2:kR (at_ l k).af (at_ l k).aj (bd || !(at_ l k).bP.isEmpty || decide ((at_ l k).aj=6))=true):kA (l.drop (k+1)) kind bd=kA l kind bd:=by rw[KJ h,e1]at hR;rw[kR]at e2;rw[<- hR,e2];simp
def VM(hd:mh l kind=true)(h:¬k<l.length)(hR:kA (l.drop k) kind bd=kA l kind bd):kR l kind bd=true:=by rw[cT h,kA]at hR;rw[kR,<- hR,hd];rfl
def Jf{j:Nat}(h:j<x.ax.length)(e:pF x.af (at_ x.ax j)=false):jD kind bd x=false:=by rw[jD,jL h e];simp
def Sr{j:Nat}(h:j<x.aH.length)(e:tv x.af (at_ x.aH j)=false):jD kind bd x=false:=by rw[jD,jL h e];simp
def Sq{i j:Nat}(e:(lX x && !decide (x.aj=7) && (decide (x.aj=6) == decide (kind=5)) && !(x.cX && bd))=true)(h1:¬i<x.ax.length)(e1:∀y∈x.ax.take i,(!pF x.af y)=false)(h2:¬j<x.aH.length)(e2:∀y∈x.aH.take j,(!tv x.af y)=false):jD kind bd x=true:=by rw[jD,e,fG h1 e1,fG h2 e2];rfl
def Vo(e:(lX x && !decide (x.aj=7) && (decide (x.aj=6) == decide (kind=5)) && !(x.cX && bd))=false):jD kind bd x=false:=by rw[jD,e];rfl
end
end Go.Dt
namespace Go.Proofs
open Go.Ab Go.Dt
section
attribute [local go_sem] bD aS eI eH iE
theorem Jv:∀(n:Nat) (l:List ag) (kind:Int) (bd:Bool),Ctr lim prog 195 [] [.ab 19 ak l,.aa kind,.ac bd] (.ac (kR l kind bd)) [] (SizeOf.sizeOf l<n/\wtS l<=1048576)
 | 0,l,_,_=>⟨(aT 195),λh=>absurd h.1 (Nat.not_lt_zero _)⟩
 | n+1,l,kind,bd=>by
  have ih:=Jv n;refine Ctr.bd func195 ntmps195 λhp=>?_;have gOn:=bI.on;obtain⟨hs,hb⟩:=hp;have hc:=gV l;refine AW.f1 0 λhf=>?_;refine vK1 ?_;refine AW.c (λh=>?_) λh=>?_
  ·refine vU1 ?_;refine congrArg (λb=>AV.ac b) ?_;rw[kR,mh];grind
  refine vK1 ?_;have hd:mh l kind=true:=by rw[mh];grind
  clear h;refine AW.aw [38] [0,1,2,36,37] (λm xs o=>∃k:Nat,xs=[.aa k]/\o=[]/\m=l.length - k/\k<=l.length/\kA (l.drop k) kind bd=kA l kind bd) l.length [] trivial ⟨0,?_,rfl,rfl,?_,rfl⟩ ?_
  ·rfl
  ·omega
  rintro m xs o ⟨k,rfl,rfl,rfl,hk,hR⟩;refine vK1 ?_;refine AW.c (λh=>?_) λh=>?_
  ·have hw:=Cm (at_mem h)
   have hsz:=ag.dA (at_mem h)
   have hlk:=h;clear h
   (refine vK1 ?_;intro h)
   refine AW.c (λh=>?_) λh=>?_
   ·refine vU1 ?_;rw[EM hlk hR (Vo (by grind))]
   have ho:(lX (at_ l k) && !decide ((at_ l k).aj=7) && (decide ((at_ l k).aj=6) == decide (kind=5)) && !((at_ l k).cX && bd))=true:=by grind
   clear h;refine vK1 ?_
   rename Nat=>b
   refine AW.fact 66 λab7=>?_;simp(disch:=omega)only[go_sem]at ab7;refine AW.aw [68] [0,1,2,8,36,37,38,66,67] (λm xs o=>∃j:Nat,xs=[.aa j]/\o=[(b,some (cSc (at_ l k)))]/\m=(at_ l k).ax.length - j/\j<=(at_ l k).ax.length/\∀y∈(at_ l k).ax.take j,(!pF (at_ l k).af y)=false) (at_ l k).ax.length [(b,some (cSc (at_ l k)))] gO ⟨0,rfl,rfl,rfl,Um,Xp⟩ ?_;rintro m xs o ⟨j,rfl,rfl,rfl,hj,hS⟩;refine vK1 ?_;refine AW.c (λh=>?_) λh=>?_
   ·by_cases hq:0<=idx (fq (at_ (at_ l k).ax j)) (at_ l k).af
    ·haveI:=xC (at_ l k).af (at_ (at_ l k).ax j)
     (refine vU2 ?_ ?_<;>with_reducible repeat intro h)
     ·rw[EM hlk hR (Jf baa (by rw[pF,nJ,kN];grind))]
     ·exact⟨_,[_],_,Um,⟨j+1,rfl,rfl,rfl,Um,bL baa hS (by rw[pF,nJ,kN];grind)⟩,rfl,gO⟩
    ·haveI:=GL (at_ l k).af (at_ (at_ l k).ax j)
     (refine vU1 ?_;intro h h h)
     rw[EM hlk hR (Jf baa (by rw[pF];grind))]
   have hj2:=h;clear h;refine vK1 ?_;refine AW.fact 99 λYV=>?_;simp(disch:=omega)only[go_sem]at YV;refine AW.aw [101] [0,1,2,8,36,37,38,99,100] (λm xs o=>∃i:Nat,xs=[.aa i]/\o=[(b,some (cSc (at_ l k)))]/\m=(at_ l k).aH.length - i/\i<=(at_ l k).aH.length/\∀y∈(at_ l k).aH.take i,(!tv (at_ l k).af y)=false) (at_ l k).aH.length [(b,some (cSc (at_ l k)))] gO ⟨0,rfl,rfl,rfl,Um,Xp⟩ ?_;rintro m xs o ⟨i,rfl,rfl,rfl,hi,hT⟩;refine vK1 ?_;refine AW.c (λh=>?_) λh=>?_
   ·by_cases hq:0<=idx (fq (at_ (at_ l k).aH i)) (at_ l k).af
    ·haveI:=xC (at_ l k).af (at_ (at_ l k).aH i)
     (refine vU1 ?_;intro h h h)
     exact⟨_,[_],_,Um,⟨i+1,rfl,rfl,rfl,Um,bL baa hT (by rw[tv];grind)⟩,rfl,gO⟩
    ·haveI:=GL (at_ l k).af (at_ (at_ l k).aH i)
     (refine vU1 ?_;intro h h h)
     rw[EM hlk hR (Sr baa (by rw[tv];grind))]
   have hi2:=h;clear h
   (refine vU2 ?_ ?_<;>intro h)
   ·rw[VL hlk hR (by rw[rW,qN,j6]at h;exact h)]
   ·exact⟨_,[_],_,Um,⟨k+1,rfl,rfl,rfl,Um,Td hlk hR (Sq ho hj2 hS hi2 hT) (by rw[rW,qN,j6]at h;exact h)⟩,rfl,gO⟩
  ·refine vU1 ?_;rw[VM hd h hR]
end
section
attribute [local go_sem] bD aS eI eH
def Pp{x:ag}{k:Nat}(h:k<x.ax.length)(e:rM x.af (at_ x.ax k)=false):pW x=false:=by rw[pW,jL h e];try rfl
def Po{x:ag}{k:Nat}(h:k<x.aH.length)(e:ry x.af (at_ x.aH k)=false):pW x=false:=by rw[pW,jL h e];simp
def Pq{x:ag}(h1:x.ax.all (rM x.af)=true)(h2:x.aH.all (ry x.af)=true):pW x=(nI x.fType && !x.ax.isEmpty && (cm x.ax && decide (x.ax.length<=3)) && (cm x.aH && decide (x.aH.length<=3)) && oW x && !x.cX && !x.dm && !x.bQ && !x.ez && x.bw.isEmpty):=by rw[pW,h1,h2];try rfl
instance(x:ag):Ctr lim prog 278 [] [.agg (cSc x)] (.ac (pW x)) [] True:=by
 refine Ctr.bd func278 ntmps278 λhp=>?_;have gOn:=bI.on;refine AW.f1 0 λhf=>?_;refine vU1 ?_;refine AW.aw [3] [1] (λm xs o=>∃k:Nat,xs=[.aa k]/\o=[]/\m=x.ax.length - k/\k<=x.ax.length/\∀y∈x.ax.take k,(!rM x.af y)=false) x.ax.length [] trivial ⟨0,?_,rfl,rfl,?_,?_⟩ ?_
 ·rfl
 ·omega
 ·simp
 rintro m xs o ⟨k,rfl,rfl,rfl,hk,hR⟩;have hi:=p8 (nmP (at_ x.ax k)) x.af
 have hj:=fV (p:=nmP (at_ x.ax k)) x.af;refine vK1 ?_;refine AW.c (λh=>?_) λh=>?_
 ·(refine vU2 ?_ ?_<;>intro h)
  ·rw[Pp baa (by rw[rM,nJ,kN];grind)]
  ·exact⟨_,[_],[],Um,⟨k+1,rfl,rfl,rfl,Um,bL baa hR (by rw[rM,nJ,kN];grind)⟩,rfl,trivial⟩
 ·refine vK1 ?_;refine AW.aw [5] [1] (λm xs o=>∃k:Nat,xs=[.aa k]/\o=[]/\m=x.aH.length - k/\k<=x.aH.length/\∀y∈x.aH.take k,(!ry x.af y)=false) x.aH.length [] trivial ⟨0,?_,rfl,rfl,?_,?_⟩ ?_
  ·rfl
  ·omega
  ·simp
  rintro m xs o ⟨j,rfl,rfl,rfl,hj,hS⟩;have hi:=p8 (nmP (at_ x.aH j)) x.af
  have hj:=fV (p:=nmP (at_ x.aH j)) x.af
  (refine vU3 ?_ ?_ ?_<;>with_reducible repeat intro h)
  ·rw[Po baa (by rw[ry];grind)]
  ·exact⟨_,[_],[],Um,⟨j+1,rfl,rfl,rfl,Um,bL baa hS (by rw[ry];grind)⟩,rfl,trivial⟩
  ·rw[Pq (fG baa hR) (fG baa hS),rW,qN,mz]
end
section
attribute [local go_sem] bD aS eI eH
instance(x:ag)(fr:Bool):Ctr lim prog 232 [] [.agg (cSc x),.ac fr] (.ac (qL x fr)) [] (eB x.bP<=1048576/\eB x.cE<=1048576/\x.bw.length<=1048576):=by
 refine Ctr.bd func232 ntmps232 λhp=>?_;have gOn:=bI.on;obtain⟨hw,hm,hd⟩:=hp
 (refine vU ?_;with_reducible repeat' first|exact Le.l|apply Sw|intro h)
 all_goals refine congrArg (λb=>AV.ac b) ?_
 ·rw[qL,nV];grind
 all_goals have hb:nV x=true:=by rw[nV];grind
 all_goals rw[qL,hb,KH,Bool.true_and]
 all_goals try simp only[kY]
 all_goals try simp only[mz,j6]
 all_goals repeat' split
 all_goals first|rfl|(exfalso;omega)|(exfalso;simp_all;done)
end
section
instance(L:gaa)[hL:Lok L](x:cu):Ctr L prog 136 [] [.agg [.str x.ae,.str x.aq],.agg [.str x.ae,.str x.aq]] (.ac true) [] True:=by
 refine Ctr.bd func136 ntmps136 λhp=>?_
 all_goals exact uU
instance(L:gaa)[hL:Lok L](l:List cu):Ctr L prog 72 [] [.ab 2 bS l,.ab 2 bS l] (.ac true) [] True:=by
 refine Ctr.bd func72 ntmps72 λhp=>?_;refine AW.f0 0 λhf=>?_;have hf:=Nat.le_trans hf (hL.le 2)
 (refine vU1 ?_;intro h)
 refine AW.aw [5] [0,1] (λm xs o=>∃k:Nat,xs=[.aa k]/\o=[]/\m=l.length - k/\k<=l.length) l.length [] trivial ⟨0,?_,rfl,rfl,?_⟩ ?_
 ·rfl
 ·omega
 rintro m xs o ⟨k,rfl,rfl,rfl,hk⟩
 (refine vU1 ?_;intro h h)
 exact⟨_,[_],[],Um,⟨k+1,rfl,rfl,rfl,Um⟩,rfl,trivial⟩
instance(L:gaa)[hL:Lok L](x:cu)(r:Int):Ctr L prog 107 [] [.agg [.str x.ae,.str x.aq],.aa r] (.aa (iK x r)) [] (0<=r/\r<=1048576):=by
 refine Ctr.bd func107 ntmps107 λhp=>?_;refine AW.f0 0 λhf=>?_;unfold iK
 ((refine vU3 ?_ ?_ ?_<;>with_reducible repeat intro h);all_goals simp only[thn,aC,id];all_goals refine congrArg (λz=>AV.aa z) ?_;all_goals (repeat' split);all_goals omega)
instance(L:gaa)[hL:Lok L](l:List cu)(r:Int):Ctr L prog 55 [] [.ab 2 bS l,.aa r] (.aa (aJ iK l r)) [] (0<=r/\r<=1048576):=by
 refine Ctr.bd func55 ntmps55 λhp=>?_;refine AW.f0 0 λhf=>?_;have hf:=Nat.le_trans hf (hL.le 2)
 (refine vU2 ?_ ?_<;>intro h)
 ·rw[gf h]
 rw[gF h];refine AW.aw [1,5] [0] (λm xs o=>∃(k:Nat) (q:Int),xs=[.aa q,.aa k]/\o=[]/\m=l.length - k/\k<=l.length/\0<=q/\q<=1048576/\eS iK (l.drop k) q=eS iK l (r - l.length)) l.length [] trivial ⟨0,_,?_,rfl,rfl,?_,?_,?_,rfl⟩ ?_
 ·rfl
 ·omega
 ·omega
 ·omega
 rintro m xs o ⟨k,q,rfl,rfl,rfl,hk,h0,h1,hR⟩;have hle:=nY (at_ l k) q h0
 (refine vU3 ?_ ?_ ?_<;>with_reducible repeat intro h)
 ·rw[fF baa,if_pos (by first|exact h|(rw[hsz];exact h))]at hR;rw[hR]
 ·rw[fF baa,if_neg Um]at hR;exact⟨_,[_,_],[],Um,⟨k+1,_,rfl,rfl,rfl,Um,Um,Um,hR⟩,rfl,trivial⟩
 ·rw[jA h]at hR;rw[hR]
instance(x:cu):Ctr lim prog 120 [] [.agg [.str x.ae,.str x.aq]] (.agg [.str x.ae,.str x.aq]) [] True:=by
 refine Ctr.bd func120 ntmps120 λhp=>?_
 all_goals exact uU
instance(l:List cu):Ctr lim prog 63 [] [.ab 2 bS l] (.ad 2 bS l) [] True:=by
 refine Ctr.bd func63 ntmps63 λhp=>?_;refine AW.f0 0 λhf=>?_
 (refine vU1 ?_;intro h)
 refine AW.aw [4] [0,3] (λm xs o=>∃k:Nat,xs=[.aa k]/\o=[(h,some (mkC (bS true) [.string ⟨#[]⟩,.string ⟨#[]⟩] l k))]/\m=l.length - k/\k<=l.length) l.length [(h,some (mkC (bS true) [.string ⟨#[]⟩,.string ⟨#[]⟩] l 0))] (aE (jg _ _ _)) ⟨0,?_,rfl,rfl,?_⟩ ?_
 ·rfl
 ·omega
 rintro m xs o ⟨k,rfl,rfl,rfl,hk⟩;have hml:=j3 (bS true) [.string ⟨#[]⟩,.string ⟨#[]⟩] 2 (λ_=>rfl) rfl l k hk
 (refine vX2 ?_ ?_<;>intro h)
 ·exact⟨_,[_],_,Um,⟨k+1,rfl,rfl,rfl,Um⟩,rfl,aE (by have:=lT (bS true) [.string ⟨#[]⟩,.string ⟨#[]⟩] 2 (λ_=>rfl) rfl l k h;simp only[go_sem,Nat.mul_one]at this ⊢;exact this.symm)⟩
 ·refine AW.made 2 rfl h hk (λ_=>rfl) ?_
  all_goals exact uU
instance(L:gaa)[hL:Lok L](x:bp):Ctr L prog 19 [] [.agg [.str x.ae,.str x.bz,.ab 2 bS x.fArgs,.al x.bV],.agg [.str x.ae,.str x.bz,.ab 2 bS x.fArgs,.al x.bV]] (.ac true) [] True:=by
 refine Ctr.bd func19 ntmps19 λhp=>?_
 all_goals exact uU
instance(L:gaa)[hL:Lok L](l:List bp):Ctr L prog 70 [] [.ab 4 aX l,.ab 4 aX l] (.ac true) [] True:=by
 refine Ctr.bd func70 ntmps70 λhp=>?_;refine AW.f0 0 λhf=>?_;have hf:=Nat.le_trans hf (hL.le 4)
 (refine vU1 ?_;intro h)
 refine AW.aw [5] [0,1] (λm xs o=>∃k:Nat,xs=[.aa k]/\o=[]/\m=l.length - k/\k<=l.length) l.length [] trivial ⟨0,?_,rfl,rfl,?_⟩ ?_
 ·rfl
 ·omega
 rintro m xs o ⟨k,rfl,rfl,rfl,hk⟩
 (refine vU1 ?_;intro h h)
 exact⟨_,[_],[],Um,⟨k+1,rfl,rfl,rfl,Um⟩,rfl,trivial⟩
instance(L:gaa)[hL:Lok L](x:bp)(r:Int):Ctr L prog 10 [] [.agg [.str x.ae,.str x.bz,.ab 2 bS x.fArgs,.al x.bV],.aa r] (.aa (fk x r)) [] (0<=r/\r<=1048576):=by
 refine Ctr.bd func10 ntmps10 λhp=>?_;refine AW.f0 0 λhf=>?_;have le2:=bh iK nY x.fArgs ((r - x.ae.length) - x.bz.length)
 have le3:=bh aC aQ x.bV (aJ iK x.fArgs ((r - x.ae.length) - x.bz.length));unfold fk
 ((refine vU5 ?_ ?_ ?_ ?_ ?_<;>with_reducible repeat intro h);all_goals simp only[thn,aC,id];all_goals refine congrArg (λz=>AV.aa z) ?_;all_goals (repeat' split);all_goals omega)
instance(L:gaa)[hL:Lok L](l:List bp)(r:Int):Ctr L prog 53 [] [.ab 4 aX l,.aa r] (.aa (aJ fk l r)) [] (0<=r/\r<=1048576):=by
 refine Ctr.bd func53 ntmps53 λhp=>?_;refine AW.f0 0 λhf=>?_;have hf:=Nat.le_trans hf (hL.le 4)
 (refine vU2 ?_ ?_<;>intro h)
 ·rw[gf h]
 rw[gF h];refine AW.aw [1,5] [0] (λm xs o=>∃(k:Nat) (q:Int),xs=[.aa q,.aa k]/\o=[]/\m=l.length - k/\k<=l.length/\0<=q/\q<=1048576/\eS fk (l.drop k) q=eS fk l (r - l.length)) l.length [] trivial ⟨0,_,?_,rfl,rfl,?_,?_,?_,rfl⟩ ?_
 ·rfl
 ·omega
 ·omega
 ·omega
 rintro m xs o ⟨k,q,rfl,rfl,rfl,hk,h0,h1,hR⟩;have hle:=j8 (at_ l k) q h0
 (refine vU3 ?_ ?_ ?_<;>with_reducible repeat intro h)
 ·rw[fF baa,if_pos (by first|exact h|(rw[hsz];exact h))]at hR;rw[hR]
 ·rw[fF baa,if_neg Um]at hR;exact⟨_,[_,_],[],Um,⟨k+1,_,rfl,rfl,rfl,Um,Um,Um,hR⟩,rfl,trivial⟩
 ·rw[jA h]at hR;rw[hR]
instance(x:bp):Ctr lim prog 14 [] [.agg [.str x.ae,.str x.bz,.ab 2 bS x.fArgs,.al x.bV]] (.agg [.str x.ae,.str x.bz,.ad 2 bS x.fArgs,.am x.bV]) [] True:=by
 refine Ctr.bd func14 ntmps14 λhp=>?_
 all_goals exact uU
instance(l:List bp):Ctr lim prog 61 [] [.ab 4 aX l] (.ad 4 aX l) [] True:=by
 refine Ctr.bd func61 ntmps61 λhp=>?_;refine AW.f0 0 λhf=>?_
 (refine vU1 ?_;intro h)
 refine AW.aw [4] [0,3] (λm xs o=>∃k:Nat,xs=[.aa k]/\o=[(h,some (mkC (aX true) [.string ⟨#[]⟩,.string ⟨#[]⟩,.slice none 0 0,.slice none 0 0] l k))]/\m=l.length - k/\k<=l.length) l.length [(h,some (mkC (aX true) [.string ⟨#[]⟩,.string ⟨#[]⟩,.slice none 0 0,.slice none 0 0] l 0))] (aE (jg _ _ _)) ⟨0,?_,rfl,rfl,?_⟩ ?_
 ·rfl
 ·omega
 rintro m xs o ⟨k,rfl,rfl,rfl,hk⟩;have hml:=j3 (aX true) [.string ⟨#[]⟩,.string ⟨#[]⟩,.slice none 0 0,.slice none 0 0] 4 (λ_=>rfl) rfl l k hk
 (refine vX2 ?_ ?_<;>intro h)
 ·exact⟨_,[_],_,Um,⟨k+1,rfl,rfl,rfl,Um⟩,rfl,aE (by have:=lT (aX true) [.string ⟨#[]⟩,.string ⟨#[]⟩,.slice none 0 0,.slice none 0 0] 4 (λ_=>rfl) rfl l k h;simp only[go_sem,Nat.mul_one]at this ⊢;exact this.symm)⟩
 ·refine AW.made 2 rfl h hk (λ_=>rfl) ?_
  all_goals exact uU
instance(L:gaa)[hL:Lok L](x:iC):Ctr L prog 17 [] [.agg [.ab 3 aR x.aL,.ab 4 aX x.ba],.agg [.ab 3 aR x.aL,.ab 4 aX x.ba]] (.ac true) [] True:=by
 refine Ctr.bd func17 ntmps17 λhp=>?_
 all_goals exact uU
instance(L:gaa)[hL:Lok L](x:iC)(r:Int):Ctr L prog 8 [] [.agg [.ab 3 aR x.aL,.ab 4 aX x.ba],.aa r] (.aa (kP x r)) [] (0<=r/\r<=1048576):=by
 refine Ctr.bd func8 ntmps8 λhp=>?_;refine AW.f0 0 λhf=>?_;have le0:=bh dH iV x.aL r
 have le1:=bh fk j8 x.ba (aJ dH x.aL r);unfold kP
 ((refine vU3 ?_ ?_ ?_<;>with_reducible repeat intro h);all_goals simp only[thn,aC,id];all_goals refine congrArg (λz=>AV.aa z) ?_;all_goals (repeat' split);all_goals omega)
instance(x:iC):Ctr lim prog 12 [] [.agg [.ab 3 aR x.aL,.ab 4 aX x.ba]] (.agg [.ad 3 aR x.aL,.ad 4 aX x.ba]) [] True:=by
 refine Ctr.bd func12 ntmps12 λhp=>?_
 all_goals exact uU
