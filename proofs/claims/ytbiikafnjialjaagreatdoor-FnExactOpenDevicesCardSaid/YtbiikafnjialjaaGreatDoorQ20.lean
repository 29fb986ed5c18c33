/- Part of a proof. -/
import Derived.Test.YtbiikafnjialjaaGreatDoorQ17
import Derived.Test.YtbiikafnjialjaaGreatDoorQ19
set_option linter.all false
set_option maxRecDepth 20000
set_option maxHeartbeats 4000000
open Go.Proofs.Tryz
open List
namespace Go.Proofs
open Go.Ab Go.Dt
instance(l:List ag):yB lim prog 196 [.ab 19 ak l] (.ab 19 ak (dk l)) (cl l<=1048576) :=
 ⟨(aU 196),λc=>by
  have:=((fg l).pure c).frz
  simpa only[AV.frz,AV.cH,jf,cond_true]using this⟩
end Go.Proofs
namespace Go.Dt
open Go.Ab
def fP{α:Type}{f:α->AV}:∀(l:List α),(∀x∈l,(f x).closed=true)->AV.df (l.map f)=true
 | [],_=>rfl
 | x::xs,h=>by simp only[map_cons,AV.df,h x zH,fP xs λy hy=>h y (by simp[hy]),Bool.true_and]
def mS(l:List Str):AV.df (l.map AV.str)=true:=fP l λ_ _=>rfl
def Jo(o:Bool)(l:List ed):(l.map (aW o)).all (AV.elem 2)=true:=ez (λ_=>rfl) l
def Jn(o:Bool)(l:List ed):((l.map (aW o)).flatMap AV.cells).all AV.one=true:=eO (λ_=>rfl) l
def OQ(x:ed):(aW true x).closed=true:=by simp only[aW,AV.closed,AV.df,mS,Bool.true_and,Bool.and_true]
def jz(l:List ed):AV.df (l.map (aW true))=true:=fP l λx _=>OQ x
def Me(o:Bool)(l:List fS):(l.map (cY o)).all (AV.elem 2)=true:=ez (λ_=>rfl) l
def Md(o:Bool)(l:List fS):((l.map (cY o)).flatMap AV.cells).all AV.one=true:=eO (λ_=>rfl) l
def Q7(x:fS):(cY true x).closed=true:=by simp only[cY,AV.closed,AV.df,mS,jz,Bool.true_and,Bool.and_true]
def lG(l:List fS):AV.df (l.map (cY true))=true:=fP l λx _=>Q7 x
def OV(o:Bool)(l:List cM):(l.map (cn o)).all (AV.elem 2)=true:=ez (λ_=>rfl) l
def OU(o:Bool)(l:List cM):((l.map (cn o)).flatMap AV.cells).all AV.one=true:=eO (λ_=>rfl) l
def Uv(x:cM):(cn true x).closed=true:=by simp only[cn,AV.closed,AV.df,mS,jz,lG,Bool.true_and,Bool.and_true]
def nu(l:List cM):AV.df (l.map (cn true))=true:=fP l λx _=>Uv x
def Mg(o:Bool)(l:List GStep):(l.map (bp o)).all (AV.elem 2)=true:=ez (λ_=>rfl) l
def Mf(o:Bool)(l:List GStep):((l.map (bp o)).flatMap AV.cells).all AV.one=true:=eO (λ_=>rfl) l
def Q8(x:GStep):(bp true x).closed=true:=by simp only[bp,AV.closed,AV.df,mS,jz,lG,nu,Bool.true_and,Bool.and_true]
def nr(l:List GStep):AV.df (l.map (bp true))=true:=fP l λx _=>Q8 x
def Jq(o:Bool)(l:List bR):(l.map (bB o)).all (AV.elem 6)=true:=ez (λ_=>rfl) l
def Jp(o:Bool)(l:List bR):((l.map (bB o)).flatMap AV.cells).all AV.one=true:=eO (λ_=>rfl) l
def OT(x:bR):(bB true x).closed=true:=by simp only[bB,AV.closed,AV.df,mS,jz,lG,nu,nr,Bool.true_and,Bool.and_true]
def nM(l:List bR):AV.df (l.map (bB true))=true:=fP l λx _=>OT x
def Mi(o:Bool)(l:List ah):(l.map (ai o)).all (AV.elem 3)=true:=ez (λx=>by rw[bW];rfl) l
def Mh(o:Bool)(l:List ah):((l.map (ai o)).flatMap AV.cells).all AV.one=true:=eO (λx=>by rw[bW];rfl) l
def Ik(x:ah):(ai true x).closed=true:=by rw[bW];simp only[AV.closed,AV.df,mS,jz,lG,nu,nr,nM,fP x.af (λy hy=>Ik y),Bool.true_and,Bool.and_true]
termination_by SizeOf.sizeOf x
decreasing_by have:=sizeOf_lt_of_mem hy;cases x;simp[ah.af]at *;omega
def qx(l:List ah):AV.df (l.map (ai true))=true:=fP l λx _=>Ik x
def Ml(o:Bool)(l:List bf):(l.map (aS o)).all (AV.elem 7)=true:=ez (λx=>by rw[dM];rfl) l
def Mj(o:Bool)(l:List bf):((l.map (aS o)).flatMap AV.cells).all AV.one=true:=eO (λx=>by rw[dM];rfl) l
def Il(x:bf):(aS true x).closed=true:=by rw[dM];simp only[AV.closed,AV.df,mS,jz,lG,nu,nr,nM,qx,fP x.af (λy hy=>Il y),Bool.true_and,Bool.and_true]
termination_by SizeOf.sizeOf x
decreasing_by have:=sizeOf_lt_of_mem hy;cases x;simp[bf.af]at *;omega
def tQ(l:List bf):AV.df (l.map (aS true))=true:=fP l λx _=>Il x
def Ij(o:Bool)(l:List ag):(l.map (ak o)).all (AV.elem 19)=true:=ez (λx=>by rw[dK];rfl) l
def Ii(o:Bool)(l:List ag):((l.map (ak o)).flatMap AV.cells).all AV.one=true:=eO (λx=>by rw[dK];rfl) l
def CG(x:ag):(ak true x).closed=true:=by rw[dK];simp only[AV.closed,AV.df,mS,jz,lG,nu,nr,nM,qx,tQ,fP x.af (λy hy=>CG y),Bool.true_and,Bool.and_true]
termination_by SizeOf.sizeOf x
decreasing_by have:=sizeOf_lt_of_mem hy;cases x;simp[ag.af]at *;omega
def ur(l:List ag):AV.df (l.map (ak true))=true:=fP l λx _=>CG x
def D2(o:Bool)(l:List aE):(l.map (aK o)).all (AV.elem 3)=true:=ez (λ_=>rfl) l
def D1(o:Bool)(l:List aE):((l.map (aK o)).flatMap AV.cells).all AV.one=true:=eO (λ_=>rfl) l
def Ig(x:aE):(aK true x).closed=true:=by simp only[aK,AV.closed,AV.df,mS,jz,lG,nu,nr,nM,qx,tQ,ur,Bool.true_and,Bool.and_true]
def w9(l:List aE):AV.df (l.map (aK true))=true:=fP l λx _=>Ig x
def Fv(o:Bool)(l:List bt):(l.map (aP o)).all (AV.elem 4)=true:=ez (λ_=>rfl) l
def Fu(o:Bool)(l:List bt):((l.map (aP o)).flatMap AV.cells).all AV.one=true:=eO (λ_=>rfl) l
def Jm(x:bt):(aP true x).closed=true:=by simp only[aP,AV.closed,AV.df,mS,jz,lG,nu,nr,nM,qx,tQ,ur,w9,Bool.true_and,Bool.and_true]
def Ih(l:List bt):AV.df (l.map (aP true))=true:=fP l λx _=>Jm x
def PB(l:List Str):(l.map AV.str).all AV.one=true:=by have:=JB l;rwa [H4]at this
attribute [go_sem] Jo Jn jz Me Md lG OV OU nu Mg Mf nr Jq Jp nM Mi Mh qx Ml Mj tQ Ij Ii ur D2 D1 w9 Fv Fu Ih PB mS
end Go.Dt
namespace Go.Proofs
open Go.Ab Go.Dt
section
attribute [local go_sem] bL aV eW eV gC jf
attribute [-instance] fg
instance(s:List ag)(nm:Str):Ctr lim prog 214 [] [.ab 19 ak s,.sl false 1 [.str nm]] (.tup [ak false (at_ (dk s) (idx (nmP nm) (dk s)).toNat),.ac true]) [] (0<=idx (nmP nm) (dk s)/\cl s<=1048576):=by
 refine Ctr.bd func214 ntmps214 λhp=>?_;have gOn:=bM.on;obtain⟨hi,hc⟩:=hp;have hj:=gu (p:=nmP nm) (dk s);refine AW.f1 0 λhf=>?_
 (refine bU1 ?_;intro h h h)
 rename_i a b;refine AW.aw [0,14] [1,4,5,6,12,13] (λm xs o=>(xs=[.ab 19 ak s,.aa 0]/\o=[(b,some cZe),(a,some cZe)]/\m=1)\/(xs=[.sl false 19 ((at_ (dk s) (idx (nmP nm) (dk s)).toNat).af.map (ak false)),.aa 1]/\o=[(b,some (cSc (at_ (dk s) (idx (nmP nm) (dk s)).toNat))),(a,some cZe)]/\m=0)) 1 [(b,some cZe),(a,some cZe)] gO (.inl ⟨rfl,rfl,rfl⟩) ?_;rintro m xs o (⟨rfl,rfl,rfl⟩|⟨rfl,rfl,rfl⟩)
 ·(refine vU1 ?_;intro h h h)
  refine⟨.str nm,λ_=>⟨daa,rfl,rfl⟩,?_⟩;refine vU1 ?_;refine h _ _ ?_
  (refine vU1 ?_;intro h)
  exact⟨_,_,_,Nat.zero_lt_one,.inr ⟨rfl,rfl,rfl⟩,rfl,gO⟩
 ·(refine vU1 ?_;intro h)
  rfl
end
section
attribute [local go_sem] bL aV eW eV
theorem xX(l:List ag)(n:Str):Ctr lim prog 254 [] [.ab 19 ak l,.str n] (.tup [ak false (at_ l (idx (fG n) l).toNat),.ac true]) [] (0<=idx (fG n) l):=by
 refine Ctr.bd func254 ntmps254 λhp=>?_;have gOn:=bM.on;refine AW.f1 0 λhf=>?_
 (refine bU1 ?_;intro h)
 refine AW.aw [10] [1,4,8,9] (λm xs o=>∃k:Nat,xs=[.aa k]/\o=[(h,some cZe)]/\m=l.length - k/\k<=l.length/\∀x∈l.take k,fG n x=false) l.length [(h,some cZe)] gO ⟨0,rfl,rfl,rfl,Yt,zH⟩ ?_;rintro m xs o ⟨k,rfl,rfl,rfl,hk,hR⟩
 (refine vU3 ?_ ?_ ?_<;>with_reducible repeat intro h)
 ·rw[gR (p:=fG n) baa hR (by simp[fG];grind)];try rfl
 ·exact⟨_,[_],_,Yt,⟨k+1,rfl,rfl,rfl,Yt,bV baa hR (by simp[fG];grind)⟩,rfl,gO⟩
 ·exact absurd hp (by rw[jr baa hR];decide)
theorem HJ(l:List ag)(n:Str):Ctr lim prog 254 [] [.ab 19 ak l,.str n] (.tup [.agg cZe,.ac false]) [] (idx (fG n) l<0):=by
 refine Ctr.bd func254 ntmps254 λhp=>?_;have gOn:=bM.on;refine AW.f1 0 λhf=>?_
 (refine bU1 ?_;intro h)
 refine AW.aw [10] [1,4,8,9] (λm xs o=>∃k:Nat,xs=[.aa k]/\o=[(h,some cZe)]/\m=l.length - k/\k<=l.length/\∀x∈l.take k,fG n x=false) l.length [(h,some cZe)] gO ⟨0,rfl,rfl,rfl,Yt,zH⟩ ?_;rintro m xs o ⟨k,rfl,rfl,rfl,hk,hR⟩
 (refine vU2 ?_ ?_<;>with_reducible repeat intro h)
 ·exact absurd hp (by rw[gR (p:=fG n) baa hR (by simp[fG];grind)];omega)
 ·exact⟨_,[_],_,Yt,⟨k+1,rfl,rfl,rfl,Yt,bV baa hR (by simp[fG];grind)⟩,rfl,gO⟩
theorem JJ:∀(n:Nat) (l:List ag) (r:Int),Ctr lim prog 174 [] [.ab 19 ak l,.aa r] (.aa (gW l (r - l.length))) [] (SizeOf.sizeOf l<n/\cl l<=1048576/\0<=r/\r<=1048576)
 | 0,l,r=>⟨(aU 174),λh=>absurd h.1 (Nat.not_lt_zero _)⟩
 | n+1,l,r=>by
  have ih:=JJ n;refine Ctr.bd func174 ntmps174 λhp=>?_;have hl:=oA l;refine vU1 ?_;refine AW.aw [1,5] [0] (λm xs o=>∃(k:Nat) (q:Int),xs=[.aa q,.aa k]/\o=[]/\m=l.length - k/\k<=l.length/\-4611686018427387904<=q/\q<=1048576/\gW (l.drop k) q=gW l (r - l.length)) l.length [] trivial ⟨0,r - l.length,?_,rfl,rfl,?_,?_,?_,rfl⟩ ?_
  ·rfl
  ·omega
  ·omega
  ·omega
  rintro m xs o ⟨k,q,rfl,rfl,rfl,hk,h0,h1,hR⟩
  have hw:k<l.length->SizeOf.sizeOf (at_ l k).af<n/\cl (at_ l k).af<=1048576:=λh=>by
   have:=sQ (at_mem h);have:=ag.dH (at_mem h);omega
  have h2:=oA (at_ l k).af
  have h3:=AF (at_ l k).af (q - (at_ l k).af.length)
  (refine vU2 ?_ ?_<;>intro h)
  ·have h4:-4611686018427387904<=gW (at_ l k).af (q - (at_ l k).af.length):=AG _ _ (by have:=hw h.1;omega) (by have:=hw h.1;omega);refine⟨_,[_,_],[],Yt,⟨k+1,_,rfl,rfl,rfl,Yt,h4,Yt,?_⟩,rfl,trivial⟩;rw[<- hR,Qh h.1,if_neg Yt]
  ·rw[<- hR];by_cases e:k<l.length
   ·rw[qt _ (h e)]
   ·rw[dn e,gW]
instance(l:List ag)(r:Int):Ctr lim prog 174 [] [.ab 19 ak l,.aa r] (.aa (gW l (r - l.length))) [] (cl l<=1048576/\0<=r/\r<=1048576):=⟨(aU 174),λc=>(JJ (SizeOf.sizeOf l+1) l r).out ⟨Nat.lt_succ_self _,c⟩⟩
instance(l:List Str):Ctr lim prog 312 [] [.al l] (.ac (cE l && decide (l.length<=3))) [] True:=by
 refine Ctr.bd func312 ntmps312 λhp=>?_;have gOn:=bM.on;refine AW.f1 0 λhf=>?_;refine vU1 ?_;refine AW.aw [3] [0] (λm xs o=>∃k:Nat,xs=[.aa k]/\o=[]/\m=l.length - k/\k<=l.length/\cz (λj=>!cont (l.take j) (at_ l j)) k=true) l.length [] trivial ⟨0,?_,rfl,rfl,?_,rfl⟩ ?_
 ·rfl
 ·omega
 rintro m xs o ⟨k,rfl,rfl,rfl,hk,hQ⟩;refine vK1 ?_;refine AW.c (λh=>?_) λh=>?_
 ·refine vK1 ?_;refine AW.aw [4] [0,3] (λm xs o=>∃j:Nat,xs=[.aa j]/\o=[]/\m=k - j/\j<=k/\∀y∈(l.take k).take j,(y == at_ l k)=false) k [] trivial ⟨0,?_,rfl,rfl,?_,?_⟩ ?_
  ·rfl
  ·omega
  ·simp
  rintro m xs o ⟨j,rfl,rfl,rfl,hj,hS⟩
  (refine vU3 ?_ ?_ ?_<;>with_reducible repeat intro h)
  ·rw[show cE l=false from cV baa (by rw[wI baa baa h];try rfl)];try rfl
  ·exact⟨_,[_],[],Yt,⟨j+1,rfl,rfl,rfl,Yt,bV (by rw[length_take];omega) hS (by rw[Eb baa];simpa using h)⟩,rfl,trivial⟩
  ·rw[show j=k by omega,take_take,Nat.min_self]at hS;exact⟨_,[_],[],Yt,⟨k+1,rfl,rfl,rfl,Yt,cy hQ (by rw[tT hS];try rfl)⟩,rfl,trivial⟩
 ·refine vU1 ?_;rw[show k=l.length by omega]at hQ;rw[show cE l=true from hQ,Bool.true_and,show decide ((l.length:Int)<=3)=decide (l.length<=3)from decide_eq_decide.2 Yt]
end
instance(x:dB)(s:Str):Ctr lim prog 268 [] [.agg [.aa x.aj,.ab 2 aW x.az,.al x.aB,.str x.aZ,.str x.aG],.str s] (.ac (isVal x s)) [] (s.length<=1048576):=by
 refine Ctr.bd func268 ntmps268 λhp=>?_;refine vU1 ?_
 all_goals first|rfl|(rw[isVal];done)
instance(x:dB)(s:Str):Ctr lim prog 262 [] [.agg [.aa x.aj,.ab 2 aW x.az,.al x.aB,.str x.aZ,.str x.aG],.str s] (.ac (isVal x s)) [] (s.length<=1048576):=by
 refine Ctr.bd func262 ntmps262 λhp=>?_;refine vU1 ?_
 all_goals first|rfl|(rw[isVal];done)
end Go.Proofs
namespace Go.Dt
open Go Go.Ab
def lh{α:Type}(l:List α):l.isEmpty=decide (l.length=0):=by cases l<;>simp
section
variable {x : ag}
def PJ(h:(((((((¬x.aj=3/\¬x.aj=4)/\nT x.fType=false\/¬x.aj=2/\0<((x.ax.length+x.aJ.length:Nat):Int))\/¬x.aj=3/\((¬x.bI=[]\/x.db=true)\/x.eJ=true))\/(¬x.aj=3/\¬x.aj=5)/\x.dz=true)\/¬x.aj=1/\x.bZ=true)\/(¬x.aj=2/\¬x.aj=4)/\(¬x.iO=0\/¬x.iP=0))\/dR x.aj=false/\0<(x.cS.length:Int))\/(x.aj=3\/x.aj=4)/\0<(x.af.length:Int)):lz x=false:=by rw[lz,fD,lh x.ax,lh x.aJ,lh x.cS,lh x.af];rcases h with((((((h|h)|h)|h)|h)|h)|h)|h<;>grind
def MS(h:(((((((¬x.aj=3/\¬x.aj=4->nT x.fType=true)/\(¬x.aj=2->((x.ax.length+x.aJ.length:Nat):Int)<=0))/\(¬x.aj=3->(x.bI=[]/\x.db=false)/\x.eJ=false))/\(¬x.aj=3/\¬x.aj=5->x.dz=false))/\(¬x.aj=1->x.bZ=false))/\(¬x.aj=2/\¬x.aj=4->x.iO=0/\x.iP=0))/\(dR x.aj=false->(x.cS.length:Int)<=0))/\(x.aj=3\/x.aj=4->(x.af.length:Int)<=0)):lz x=true:=by rw[lz,fD,lh x.ax,lh x.aJ,lh x.cS,lh x.af];obtain⟨⟨⟨⟨⟨⟨⟨h1,h2⟩,h3⟩,h4⟩,h5⟩,h6⟩,h7⟩,h8⟩:=h;simp only[Bool.and_eq_true,Bool.or_eq_true,decide_eq_true_eq,Bool.not_eq_true'];refine⟨⟨⟨⟨⟨⟨⟨?_,?_⟩,?_⟩,?_⟩,?_⟩,?_⟩,?_⟩,?_⟩<;>grind
def ZQ(n:Nat):decide (1<=(n:Int))=decide (1<=n):=decide_eq_decide.2 Yt
def Sg(n:Nat):decide ((n:Int)<=3)=decide (n<=3):=decide_eq_decide.2 Yt
def abU(h:x.aj=1\/x.aj=5\/x.aj=6):true=jk x:=by rw[jk,if_pos h]
def abZ(h:x.aj=2):(decide (1<=(x.ax.length:Int)) && decide ((x.ax.length:Int)<=3) && cE x.ax && names x.ax && decide ((x.aJ.length:Int)<=3) && cE x.aJ && names x.aJ && pg x)=jk x:=by rw[jk,if_neg Yt,if_pos h,ZQ,Sg,Sg]
def abY(h:x.aj=3):(isType dV x.fType && !(x.db && (x.dz || decide (0<(x.bY.length:Int)))) && (x.db && isVal x.fType x.bI || !x.db && x.bI == []))=jk x:=by rw[jk,if_neg Yt,if_neg Yt,if_pos h,sP,rA,mH];rfl
def abX(h:x.aj=4):(isType dV x.fType && pg x)=jk x:=by rw[jk,if_neg Yt,if_neg Yt,if_neg Yt,if_pos h];rfl
def abW(h:x.aj=7):((x.bY.length:Int) == 0 && (x.af.length:Int) == 0)=jk x:=by rw[jk,if_neg Yt,if_neg Yt,if_neg Yt,if_neg Yt,if_pos h,lC,lC]
def abV(h1:¬x.aj=1)(h5:¬x.aj=5)(h6:¬x.aj=6)(h2:¬x.aj=2)(h3:¬x.aj=3)(h4:¬x.aj=4)(h7:¬x.aj=7):false=jk x:=by rw[jk,if_neg Yt,if_neg h2,if_neg h3,if_neg h4,if_neg h7]
end
end Go.Dt
namespace Go.Proofs
open Go.Ab Go.Dt
attribute [local go_sem] bL aV eW eV
instance(x:ag):Ctr lim prog 253 [] [.agg (cSc x)] (.ac (mf x)) [] (eK x.bY<=1048576/\eK x.cS<=1048576/\x.bI.length<=1048576):=by
 refine Ctr.bd func253 ntmps253 λhp=>?_;have gOn:=bM.on;obtain⟨hw,hm,hd⟩:=hp;refine AW.f1 0 λhf=>?_;have hfk:x.ax.length+x.aJ.length<=4294967296000:=by omega
 clear hf;refine vK1 ?_;refine AW.c (λh=>?_) λh=>?_
 ·refine vU1 ?_;refine congrArg (λb=>AV.ac b) ?_;rw[mf,ot];grind
 have hbase:ot x=true:=by rw[ot];grind
 clear h;refine vN1 ?_;refine Z ?_;intro K hK;simp only[append_eq,cons_append,nil_append];refine vN1 ?_;refine AW.c (λh=>?_) λh=>?_
 ·refine vU1 ?_;refine congrArg (λb=>AV.ac b) ?_;rw[mf,hbase,Bool.true_and,PJ h];try rfl
 have hsh:=MS h;clear h
 (refine vU ?_;with_reducible repeat' first|exact Le.l|apply Sw|intro h)
 all_goals refine congrArg (λb=>AV.ac b) ?_
 all_goals rw[mf,hbase,hsh,Bool.true_and,Bool.true_and]
 all_goals first|exact abU Yt|exact abZ baa|exact abY baa|exact abX baa|exact abW baa|exact abV baa baa baa baa baa baa baa
end Go.Proofs
namespace Go.Dt
open Go Go.Ab
section
variable {l : List ag} {k : Nat} {kind : Int} {bd : Bool} {x : ag}
def FD(h:k<l.length)(hR:kA (l.drop k) kind bd=kA l kind bd)(e:jT kind bd (at_ l k)=false):kR l kind bd=false:=by rw[LD h,e]at hR;rw[kR,<- hR];simp
def Wr(h:k<l.length)(hR:kA (l.drop k) kind bd=kA l kind bd)(e:kR (at_ l k).af (at_ l k).aj (bd || !(at_ l k).bY.isEmpty || decide ((at_ l k).aj=6))=false):kR l kind bd=false:=by rw[LD h]at hR;rw[kR]at e;rw[kR,<- hR,e];simp
def TW(h:k<l.length)(hR:kA (l.drop k) kind bd=kA l kind bd)(e1:jT kind bd (at_ l k)=true)(e2:kR (at_ l k).af (at_ l k).aj (bd || !(at_ l k).bY.isEmpty || decide ((at_ l k).aj=6))=true):kA (l.drop (k+1)) kind bd=kA l kind bd:=by rw[LD h,e1]at hR;rw[kR]at e2;rw[<- hR,e2];simp
def Ws(hd:mw l kind=true)(h:¬k<l.length)(hR:kA (l.drop k) kind bd=kA l kind bd):kR l kind bd=true:=by rw[dn h,kA]at hR;rw[kR,<- hR,hd];rfl
def J4{j:Nat}(h:j<x.ax.length)(e:pX x.af (at_ x.ax j)=false):jT kind bd x=false:=by rw[jT,j4 h e];simp
def Th{j:Nat}(h:j<x.aJ.length)(e:tZ x.af (at_ x.aJ j)=false):jT kind bd x=false:=by rw[jT,j4 h e];simp
def Tg{i j:Nat}(e:(mf x && !decide (x.aj=7) && (decide (x.aj=6) == decide (kind=5)) && !(x.db && bd))=true)(h1:¬i<x.ax.length)(e1:∀y∈x.ax.take i,(!pX x.af y)=false)(h2:¬j<x.aJ.length)(e2:∀y∈x.aJ.take j,(!tZ x.af y)=false):jT kind bd x=true:=by rw[jT,e,fR h1 e1,fR h2 e2];rfl
def V1(e:(mf x && !decide (x.aj=7) && (decide (x.aj=6) == decide (kind=5)) && !(x.db && bd))=false):jT kind bd x=false:=by rw[jT,e];rfl
end
end Go.Dt
namespace Go.Proofs
open Go.Ab Go.Dt
section
attribute [local go_sem] bL aV eW eV jf
theorem Kk:∀(n:Nat) (l:List ag) (kind:Int) (bd:Bool),Ctr lim prog 195 [] [.ab 19 ak l,.aa kind,.ac bd] (.ac (kR l kind bd)) [] (SizeOf.sizeOf l<n/\wtS l<=1048576)
 | 0,l,_,_=>⟨(aU 195),λh=>absurd h.1 (Nat.not_lt_zero _)⟩
 | n+1,l,kind,bd=>by
  have ih:=Kk n;refine Ctr.bd func195 ntmps195 λhp=>?_;have gOn:=bM.on;obtain⟨hs,hb⟩:=hp;have hc:=iq l;refine AW.f1 0 λhf=>?_;refine vK1 ?_;refine AW.c (λh=>?_) λh=>?_
  ·refine vU1 ?_;refine congrArg (λb=>AV.ac b) ?_;rw[kR,mw];grind
  refine vK1 ?_;have hd:mw l kind=true:=by rw[mw];grind
  clear h;refine AW.aw [38] [0,1,2,36,37] (λm xs o=>∃k:Nat,xs=[.aa k]/\o=[]/\m=l.length - k/\k<=l.length/\kA (l.drop k) kind bd=kA l kind bd) l.length [] trivial ⟨0,?_,rfl,rfl,?_,rfl⟩ ?_
  ·rfl
  ·omega
  rintro m xs o ⟨k,rfl,rfl,rfl,hk,hR⟩;refine vK1 ?_;refine AW.c (λh=>?_) λh=>?_
  ·have hw:=CZ (at_mem h)
   have hsz:=ag.dH (at_mem h)
   have hlk:=h;clear h
   (refine vK1 ?_;intro h)
   refine AW.c (λh=>?_) λh=>?_
   ·refine vU1 ?_;rw[FD hlk hR (V1 (by grind))]
   have ho:(mf (at_ l k) && !decide ((at_ l k).aj=7) && (decide ((at_ l k).aj=6) == decide (kind=5)) && !((at_ l k).db && bd))=true:=by grind
   clear h;refine vK1 ?_
   rename Nat=>b
   refine AW.fact 66 λacJ=>?_;simp(disch:=omega)only[go_sem]at acJ;refine AW.aw [68] [0,1,2,8,36,37,38,66,67] (λm xs o=>∃j:Nat,xs=[.aa j]/\o=[(b,some (cSc (at_ l k)))]/\m=(at_ l k).ax.length - j/\j<=(at_ l k).ax.length/\∀y∈(at_ l k).ax.take j,(!pX (at_ l k).af y)=false) (at_ l k).ax.length [(b,some (cSc (at_ l k)))] gO ⟨0,rfl,rfl,rfl,Yt,zH⟩ ?_;rintro m xs o ⟨j,rfl,rfl,rfl,hj,hS⟩;refine vK1 ?_;refine AW.c (λh=>?_) λh=>?_
   ·by_cases hq:0<=idx (fG (at_ (at_ l k).ax j)) (at_ l k).af
    ·haveI:=xX (at_ l k).af (at_ (at_ l k).ax j)
     (refine vU2 ?_ ?_<;>with_reducible repeat intro h)
     ·rw[FD hlk hR (J4 baa (by rw[pX,nU,lh];grind))]
     ·exact⟨_,[_],_,Yt,⟨j+1,rfl,rfl,rfl,Yt,bV baa hS (by rw[pX,nU,lh];grind)⟩,rfl,gO⟩
    ·haveI:=HJ (at_ l k).af (at_ (at_ l k).ax j)
     (refine vU1 ?_;intro h h h)
     rw[FD hlk hR (J4 baa (by rw[pX];grind))]
   have hj2:=h;clear h;refine vK1 ?_;refine AW.fact 99 λZz=>?_;simp(disch:=omega)only[go_sem]at Zz;refine AW.aw [101] [0,1,2,8,36,37,38,99,100] (λm xs o=>∃i:Nat,xs=[.aa i]/\o=[(b,some (cSc (at_ l k)))]/\m=(at_ l k).aJ.length - i/\i<=(at_ l k).aJ.length/\∀y∈(at_ l k).aJ.take i,(!tZ (at_ l k).af y)=false) (at_ l k).aJ.length [(b,some (cSc (at_ l k)))] gO ⟨0,rfl,rfl,rfl,Yt,zH⟩ ?_;rintro m xs o ⟨i,rfl,rfl,rfl,hi,hT⟩;refine vK1 ?_;refine AW.c (λh=>?_) λh=>?_
   ·by_cases hq:0<=idx (fG (at_ (at_ l k).aJ i)) (at_ l k).af
    ·haveI:=xX (at_ l k).af (at_ (at_ l k).aJ i)
     (refine vU1 ?_;intro h h h)
     exact⟨_,[_],_,Yt,⟨i+1,rfl,rfl,rfl,Yt,bV baa hT (by rw[tZ];grind)⟩,rfl,gO⟩
    ·haveI:=HJ (at_ l k).af (at_ (at_ l k).aJ i)
     (refine vU1 ?_;intro h h h)
     rw[FD hlk hR (Th baa (by rw[tZ];grind))]
   have hi2:=h;clear h
   (refine vU2 ?_ ?_<;>intro h)
   ·rw[Wr hlk hR (by rw[sP,rA,kG]at h;exact h)]
   ·exact⟨_,[_],_,Yt,⟨k+1,rfl,rfl,rfl,Yt,TW hlk hR (Tg ho hj2 hS hi2 hT) (by rw[sP,rA,kG]at h;exact h)⟩,rfl,gO⟩
  ·refine vU1 ?_;rw[Ws hd h hR]
end
section
attribute [local go_sem] bL aV eW eV
def Qc{x:ag}{k:Nat}(h:k<x.ax.length)(e:sF x.af (at_ x.ax k)=false):qj x=false:=by rw[qj,j4 h e];try rfl
def Qb{x:ag}{k:Nat}(h:k<x.aJ.length)(e:rW x.af (at_ x.aJ k)=false):qj x=false:=by rw[qj,j4 h e];simp
def Qd{x:ag}(h1:x.ax.all (sF x.af)=true)(h2:x.aJ.all (rW x.af)=true):qj x=(nT x.fType && !x.ax.isEmpty && (cE x.ax && decide (x.ax.length<=3)) && (cE x.aJ && decide (x.aJ.length<=3)) && pg x && !x.db && !x.dz && !x.bZ && !x.eJ && x.bI.isEmpty):=by rw[qj,h1,h2];try rfl
instance(x:ag):Ctr lim prog 278 [] [.agg (cSc x)] (.ac (qj x)) [] True:=by
 refine Ctr.bd func278 ntmps278 λhp=>?_;have gOn:=bM.on;refine AW.f1 0 λhf=>?_;refine vU1 ?_;refine AW.aw [3] [1] (λm xs o=>∃k:Nat,xs=[.aa k]/\o=[]/\m=x.ax.length - k/\k<=x.ax.length/\∀y∈x.ax.take k,(!sF x.af y)=false) x.ax.length [] trivial ⟨0,?_,rfl,rfl,?_,?_⟩ ?_
 ·rfl
 ·omega
 ·simp
 rintro m xs o ⟨k,rfl,rfl,rfl,hk,hR⟩;have hi:=qv (nmP (at_ x.ax k)) x.af
 have hj:=gu (p:=nmP (at_ x.ax k)) x.af;refine vK1 ?_;refine AW.c (λh=>?_) λh=>?_
 ·(refine vU2 ?_ ?_<;>intro h)
  ·rw[Qc baa (by rw[sF,nU,lh];grind)]
  ·exact⟨_,[_],[],Yt,⟨k+1,rfl,rfl,rfl,Yt,bV baa hR (by rw[sF,nU,lh];grind)⟩,rfl,trivial⟩
 ·refine vK1 ?_;refine AW.aw [5] [1] (λm xs o=>∃k:Nat,xs=[.aa k]/\o=[]/\m=x.aJ.length - k/\k<=x.aJ.length/\∀y∈x.aJ.take k,(!rW x.af y)=false) x.aJ.length [] trivial ⟨0,?_,rfl,rfl,?_,?_⟩ ?_
  ·rfl
  ·omega
  ·simp
  rintro m xs o ⟨j,rfl,rfl,rfl,hj,hS⟩;have hi:=qv (nmP (at_ x.aJ j)) x.af
  have hj:=gu (p:=nmP (at_ x.aJ j)) x.af
  (refine vU3 ?_ ?_ ?_<;>with_reducible repeat intro h)
  ·rw[Qb baa (by rw[rW];grind)]
  ·exact⟨_,[_],[],Yt,⟨j+1,rfl,rfl,rfl,Yt,bV baa hS (by rw[rW];grind)⟩,rfl,trivial⟩
  ·rw[Qd (fR baa hR) (fR baa hS),sP,rA,mH]
end
section
attribute [local go_sem] bL aV eW eV
instance(x:ag)(fr:Bool):Ctr lim prog 232 [] [.agg (cSc x),.ac fr] (.ac (ry x fr)) [] (eK x.bY<=1048576/\eK x.cS<=1048576/\x.bI.length<=1048576):=by
 refine Ctr.bd func232 ntmps232 λhp=>?_;have gOn:=bM.on;obtain⟨hw,hm,hd⟩:=hp
 (refine vU ?_;with_reducible repeat' first|exact Le.l|apply Sw|intro h)
 all_goals refine congrArg (λb=>AV.ac b) ?_
 ·rw[ry,ot];grind
 all_goals have hb:ot x=true:=by rw[ot];grind
 all_goals rw[ry,hb,LB,Bool.true_and]
 all_goals try simp only[lC]
 all_goals try simp only[mH,kG]
 all_goals repeat' split
 all_goals first|rfl|(exfalso;omega)|(exfalso;simp_all;done)
end
section
instance(L:gaa)[hL:Lok L](x:cM):Ctr L prog 136 [] [.agg [.str x.ae,.str x.aq],.agg [.str x.ae,.str x.aq]] (.ac true) [] True:=by
 refine Ctr.bd func136 ntmps136 λhp=>?_
 all_goals exact uU
instance(L:gaa)[hL:Lok L](l:List cM):Ctr L prog 72 [] [.ab 2 cn l,.ab 2 cn l] (.ac true) [] True:=by
 refine Ctr.bd func72 ntmps72 λhp=>?_;refine AW.f0 0 λhf=>?_;have hf:=Nat.le_trans hf (hL.le 2)
 (refine vU1 ?_;intro h)
 refine AW.aw [5] [0,1] (λm xs o=>∃k:Nat,xs=[.aa k]/\o=[]/\m=l.length - k/\k<=l.length) l.length [] trivial ⟨0,?_,rfl,rfl,?_⟩ ?_
 ·rfl
 ·omega
 rintro m xs o ⟨k,rfl,rfl,rfl,hk⟩
 (refine vU1 ?_;intro h h)
 exact⟨_,[_],[],Yt,⟨k+1,rfl,rfl,rfl,Yt⟩,rfl,trivial⟩
instance(L:gaa)[hL:Lok L](x:cM)(r:Int):Ctr L prog 107 [] [.agg [.str x.ae,.str x.aq],.aa r] (.aa (iQ x r)) [] (0<=r/\r<=1048576):=by
 refine Ctr.bd func107 ntmps107 λhp=>?_;refine AW.f0 0 λhf=>?_;unfold iQ
 ((refine vU3 ?_ ?_ ?_<;>with_reducible repeat intro h);all_goals simp only[thn,aA,id];all_goals refine congrArg (λz=>AV.aa z) ?_;all_goals (repeat' split);all_goals omega)
instance(L:gaa)[hL:Lok L](l:List cM)(r:Int):Ctr L prog 55 [] [.ab 2 cn l,.aa r] (.aa (aM iQ l r)) [] (0<=r/\r<=1048576):=by
 refine Ctr.bd func55 ntmps55 λhp=>?_;refine AW.f0 0 λhf=>?_;have hf:=Nat.le_trans hf (hL.le 2)
 (refine vU2 ?_ ?_<;>intro h)
 ·rw[fM h]
 rw[fY h];refine AW.aw [1,5] [0] (λm xs o=>∃(k:Nat) (q:Int),xs=[.aa q,.aa k]/\o=[]/\m=l.length - k/\k<=l.length/\0<=q/\q<=1048576/\eH iQ (l.drop k) q=eH iQ l (r - l.length)) l.length [] trivial ⟨0,_,?_,rfl,rfl,?_,?_,?_,rfl⟩ ?_
 ·rfl
 ·omega
 ·omega
 ·omega
 rintro m xs o ⟨k,q,rfl,rfl,rfl,hk,h0,h1,hR⟩;have hle:=oy (at_ l k) q h0
 (refine vU3 ?_ ?_ ?_<;>with_reducible repeat intro h)
 ·rw[fw baa,if_pos (by first|exact h|(rw[hsz];exact h))]at hR;rw[hR]
 ·rw[fw baa,if_neg Yt]at hR;exact⟨_,[_,_],[],Yt,⟨k+1,_,rfl,rfl,rfl,Yt,Yt,Yt,hR⟩,rfl,trivial⟩
 ·rw[jm h]at hR;rw[hR]
instance(x:cM):Ctr lim prog 120 [] [.agg [.str x.ae,.str x.aq]] (.agg [.str x.ae,.str x.aq]) [] True:=by
 refine Ctr.bd func120 ntmps120 λhp=>?_
 all_goals exact uU
instance(l:List cM):Ctr lim prog 63 [] [.ab 2 cn l] (.ad 2 cn l) [] True:=by
 refine Ctr.bd func63 ntmps63 λhp=>?_;refine AW.f0 0 λhf=>?_
 (refine vU1 ?_;intro h)
 refine AW.aw [4] [0,3] (λm xs o=>∃k:Nat,xs=[.aa k]/\o=[(h,some (mkC (cn true) [.string ⟨#[]⟩,.string ⟨#[]⟩] l k))]/\m=l.length - k/\k<=l.length) l.length [(h,some (mkC (cn true) [.string ⟨#[]⟩,.string ⟨#[]⟩] l 0))] (aF (iS _ _ _)) ⟨0,?_,rfl,rfl,?_⟩ ?_
 ·rfl
 ·omega
 rintro m xs o ⟨k,rfl,rfl,rfl,hk⟩;have hml:=jN (cn true) [.string ⟨#[]⟩,.string ⟨#[]⟩] 2 (λ_=>rfl) rfl l k hk
 (refine vX2 ?_ ?_<;>intro h)
 ·exact⟨_,[_],_,Yt,⟨k+1,rfl,rfl,rfl,Yt⟩,rfl,aF (by have:=lB (cn true) [.string ⟨#[]⟩,.string ⟨#[]⟩] 2 (λ_=>rfl) rfl l k h;simp only[go_sem,Nat.mul_one]at this ⊢;exact this.symm)⟩
 ·refine AW.made 2 rfl h hk (λ_=>rfl) ?_
  all_goals exact uU
instance(L:gaa)[hL:Lok L](x:bt):Ctr L prog 19 [] [.agg [.str x.ae,.str x.bJ,.ab 2 cn x.fArgs,.al x.cq],.agg [.str x.ae,.str x.bJ,.ab 2 cn x.fArgs,.al x.cq]] (.ac true) [] True:=by
 refine Ctr.bd func19 ntmps19 λhp=>?_
 all_goals exact uU
instance(L:gaa)[hL:Lok L](l:List bt):Ctr L prog 70 [] [.ab 4 aP l,.ab 4 aP l] (.ac true) [] True:=by
 refine Ctr.bd func70 ntmps70 λhp=>?_;refine AW.f0 0 λhf=>?_;have hf:=Nat.le_trans hf (hL.le 4)
 (refine vU1 ?_;intro h)
 refine AW.aw [5] [0,1] (λm xs o=>∃k:Nat,xs=[.aa k]/\o=[]/\m=l.length - k/\k<=l.length) l.length [] trivial ⟨0,?_,rfl,rfl,?_⟩ ?_
 ·rfl
 ·omega
 rintro m xs o ⟨k,rfl,rfl,rfl,hk⟩
 (refine vU1 ?_;intro h h)
 exact⟨_,[_],[],Yt,⟨k+1,rfl,rfl,rfl,Yt⟩,rfl,trivial⟩
instance(L:gaa)[hL:Lok L](x:bt)(r:Int):Ctr L prog 10 [] [.agg [.str x.ae,.str x.bJ,.ab 2 cn x.fArgs,.al x.cq],.aa r] (.aa (fE x r)) [] (0<=r/\r<=1048576):=by
 refine Ctr.bd func10 ntmps10 λhp=>?_;refine AW.f0 0 λhf=>?_;have le2:=ba iQ oy x.fArgs ((r - x.ae.length) - x.bJ.length)
 have le3:=ba aA aT x.cq (aM iQ x.fArgs ((r - x.ae.length) - x.bJ.length));unfold fE
 ((refine vU5 ?_ ?_ ?_ ?_ ?_<;>with_reducible repeat intro h);all_goals simp only[thn,aA,id];all_goals refine congrArg (λz=>AV.aa z) ?_;all_goals (repeat' split);all_goals omega)
instance(L:gaa)[hL:Lok L](l:List bt)(r:Int):Ctr L prog 53 [] [.ab 4 aP l,.aa r] (.aa (aM fE l r)) [] (0<=r/\r<=1048576):=by
 refine Ctr.bd func53 ntmps53 λhp=>?_;refine AW.f0 0 λhf=>?_;have hf:=Nat.le_trans hf (hL.le 4)
 (refine vU2 ?_ ?_<;>intro h)
 ·rw[fM h]
 rw[fY h];refine AW.aw [1,5] [0] (λm xs o=>∃(k:Nat) (q:Int),xs=[.aa q,.aa k]/\o=[]/\m=l.length - k/\k<=l.length/\0<=q/\q<=1048576/\eH fE (l.drop k) q=eH fE l (r - l.length)) l.length [] trivial ⟨0,_,?_,rfl,rfl,?_,?_,?_,rfl⟩ ?_
 ·rfl
 ·omega
 ·omega
 ·omega
 rintro m xs o ⟨k,q,rfl,rfl,rfl,hk,h0,h1,hR⟩;have hle:=kI (at_ l k) q h0
 (refine vU3 ?_ ?_ ?_<;>with_reducible repeat intro h)
 ·rw[fw baa,if_pos (by first|exact h|(rw[hsz];exact h))]at hR;rw[hR]
 ·rw[fw baa,if_neg Yt]at hR;exact⟨_,[_,_],[],Yt,⟨k+1,_,rfl,rfl,rfl,Yt,Yt,Yt,hR⟩,rfl,trivial⟩
 ·rw[jm h]at hR;rw[hR]
instance(x:bt):Ctr lim prog 14 [] [.agg [.str x.ae,.str x.bJ,.ab 2 cn x.fArgs,.al x.cq]] (.agg [.str x.ae,.str x.bJ,.ad 2 cn x.fArgs,.am x.cq]) [] True:=by
 refine Ctr.bd func14 ntmps14 λhp=>?_
 all_goals exact uU
instance(l:List bt):Ctr lim prog 61 [] [.ab 4 aP l] (.ad 4 aP l) [] True:=by
 refine Ctr.bd func61 ntmps61 λhp=>?_;refine AW.f0 0 λhf=>?_
 (refine vU1 ?_;intro h)
 refine AW.aw [4] [0,3] (λm xs o=>∃k:Nat,xs=[.aa k]/\o=[(h,some (mkC (aP true) [.string ⟨#[]⟩,.string ⟨#[]⟩,.slice none 0 0,.slice none 0 0] l k))]/\m=l.length - k/\k<=l.length) l.length [(h,some (mkC (aP true) [.string ⟨#[]⟩,.string ⟨#[]⟩,.slice none 0 0,.slice none 0 0] l 0))] (aF (iS _ _ _)) ⟨0,?_,rfl,rfl,?_⟩ ?_
 ·rfl
 ·omega
 rintro m xs o ⟨k,rfl,rfl,rfl,hk⟩;have hml:=jN (aP true) [.string ⟨#[]⟩,.string ⟨#[]⟩,.slice none 0 0,.slice none 0 0] 4 (λ_=>rfl) rfl l k hk
 (refine vX2 ?_ ?_<;>intro h)
 ·exact⟨_,[_],_,Yt,⟨k+1,rfl,rfl,rfl,Yt⟩,rfl,aF (by have:=lB (aP true) [.string ⟨#[]⟩,.string ⟨#[]⟩,.slice none 0 0,.slice none 0 0] 4 (λ_=>rfl) rfl l k h;simp only[go_sem,Nat.mul_one]at this ⊢;exact this.symm)⟩
 ·refine AW.made 2 rfl h hk (λ_=>rfl) ?_
  all_goals exact uU
instance(L:gaa)[hL:Lok L](x:gN):Ctr L prog 17 [] [.agg [.ab 3 aK x.aC,.ab 4 aP x.aO],.agg [.ab 3 aK x.aC,.ab 4 aP x.aO]] (.ac true) [] True:=by
 refine Ctr.bd func17 ntmps17 λhp=>?_
 all_goals exact uU
instance(L:gaa)[hL:Lok L](x:gN)(r:Int):Ctr L prog 8 [] [.agg [.ab 3 aK x.aC,.ab 4 aP x.aO],.aa r] (.aa (cw x r)) [] (0<=r/\r<=1048576):=by
 refine Ctr.bd func8 ntmps8 λhp=>?_;refine AW.f0 0 λhf=>?_;have le0:=ba dU jb x.aC r
 have le1:=ba fE kI x.aO (aM dU x.aC r);unfold cw
 ((refine vU3 ?_ ?_ ?_<;>with_reducible repeat intro h);all_goals simp only[thn,aA,id];all_goals refine congrArg (λz=>AV.aa z) ?_;all_goals (repeat' split);all_goals omega)
instance(x:gN):Ctr lim prog 12 [] [.agg [.ab 3 aK x.aC,.ab 4 aP x.aO]] (.agg [.ad 3 aK x.aC,.ad 4 aP x.aO]) [] True:=by
 refine Ctr.bd func12 ntmps12 λhp=>?_
 all_goals exact uU
