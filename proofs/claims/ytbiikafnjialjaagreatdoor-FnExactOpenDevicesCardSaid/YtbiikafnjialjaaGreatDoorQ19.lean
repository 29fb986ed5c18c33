/- Part of a proof. -/
import Derived.Test.YtbiikafnjialjaaGreatDoorQ16
import Derived.Test.YtbiikafnjialjaaGreatDoorQ18
set_option linter.all false
set_option maxRecDepth 20000
set_option maxHeartbeats 4000000
open Go.Proofs.Tryz
open List
namespace Go.Proofs
open Go.Ab Go.Dt
section
attribute [local go_sem] bL
instance(x:Dt.GStep):Ctr lim prog 371 [] [.agg [.str x.ae,.ab 2 cY x.cU]] (.ac (lq x)) [] True:=by
 refine Ctr.bd func371 ntmps371 λhp=>?_;have gOn:=bM.on;refine AW.f1 0 λhf=>?_;refine vU1 ?_;refine AW.aw [3,10] [1,8,9] (λm xs o=>∃k:Nat,xs=[.am ((x.cU.take k).map fS.ae),.aa k]/\o=[]/\m=x.cU.length - k/\k<=x.cU.length/\∀y∈x.cU.take k,(!rq y)=false) x.cU.length [] trivial ⟨0,?_,rfl,rfl,?_,?_⟩ ?_
 ·rfl
 ·omega
 ·simp
 rintro m xs o ⟨k,rfl,rfl,rfl,hk,hR⟩;have hlen:(take k x.cU).length<=2147483648:=by rw[length_take];omega
 (refine vU4 ?_ ?_ ?_ ?_<;>with_reducible repeat intro h)
 ·rw[lq,j4 baa (by rcases h with h|h<;>simp[rq,h])];try rfl
 ·exact⟨_,[_,_],[],Yt,⟨k+1,rfl,rfl,rfl,Yt,bV baa hR (by simp[rq,h.1,h.2])⟩,by rw[F3 baa];try rfl,trivial⟩
 ·rename_i hz h2;rw[F4 hz,lq,fR hz hR,h2.1,show decide (x.cU.length<=3)=true by simp;omega];try rfl
 ·rw[lq,fR baa hR]
  cases e:isName x.ae with
  | false=>rfl
  | true=>rw[show decide (x.cU.length<=3)=false by have:=h e;simp;omega];try rfl
instance(x:Dt.gm):Ctr lim prog 362 [] [.agg [.ac x.dJ,.aa x.dY,.ab 2 bp x.aX]] (.ac (j3 x)) [] True:=by
 refine Ctr.bd func362 ntmps362 λhp=>?_;have gOn:=bM.on;refine AW.f1 0 λhf=>?_;refine vU1 ?_;refine AW.aw [8] [1,6,7] (λm xs o=>∃k:Nat,xs=[.aa k]/\o=[]/\m=x.aX.length - k/\k<=x.aX.length/\∀y∈x.aX.take k,(!lq y)=false) x.aX.length [] trivial ⟨0,?_,rfl,rfl,?_,?_⟩ ?_
 ·rfl
 ·omega
 ·simp
 rintro m xs o ⟨k,rfl,rfl,rfl,hk,hR⟩
 (refine vU3 ?_ ?_ ?_<;>with_reducible repeat intro h)
 ·rw[j3,j4 baa h];try rfl
 ·exact⟨_,[_],[],Yt,⟨k+1,rfl,rfl,rfl,Yt,bV baa hR (by simp[h])⟩,rfl,trivial⟩
 ·rw[j3,fR h hR,FC];simp only[Sh,sP,kG,Bool.true_and]
instance(x:Dt.gm):Ctr lim prog 349 [] [.agg [.ac x.dJ,.aa x.dY,.ab 2 bp x.aX]] (.ac (j3 x)) [] True:=by
 refine Ctr.bd func349 ntmps349 λhp=>?_;have gOn:=bM.on;refine AW.f1 0 λhf=>?_;refine vU1 ?_;refine AW.aw [3] [1] (λm xs o=>∃k:Nat,xs=[.aa k]/\o=[]/\m=x.aX.length - k/\k<=x.aX.length/\∀y∈x.aX.take k,(!lq y)=false) x.aX.length [] trivial ⟨0,?_,rfl,rfl,?_,?_⟩ ?_
 ·rfl
 ·omega
 ·simp
 rintro m xs o ⟨k,rfl,rfl,rfl,hk,hR⟩;refine vK1 ?_;refine AW.c (λh=>?_) λh=>?_
 ·refine vK1 ?_;refine AW.fact 4 λhg=>?_;simp(disch:=omega)only[go_sem]at hg;refine AW.aw [5] [1,3,4] (λm xs o=>∃j:Nat,xs=[.aa j]/\o=[]/\m=(at_ x.aX k).cU.length - j/\j<=(at_ x.aX k).cU.length/\(∀y∈(at_ x.aX k).cU.take j,(!rq y)=false)/\cz (λi=>!cont (((at_ x.aX k).cU.map fS.ae).take i) (at_ ((at_ x.aX k).cU.map fS.ae) i)) j=true) (at_ x.aX k).cU.length [] trivial ⟨0,?_,rfl,rfl,?_,?_,rfl⟩ ?_
  ·rfl
  ·omega
  ·simp
  rintro m xs o ⟨j,rfl,rfl,rfl,hj,hS,hQ⟩;refine vK1 ?_;refine AW.c (λh=>?_) λh=>?_
  ·refine vK1 ?_;refine AW.aw [6] [1,3,4,5] (λm xs o=>∃i:Nat,xs=[.aa i]/\o=[]/\m=j - i/\i<=j/\∀y∈(((at_ x.aX k).cU.map fS.ae).take j).take i,(y == (at_ (at_ x.aX k).cU j).ae)=false) j [] trivial ⟨0,?_,rfl,rfl,?_,?_⟩ ?_
   ·rfl
   ·omega
   ·simp
   rintro m xs o ⟨i,rfl,rfl,rfl,hi,hT⟩
   (refine vU4 ?_ ?_ ?_ ?_<;>with_reducible repeat intro h)
   ·rw[Gw baa (SB baa baa h)]
   ·exact⟨_,[_],[],Yt,⟨i+1,rfl,rfl,rfl,Yt,bV (by rw[length_take,length_map];omega) hT (by rw[Eb baa,qa Yt];simpa using h)⟩,rfl,trivial⟩
   ·rw[Gw baa (Sz baa (by rcases h with h|h<;>simp[rq,h]))]
   ·rw[show i=j by omega,take_take,Nat.min_self]at hT;exact⟨_,[_],[],Yt,⟨j+1,rfl,rfl,rfl,Yt,bV baa hS (by simp[rq,h.1,h.2]),cy hQ (by rw[qa baa,tT hT];try rfl)⟩,rfl,trivial⟩
  ·have hst:=SA (s:=at_ x.aX k) h hj hS hQ
   (refine vU2 ?_ ?_<;>intro h)
   ·rw[Gw baa (by rw[hst];exact V5 h)]
   ·exact⟨_,[_],[],Yt,⟨k+1,rfl,rfl,rfl,Yt,bV baa hR (by rw[hst];simp[h.1];omega)⟩,rfl,trivial⟩
 refine vU1 ?_
 ·rw[j3,fR h hR,FC];simp only[Sh,sP,kG,Bool.true_and];refine congrArg (λb=>AV.ac b) ?_
  ac_rfl
instance(x:Dt.gm):Ctr lim prog 361 [] [.agg [.ac x.dJ,.aa x.dY,.ab 2 bp x.aX]] (.ac (yD x)) [] True:=by refine Ctr.bd func361 ntmps361 λhp=>?_;have gOn:=bM.on;refine vU1 ?_;rw[yD,lC,kG]
instance(x:Dt.gm):Ctr lim prog 350 [] [.agg [.ac x.dJ,.aa x.dY,.ab 2 bp x.aX]] (.ac (yD x)) [] True:=by refine Ctr.bd func350 ntmps350 λhp=>?_;have gOn:=bM.on;refine vU1 ?_;rw[yD,lC,kG]
instance(L:gaa)(a b:Int):Ctr L prog 348 [] [.aa a,.aa b] (.aa (max a b)) [] True:=by
 refine Ctr.bd func348 ntmps348 λhp=>?_;have gOn:=bM.on
 (refine vU2 ?_ ?_<;>intro h)
 ·rw[show max a b=b by omega]
 ·rw[show max a b=a by omega]
theorem VB(x:Dt.gm):Ctr lim prog 351 [] [.agg [.ac x.dJ,.aa x.dY,.ab 2 bp x.aX]] (.ac (vA x)) [] (j3 x=true):=by
 refine Ctr.bd func351 ntmps351 λhp=>?_;have gOn:=bM.on
 (refine vU3 ?_ ?_ ?_<;>with_reducible repeat intro h)
 ·rw[Yu hp h]
 ·exact(Rs hp baa).1
 ·rw[<- (Rs hp h).2];try rfl
end
theorem Kn:∀(n:Nat),n<=1048576->∀(x:bf),Ctr lim prog 340 [] [.agg [.aa x.fOp,.aa x.gZ,.str x.cX,.ac x.aG.dJ,.aa x.aG.dY,.ab 2 bp x.aG.aX,.ab 7 aS x.af]] (.aa (ji x)) [] (ji x<=n)
 | 0,_,x=>⟨(aU 340),λh=>absurd h (by rw[rQ];omega)⟩
 | n+1,hn,x=>by
  have ih:=Kn n Yt;refine Ctr.bd func340 ntmps340 λhp=>?_;have gOn:=bM.on;rw[rQ]at hp;refine AW.f1 0 λhf=>?_;refine vU1 ?_;refine AW.aw [3,9] [1,7,8] (λm xs o=>∃k:Nat,xs=[.aa (eK (x.af.take k)),.aa k]/\o=[]/\m=x.af.length - k/\k<=x.af.length) x.af.length [] trivial ⟨0,?_,rfl,rfl,?_⟩ ?_
  ·rfl
  ·omega
  rintro m xs o ⟨k,rfl,rfl,rfl,hk⟩;have hd:=wG x.af k
  have hkk:k<x.af.length->ji (at_ x.af k)<=n:=λh=>by have:=qz (at_mem h);omega
  (refine vU2 ?_ ?_<;>with_reducible repeat intro h)
  ·exact⟨_,[_,_],[],Yt,⟨k+1,rfl,rfl,rfl,Yt⟩,by rw[CL baa,Wx];try rfl,trivial⟩
  ·rw[rQ,show k=x.af.length by omega,take_length]
instance(x:bf):Ctr lim prog 340 [] [.agg [.aa x.fOp,.aa x.gZ,.str x.cX,.ac x.aG.dJ,.aa x.aG.dY,.ab 2 bp x.aG.aX,.ab 7 aS x.af]] (.aa (ji x)) [] (ji x<=1048576):=Kn 1048576 (Nat.le_refl _) x
theorem JN:∀(n:Nat),n<=1048576->∀(x:bf),Ctr lim prog 331 [] [.agg [.aa x.fOp,.aa x.gZ,.str x.cX,.ac x.aG.dJ,.aa x.aG.dY,.ab 2 bp x.aG.aX,.ab 7 aS x.af]] (.aa (ji x)) [] (ji x<=n)
 | 0,_,x=>⟨(aU 331),λh=>absurd h (by rw[rQ];omega)⟩
 | n+1,hn,x=>by
  have ih:=JN n Yt;refine Ctr.bd func331 ntmps331 λhp=>?_;have gOn:=bM.on;rw[rQ]at hp;refine AW.f1 0 λhf=>?_;refine vU1 ?_;refine AW.aw [3,4] [1] (λm xs o=>∃k:Nat,xs=[.aa (eK (x.af.take k)),.aa k]/\o=[]/\m=x.af.length - k/\k<=x.af.length) x.af.length [] trivial ⟨0,?_,rfl,rfl,?_⟩ ?_
  ·rfl
  ·omega
  rintro m xs o ⟨k,rfl,rfl,rfl,hk⟩;have hd:=wG x.af k
  have hkk:k<x.af.length->ji (at_ x.af k)<=n:=λh=>by have:=qz (at_mem h);omega
  (refine vU2 ?_ ?_<;>intro h)
  ·exact⟨_,[_,_],[],Yt,⟨k+1,rfl,rfl,rfl,Yt⟩,by rw[CL baa,Ub];try rfl,trivial⟩
  ·rw[rQ,show k=x.af.length by omega,take_length]
instance(x:bf):Ctr lim prog 331 [] [.agg [.aa x.fOp,.aa x.gZ,.str x.cX,.ac x.aG.dJ,.aa x.aG.dY,.ab 2 bp x.aG.aX,.ab 7 aS x.af]] (.aa (ji x)) [] (ji x<=1048576):=JN 1048576 (Nat.le_refl _) x
theorem R1:∀(n:Nat) (x:bf),Ctr lim prog 341 [] [.agg [.aa x.fOp,.aa x.gZ,.str x.cX,.ac x.aG.dJ,.aa x.aG.dY,.ab 2 bp x.aG.aX,.ab 7 aS x.af]] (.ac (vE x)) [] (SizeOf.sizeOf x<n)
 | 0,x=>⟨(aU 341),λh=>absurd h (Nat.not_lt_zero _)⟩
 | n+1,x=>by
  have ih:=R1 n;refine Ctr.bd func341 ntmps341 λhp=>?_;have gOn:=bM.on
  have hkk:∀k,k<x.af.length->SizeOf.sizeOf (at_ x.af k)<n:=λk h=>by have:=bf.Cu (at_mem h);omega
  refine AW.f1 0 λhf=>?_
  (refine vU ?_;with_reducible repeat' first|exact Le.l|apply Sw|intro h)
  ·rw[qZ (by rw[ik,fD,exL,iH];grind)]
  ·refine congrArg (λb=>AV.ac b) ?_;rw[nF,y5 (by grind),ik,fD,exL,iH];grind
  ·rw[qZ (by rw[ik,fD,exL,iH];grind)]
  ·refine congrArg (λb=>AV.ac b) ?_;rw[nF,y5 (by grind),ik,fD,exL,iH];grind
  ·rw[qZ (by rw[ik,fD,exL,iH];grind)]
  ·refine congrArg (λb=>AV.ac b) ?_;rw[nF,y5 (by grind),ik,fD,exL,iH];simp only[lC];simp only[kG,sP,vA];grind
  ·rw[qZ (by rw[ik,fD,exL,iH];grind)]
  ·refine congrArg (λb=>AV.ac b) ?_;rw[nF,y5 (by grind),ik,fD,exL,iH];grind
  ·rw[qZ (by rw[ik,fD,exL,iH];grind)]
  ·refine AW.aw [144] [1,142,143] (λm xs o=>∃k:Nat,xs=[.aa k]/\o=[]/\m=x.af.length - k/\k<=x.af.length/\∀y∈x.af.take k,(!vE y)=false) x.af.length [] trivial ⟨0,?_,rfl,rfl,?_,?_⟩ ?_
   ·rfl
   ·omega
   ·simp
   rintro m xs o ⟨k,rfl,rfl,rfl,hk,hR⟩;have hkk:=hkk k
   (refine vU3 ?_ ?_ ?_<;>with_reducible repeat intro h)
   ·rw[Fy baa h]
   ·exact⟨_,[_],[],Yt,⟨k+1,rfl,rfl,rfl,Yt,bV baa hR (by simp[h])⟩,rfl,trivial⟩
   ·rw[nF,fR baa hR,ik,fD,exL,iH];congr 2;grind
  ·rw[qZ (by rw[ik,fD,exL,iH];grind)]
  ·refine AW.aw [144] [1,142,143] (λm xs o=>∃k:Nat,xs=[.aa k]/\o=[]/\m=x.af.length - k/\k<=x.af.length/\∀y∈x.af.take k,(!vE y)=false) x.af.length [] trivial ⟨0,?_,rfl,rfl,?_,?_⟩ ?_
   ·rfl
   ·omega
   ·simp
   rintro m xs o ⟨k,rfl,rfl,rfl,hk,hR⟩;have hkk:=hkk k
   (refine vU3 ?_ ?_ ?_<;>with_reducible repeat intro h)
   ·rw[Fy baa h]
   ·exact⟨_,[_],[],Yt,⟨k+1,rfl,rfl,rfl,Yt,bV baa hR (by simp[h])⟩,rfl,trivial⟩
   ·rw[nF,fR baa hR,ik,fD,exL,iH];congr 2;grind
instance(x:bf):Ctr lim prog 341 [] [.agg [.aa x.fOp,.aa x.gZ,.str x.cX,.ac x.aG.dJ,.aa x.aG.dY,.ab 2 bp x.aG.aX,.ab 7 aS x.af]] (.ac (vE x)) [] True:=⟨(aU 341),λ_=>(R1 (SizeOf.sizeOf x+1) x).out (Nat.lt_succ_self _)⟩
theorem RN:∀(n:Nat) (x:bf),Ctr lim prog 332 [] [.agg [.aa x.fOp,.aa x.gZ,.str x.cX,.ac x.aG.dJ,.aa x.aG.dY,.ab 2 bp x.aG.aX,.ab 7 aS x.af]] (.ac (vE x)) [] (SizeOf.sizeOf x<n)
 | 0,x=>⟨(aU 332),λh=>absurd h (Nat.not_lt_zero _)⟩
 | n+1,x=>by
  have ih:=RN n
  haveI hw:=VB x.aG;refine Ctr.bd func332 ntmps332 λhp=>?_;have gOn:=bM.on
  have hkk:∀k,k<x.af.length->SizeOf.sizeOf (at_ x.af k)<n:=λk h=>by have:=bf.Cu (at_mem h);omega
  refine AW.f1 0 λhf=>?_
  (refine vU ?_;with_reducible repeat' first|exact Le.l|apply Sw|intro h)
  ·rw[qZ (by rw[ik,fD,exL,iH];grind)]
  ·refine AW.aw [6] [1,3] (λm xs o=>∃k:Nat,xs=[.aa k]/\o=[]/\m=x.af.length - k/\k<=x.af.length/\∀y∈x.af.take k,(!vE y)=false) x.af.length [] trivial ⟨0,?_,rfl,rfl,?_,?_⟩ ?_
   ·rfl
   ·omega
   ·simp
   rintro m xs o ⟨k,rfl,rfl,rfl,hk,hR⟩;have hkk:=hkk k
   (refine vU1 ?_;intro h)
   ·rw[nF,fR (show ¬k<x.af.length by omega) hR,ik,fD,exL,iH];congr 2;grind
  ·rw[qZ (by rw[ik,fD,exL,iH];grind)]
  ·refine AW.aw [6] [1,3] (λm xs o=>∃k:Nat,xs=[.aa k]/\o=[]/\m=x.af.length - k/\k<=x.af.length/\∀y∈x.af.take k,(!vE y)=false) x.af.length [] trivial ⟨0,?_,rfl,rfl,?_,?_⟩ ?_
   ·rfl
   ·omega
   ·simp
   rintro m xs o ⟨k,rfl,rfl,rfl,hk,hR⟩;have hkk:=hkk k
   (refine vU1 ?_;intro h)
   ·rw[nF,fR (show ¬k<x.af.length by omega) hR,ik,fD,exL,iH];congr 2;grind
  ·rw[qZ (by rw[ik,fD,exL,iH];grind)]
  ·refine AW.aw [6] [1,3] (λm xs o=>∃k:Nat,xs=[.aa k]/\o=[]/\m=x.af.length - k/\k<=x.af.length/\∀y∈x.af.take k,(!vE y)=false) x.af.length [] trivial ⟨0,?_,rfl,rfl,?_,?_⟩ ?_
   ·rfl
   ·omega
   ·simp
   rintro m xs o ⟨k,rfl,rfl,rfl,hk,hR⟩;have hkk:=hkk k
   (refine vU1 ?_;intro h)
   ·rw[nF,fR (show ¬k<x.af.length by omega) hR,ik,fD,exL,iH];congr 2;grind
  ·rw[qZ (by rw[ik,fD,exL,iH];grind)]
  ·refine AW.aw [6] [1,3] (λm xs o=>∃k:Nat,xs=[.aa k]/\o=[]/\m=x.af.length - k/\k<=x.af.length/\∀y∈x.af.take k,(!vE y)=false) x.af.length [] trivial ⟨0,?_,rfl,rfl,?_,?_⟩ ?_
   ·rfl
   ·omega
   ·simp
   rintro m xs o ⟨k,rfl,rfl,rfl,hk,hR⟩;have hkk:=hkk k
   (refine vU3 ?_ ?_ ?_<;>with_reducible repeat intro h)
   ·rw[Fy (show k<x.af.length by omega) h]
   ·exact⟨_,[_],[],Yt,⟨k+1,rfl,rfl,rfl,Yt,bV Yt hR (by simp[h])⟩,rfl,trivial⟩
   ·rw[nF,fR (show ¬k<x.af.length by omega) hR,ik,fD,exL,iH];congr 2;grind
  ·rw[qZ (by rw[ik,fD,exL,iH];grind)]
  ·refine AW.aw [6] [1,3] (λm xs o=>∃k:Nat,xs=[.aa k]/\o=[]/\m=x.af.length - k/\k<=x.af.length/\∀y∈x.af.take k,(!vE y)=false) x.af.length [] trivial ⟨0,?_,rfl,rfl,?_,?_⟩ ?_
   ·rfl
   ·omega
   ·simp
   rintro m xs o ⟨k,rfl,rfl,rfl,hk,hR⟩;have hkk:=hkk k
   (refine vU3 ?_ ?_ ?_<;>with_reducible repeat intro h)
   ·rw[Fy (show k<x.af.length by omega) h]
   ·exact⟨_,[_],[],Yt,⟨k+1,rfl,rfl,rfl,Yt,bV Yt hR (by simp[h])⟩,rfl,trivial⟩
   ·rw[nF,fR (show ¬k<x.af.length by omega) hR,ik,fD,exL,iH];congr 2;grind
  ·rw[qZ (by rw[ik,fD,exL,iH];grind)]
instance(x:bf):Ctr lim prog 332 [] [.agg [.aa x.fOp,.aa x.gZ,.str x.cX,.ac x.aG.dJ,.aa x.aG.dY,.ab 2 bp x.aG.aX,.ab 7 aS x.af]] (.ac (vE x)) [] True:=⟨(aU 332),λ_=>(RN (SizeOf.sizeOf x+1) x).out (Nat.lt_succ_self _)⟩
instance(x:bf):Ctr lim prog 319 [] [.agg [.aa x.fOp,.aa x.gZ,.str x.cX,.ac x.aG.dJ,.aa x.aG.dY,.ab 2 bp x.aG.aX,.ab 7 aS x.af]] (.ac (Be x)) [] (ji x<=1048576):=by refine Ctr.bd func319 ntmps319 λhp=>?_;have gOn:=bM.on;refine vU1 ?_;rw[Be,show decide ((ji x:Int)<=8)=decide (ji x<=8)from decide_eq_decide.2 Yt]
instance(x:bf):Ctr lim prog 311 [] [.agg [.aa x.fOp,.aa x.gZ,.str x.cX,.ac x.aG.dJ,.aa x.aG.dY,.ab 2 bp x.aG.aX,.ab 7 aS x.af]] (.ac (Be x)) [] (ji x<=1048576):=by refine Ctr.bd func311 ntmps311 λhp=>?_;have gOn:=bM.on;refine vU1 ?_;rw[Be,show decide ((ji x:Int)<=8)=decide (ji x<=8)from decide_eq_decide.2 Yt]
section
attribute [local go_sem] bL aV
def Uf(a b:Nat):(if 1+(b:Int) > (a:Int) then 1+(b:Int) else (a:Int))=((max a (1+b):Nat):Int):=by split<;>omega
instance(L:gaa)(k:Int):Ctr L prog 290 [] [.aa k] (.ac (dR k)) [] (True):=by refine Ctr.bd func290 ntmps290 λhp=>?_;have gOn:=bM.on;refine vU1 ?_;refine congrArg (λb=>AV.ac b) ?_;unfold dR;grind
instance(L:gaa)(k:Int):Ctr L prog 179 [] [.aa k] (.ac (dR k)) [] (True):=by refine Ctr.bd func179 ntmps179 λhp=>?_;have gOn:=bM.on;refine vU1 ?_;refine congrArg (λb=>AV.ac b) ?_;unfold dR;grind
instance(x:dB):Ctr lim prog 289 [] [.agg [.aa x.aj,.ab 2 aW x.az,.al x.aB,.str x.aZ,.str x.aG]] (.ac (nT x)) [] (True):=by refine Ctr.bd func289 ntmps289 λhp=>?_;have gOn:=bM.on;refine vU1 ?_;refine congrArg (λb=>AV.ac b) ?_;rw[nT];simp only[lC,mH];simp only[kG]
instance(x:dB):Ctr lim prog 277 [] [.agg [.aa x.aj,.ab 2 aW x.az,.al x.aB,.str x.aZ,.str x.aG]] (.ac (nT x)) [] (True):=by refine Ctr.bd func277 ntmps277 λhp=>?_;have gOn:=bM.on;refine vU1 ?_;refine congrArg (λb=>AV.ac b) ?_;rw[nT];simp only[lC,mH];simp only[kG]
instance(x:ag):Ctr lim prog 291 [] [.agg (cSc x)] (.ac (pg x)) [] (True):=by refine Ctr.bd func291 ntmps291 λhp=>?_;have gOn:=bM.on;refine vU1 ?_;refine congrArg (λb=>AV.ac b) ?_;rw[pg];grind
instance(x:ag):Ctr lim prog 279 [] [.agg (cSc x)] (.ac (pg x)) [] (True):=by refine Ctr.bd func279 ntmps279 λhp=>?_;have gOn:=bM.on;refine vU1 ?_;refine congrArg (λb=>AV.ac b) ?_;rw[pg];grind
instance(l:List bf)(q:Int):Ctr lim prog 288 [] [.ab 7 aS l,.aa q] (.ac (exS l q)) [] (eK l<=1048576):=by
 refine Ctr.bd func288 ntmps288 λhp=>?_;have gOn:=bM.on;refine AW.f1 0 λhf=>?_;refine vU1 ?_;refine AW.aw [9] [0,1,7,8] (λm xs o=>∃k:Nat,xs=[.aa k]/\o=[]/\m=l.length - k/\k<=l.length/\∀y∈l.take k,(!Be y)=false) l.length [] trivial ⟨0,?_,rfl,rfl,?_,?_⟩ ?_
 ·rfl
 ·omega
 ·simp
 rintro m xs o ⟨k,rfl,rfl,rfl,hk,hR⟩;have hkk:k<l.length->ji (at_ l k)<=1048576:=λh=>by have:=qz (at_mem h);omega
 (refine vU3 ?_ ?_ ?_<;>with_reducible repeat intro h)
 ·rw[exS,j4 baa h];try rfl
 ·exact⟨_,[_],[],Yt,⟨k+1,rfl,rfl,rfl,Yt,bV baa hR (by simp[h])⟩,rfl,trivial⟩
 ·rw[exS,fR baa hR];try rfl
instance(l:List bf)(q:Int):Ctr lim prog 276 [] [.ab 7 aS l,.aa q] (.ac (exS l q)) [] (eK l<=1048576):=by
 refine Ctr.bd func276 ntmps276 λhp=>?_;have gOn:=bM.on;refine AW.f1 0 λhf=>?_;refine vU1 ?_;refine AW.aw [5] [0,1] (λm xs o=>∃k:Nat,xs=[.aa k]/\o=[]/\m=l.length - k/\k<=l.length/\∀y∈l.take k,(!Be y)=false) l.length [] trivial ⟨0,?_,rfl,rfl,?_,?_⟩ ?_
 ·rfl
 ·omega
 ·simp
 rintro m xs o ⟨k,rfl,rfl,rfl,hk,hR⟩;have hkk:k<l.length->ji (at_ l k)<=1048576:=λh=>by have:=qz (at_mem h);omega
 (refine vU3 ?_ ?_ ?_<;>with_reducible repeat intro h)
 ·rw[exS,j4 baa h];try rfl
 ·exact⟨_,[_],[],Yt,⟨k+1,rfl,rfl,rfl,Yt,bV baa hR (by simp[h])⟩,rfl,trivial⟩
 ·rw[exS,fR baa hR];try rfl
instance(l:List ag):Ctr lim prog 197 [] [.ab 19 ak l] (.am (nmS l)) [] (True):=by
 refine Ctr.bd func197 ntmps197 λhp=>?_;have gOn:=bM.on;refine AW.f1 0 λhf=>?_;refine vU1 ?_;refine AW.aw [3,9] [7,8] (λm xs o=>∃k:Nat,xs=[.am ((l.take k).map ag.ae),.aa k]/\o=[]/\m=l.length - k/\k<=l.length) l.length [] trivial ⟨0,?_,rfl,rfl,?_⟩ ?_
 ·rfl
 ·omega
 rintro m xs o ⟨k,rfl,rfl,rfl,hk⟩;have hlen:(take k l).length<=2147483648:=by rw[length_take];omega
 (refine vU2 ?_ ?_<;>with_reducible repeat intro h)
 ·exact⟨_,[_,_],[],Yt,⟨k+1,rfl,rfl,rfl,Yt⟩,by rw[F3 baa];try rfl,trivial⟩
 ·rw[F4 baa];try rfl
theorem Ko:∀(n:Nat) (l:List ag),Ctr lim prog 193 [] [.ab 19 ak l] (.aa (cl l)) [] (SizeOf.sizeOf l<n/\cl l<=1048576)
 | 0,l=>⟨(aU 193),λh=>absurd h.1 (Nat.not_lt_zero _)⟩
 | n+1,l=>by
  have ih:=Ko n;refine Ctr.bd func193 ntmps193 λhp=>?_;have gOn:=bM.on;obtain⟨hs,hb⟩:=hp;refine AW.f1 0 λhf=>?_;refine vU1 ?_;refine AW.aw [3,10] [8,9] (λm xs o=>∃k:Nat,xs=[.aa ((l.length - k+cl (l.take k):Nat):Int),.aa k]/\o=[]/\m=l.length - k/\k<=l.length) l.length [] trivial ⟨0,?_,rfl,rfl,?_⟩ ?_
  ·rw[show l.length - 0+cl (l.take 0)=l.length by simp[cl]];try rfl
  ·omega
  rintro m xs o ⟨k,rfl,rfl,rfl,hk⟩;have h1:=qA l k
  have h2:k<l.length->SizeOf.sizeOf (at_ l k).af<n/\cl (at_ l k).af<=1048576:=λh=>by
   have:=sQ (at_mem h);have:=ag.dH (at_mem h);omega
  have h3:k<l.length->cl (l.take (k+1))<=cl l:=λ_=>by have:=qA l (k+1);omega
  (refine vU2 ?_ ?_<;>with_reducible repeat intro h)
  ·exact⟨_,[_,_],[],Yt,⟨k+1,rfl,rfl,rfl,Yt⟩,by rw[show l.length - (k+1)+cl (l.take (k+1))=l.length - k+cl (l.take k)+cl (at_ l k).af by rw[O5 baa];omega];try rfl,trivial⟩
  ·rw[show l.length - k+cl (l.take k)=cl l by rw[take_of_length_le Yt];omega]
theorem Km:∀(n:Nat) (l:List ag),Ctr lim prog 194 [] [.ab 19 ak l] (.aa (fK l)) [] (SizeOf.sizeOf l<n/\fK l<=1048576)
 | 0,l=>⟨(aU 194),λh=>absurd h.1 (Nat.not_lt_zero _)⟩
 | n+1,l=>by
  have ih:=Km n;refine Ctr.bd func194 ntmps194 λhp=>?_;have gOn:=bM.on;obtain⟨hs,hb⟩:=hp;refine AW.f1 0 λhf=>?_;refine vU1 ?_;refine AW.aw [3,8] [6,7] (λm xs o=>∃k:Nat,xs=[.aa ((fK (l.take k):Nat):Int),.aa k]/\o=[]/\m=l.length - k/\k<=l.length) l.length [] trivial ⟨0,?_,rfl,rfl,?_⟩ ?_
  ·rw[show fK (l.take 0)=0 by simp[fK]];try rfl
  ·omega
  rintro m xs o ⟨k,rfl,rfl,rfl,hk⟩;have h1:=yl l k
  have h2:k<l.length->SizeOf.sizeOf (at_ l k).af<n/\fK (at_ l k).af<=1048576:=λh=>by
   have:=Bj (at_mem h);have:=ag.dH (at_mem h);omega
  have h3:k<l.length->fK (l.take (k+1))<=fK l:=λ_=>by have:=yl l (k+1);omega
  (refine vU2 ?_ ?_<;>with_reducible repeat intro h)
  ·exact⟨_,[_,_],[],Yt,⟨k+1,rfl,rfl,rfl,Yt⟩,by rw[O1 baa,Uf];try rfl,trivial⟩
  ·rw[take_of_length_le Yt]
instance(l:List ag):Ctr lim prog 193 [] [.ab 19 ak l] (.aa (cl l)) [] (cl l<=1048576):=⟨(aU 193),λh=>(Ko (SizeOf.sizeOf l+1) l).out ⟨Nat.lt_succ_self _,h⟩⟩
instance(l:List ag):Ctr lim prog 194 [] [.ab 19 ak l] (.aa (fK l)) [] (fK l<=1048576):=⟨(aU 194),λh=>(Km (SizeOf.sizeOf l+1) l).out ⟨Nat.lt_succ_self _,h⟩⟩
end
section
def eW(l:List ag):(l.map (ak false)).all (AV.elem 19)=true:=ez (λx=>by rw[dK];try rfl) l
def eV(l:List ag):((l.map (ak false)).flatMap AV.cells).all AV.one=true:=eO (λx=>by rw[dK];try rfl) l
def Xx(l:List Bool):(l.map λb=>AV.ac b).all (AV.elem 1)=true:=ez (λ_=>rfl) l
def Xw(l:List Bool):((l.map λb=>AV.ac b).flatMap AV.cells).all AV.one=true:=eO (λ_=>rfl) l
attribute [local go_sem] bL aV eW eV Xx Xw D4
theorem HK:∀(n:Nat) (l:List ag) (h:Bool),Ctr lim prog 255 [] [.ab 19 ak l,.ac h] (.tup [.sl true 19 ((dk l).map (ak false)),.sl true 1 ((dkF l h).map λb=>.ac b)]) [] (SizeOf.sizeOf l<n/\cl l<=1048576)
 | 0,l,_=>⟨(aU 255),λh=>absurd h.1 (Nat.not_lt_zero _)⟩
 | n+1,l,h=>by
  have ih:=HK n;refine Ctr.bd func255 ntmps255 λhp=>?_;have gOn:=bM.on;obtain⟨hs,hb⟩:=hp;refine AW.f1 0 λhf=>?_;refine vU1 ?_;refine AW.aw [6,7,16] [1,14,15] (λm xs o=>∃k:Nat,xs=[.sl true 19 ((dk (l.take k)).map (ak false)),.sl true 1 ((dkF (l.take k) h).map λb=>.ac b),.aa k]/\o=[]/\m=l.length - k/\k<=l.length) l.length [] trivial ⟨0,?_,rfl,rfl,?_⟩ ?_
  ·rw[take_zero,dk,dkF];try rfl
  ·omega
  rintro m xs o ⟨k,rfl,rfl,rfl,hk⟩;have h1:=n8 (l.take k)
  have h3:=KL (l:=l) (k:=k)
  have h4:k<l.length->SizeOf.sizeOf (at_ l k).af<n/\cl (at_ l k).af<=1048576:=λh=>by
   have:=sQ (at_mem h);have:=ag.dH (at_mem h);omega
  have h6:=n8 (at_ l k).af
  have h7:=n8 (l.take (k+1))
  (refine vU4 ?_ ?_ ?_ ?_<;>with_reducible repeat intro h)
  ·rename_i hk1 _;exact⟨_,[_,_,_],[],Yt,⟨k+1,rfl,rfl,rfl,Yt⟩,by rw[rO hk1,Bg hk1,if_pos h,if_pos h,map_append,map_append,map_cons,map_nil,dK];try rfl,trivial⟩
  ·rename_i hk1 _ hd;exact⟨_,[_,_,_],[],Yt,⟨k+1,rfl,rfl,rfl,Yt⟩,by rw[rO hk1,Bg hk1,if_neg (by rw[hd];simp),if_pos h,if_neg (by rw[hd];simp),if_pos h,map_append,map_append];try rfl,trivial⟩
  ·rename_i hk1 _ hd;exact⟨_,[_,_,_],[],Yt,⟨k+1,rfl,rfl,rfl,Yt⟩,by rw[rO hk1,Bg hk1,if_neg (by rw[hd];simp),if_neg Yt,if_neg (by rw[hd];simp),if_neg Yt,append_nil,append_nil];try rfl,trivial⟩
  ·rw[take_of_length_le Yt]
instance(l:List ag)(h:Bool):Ctr lim prog 255 [] [.ab 19 ak l,.ac h] (.tup [.sl true 19 ((dk l).map (ak false)),.sl true 1 ((dkF l h).map λb=>.ac b)]) [] (cl l<=1048576):=⟨(aU 255),λc=>(HK (SizeOf.sizeOf l+1) l h).out ⟨Nat.lt_succ_self _,c⟩⟩
instance fg(l:List ag):Ctr lim prog 196 [] [.ab 19 ak l] (.sl true 19 ((dk l).map (ak false))) [] (cl l<=1048576):=by
 refine Ctr.bd func196 ntmps196 λhp=>?_;have gOn:=bM.on;exact vU0
 all_goals skip
instance(L:gaa)[hL:Lok L](l:List ag)(n:Str):Ctr L prog 176 [] [.ab 19 ak l,.str n] (.aa (idx (nmP n) l)) [] True:=by
 refine Ctr.bd func176 ntmps176 λhp=>?_;have gOn:=bM.on;refine AW.f1 0 λhf=>?_;have hf:=Nat.le_trans hf (hL.le 19);refine vU1 ?_;refine AW.aw [5] [0,1] (λm xs o=>∃k:Nat,xs=[.aa k]/\o=[]/\m=l.length - k/\k<=l.length/\∀x∈l.take k,nmP n x=false) l.length [] trivial ⟨0,?_,rfl,rfl,?_,?_⟩ ?_
 ·rfl
 ·omega
 ·simp
 rintro m xs o ⟨k,rfl,rfl,rfl,hk,hR⟩
 (refine vU3 ?_ ?_ ?_<;>with_reducible repeat intro h)
 ·rw[gR (p:=nmP n) baa hR (by simpa[nmP]using h)]
 ·exact⟨_,[_],[],Yt,⟨k+1,rfl,rfl,rfl,Yt,bV (p:=nmP n) baa hR (by simpa[nmP]using h)⟩,rfl,trivial⟩
 ·rw[jr (p:=nmP n) h hR]
end
instance(L:gaa)(x:aE)(n:Str):Ctr L prog 122 [] [.agg [.str x.ae,.ab 6 bB x.aI,.ab 3 ai x.dq],.vp [.str n]] (.ac (x.ae == n)) [] True:=by
 refine Ctr.bd func122 ntmps122 λhp=>?_
 all_goals exact uU
instance(L:gaa)[hL:Lok L](l:List aE)(n:Str):Ctr L prog 121 [] [.ab 3 aK l,.fn 122 [.vp [.str n]]] (.aa (tmI l n)) [] True:=by
 refine Ctr.bd func121 ntmps121 λhp=>?_;refine AW.f1 0 λhf=>?_;have hf:=Nat.le_trans hf (hL.le 3);refine vU1 ?_;refine AW.aw [8] [0,1,7] (λm xs o=>∃k:Nat,xs=[.aa k]/\o=[]/\m=l.length - k/\k<=l.length/\∀x∈l.take k,(x.ae == n)=false) l.length [] trivial ⟨0,?_,rfl,rfl,?_,?_⟩ ?_
 ·rfl
 ·omega
 ·simp
 rintro m xs o ⟨k,rfl,rfl,rfl,hk,hR⟩
 (refine vU3 ?_ ?_ ?_<;>with_reducible repeat intro h)
 ·rw[tmI,gR (p:=λx:aE=>x.ae == n) baa hR (by simpa using h)]
 ·exact⟨_,[_],[],Yt,⟨k+1,rfl,rfl,rfl,Yt,bV (p:=λx:aE=>x.ae == n) baa hR (by simpa using h)⟩,rfl,trivial⟩
 ·rw[tmI,jr (p:=λx:aE=>x.ae == n) h hR]
instance(L:gaa)[hL:Lok L](T:List aE)(S:List bt)(n:Str):Ctr L prog 65 [] [.agg [.ab 3 aK T,.ab 4 aP S],.str n] (.aa (tmI T n)) [] True:=by
 refine Ctr.bd func65 ntmps65 λhp=>?_
 all_goals exact uU
instance(L:gaa)[hL:Lok L](l:List aE)(S:List bt)(n:Str):Ctr L prog 57 [] [.agg [.ab 3 aK l,.ab 4 aP S],.str n] (.aa (tmI l n)) [] True:=by
 refine Ctr.bd func57 ntmps57 λhp=>?_;refine AW.f1 0 λhf=>?_;have hf:=Nat.le_trans hf.1 (hL.le 3);refine vU1 ?_;refine AW.aw [5] [1,2] (λm xs o=>∃k:Nat,xs=[.aa k]/\o=[]/\m=l.length - k/\k<=l.length/\∀x∈l.take k,(x.ae == n)=false) l.length [] trivial ⟨0,?_,rfl,rfl,?_,?_⟩ ?_
 ·rfl
 ·omega
 ·simp
 rintro m xs o ⟨k,rfl,rfl,rfl,hk,hR⟩
 (refine vU3 ?_ ?_ ?_<;>with_reducible repeat intro h)
 ·rw[tmI,gR (p:=λx:aE=>x.ae == n) baa hR (by simpa using h)]
 ·exact⟨_,[_],[],Yt,⟨k+1,rfl,rfl,rfl,Yt,bV (p:=λx:aE=>x.ae == n) baa hR (by simpa using h)⟩,rfl,trivial⟩
 ·rw[tmI,jr (p:=λx:aE=>x.ae == n) h hR]
instance(L:gaa)[hL:Lok L](l:List Str)(n:Str):Ctr L prog 83 [] [.al l,.str n] (.ac (cont l n)) [] True:=by
 refine Ctr.bd func83 ntmps83 λhp=>?_;refine AW.f1 0 λhf=>?_;have hf:=Nat.le_trans hf (hL.le 1);refine vU1 ?_;refine AW.aw [5] [0,1] (λm xs o=>∃k:Nat,xs=[.aa k]/\o=[]/\m=l.length - k/\k<=l.length/\∀x∈l.take k,(x == n)=false) l.length [] trivial ⟨0,?_,rfl,rfl,?_,?_⟩ ?_
 ·rfl
 ·omega
 ·simp
 rintro m xs o ⟨k,rfl,rfl,rfl,hk,hR⟩
 (refine vU3 ?_ ?_ ?_<;>with_reducible repeat intro h)
 ·rw[cont,gR (p:=λx:Str=>x == n) baa hR (by simpa using h)];simp
 ·exact⟨_,[_],[],Yt,⟨k+1,rfl,rfl,rfl,Yt,bV (p:=λx:Str=>x == n) baa hR (by simpa using h)⟩,rfl,trivial⟩
 ·rw[cont,jr (p:=λx:Str=>x == n) h hR];rfl
instance(T:List aE)(S:List bt)(x:bt):Ctr lim prog 139 [] [.agg [.ab 3 aK T,.ab 4 aP S],.agg [.str x.ae,.str x.bJ,.ab 2 cn x.fArgs,.al x.cq]] (.ac (svc T x)) [] True:=by
 refine Ctr.bd func139 ntmps139 λhp=>?_;refine AW.f1 1 λhf=>?_;refine vU1 ?_;refine AW.aw [5] [2,3] (λm xs o=>∃k:Nat,xs=[.aa k]/\o=[]/\m=x.cq.length - k/\k<=x.cq.length/\cz (λj=>isName (at_ x.cq j)) k=true/\cz (λj=>!cont (x.cq.take j) (at_ x.cq j)) k=true) x.cq.length [] trivial ⟨0,?_,rfl,rfl,?_,rfl,rfl⟩ ?_
 ·rfl
 ·omega
 rintro m xs o ⟨k,rfl,rfl,rfl,hk,hR,hQ⟩
 (repeat' first|(with_reducible first|refine Z ?_|refine Y ?_|(refine hK _ _ ?_;clear hK K)|refine And.intro ?_ ?_|exact Ct|intro(K:_->_->Prop) hK|(refine gI λhg=>?_;try simp only[hC,reduceCtorEq]at hg;try simp only[hg]))|(refine AW.i rfl (λh=>?_) (λh=>?_)<;>try simp only[hC,reduceCtorEq]at h)|((with_reducible refine E ?_;repeat refine Y ?_);refine eF rfl ?_)|simp(disch:=omega)only[go_sem,<- map_take,Int.toNat_zero,drop_zero]|(with_reducible intro hg;try simp only[hC,reduceCtorEq]at hg)|exact Cl|fail)
 ·rename_i hkl;rcases h with h|h
  ·rw[svc,show names x.cq=false from cV hkl h];simp
  ·rw[svc,show cE x.cq=false from cV hkl (by simp[h])];simp
 ·exact⟨_,[_],[],Yt,⟨k+1,rfl,rfl,rfl,Yt,cy hR h.1,cy hQ (by simp[h.2])⟩,rfl,trivial⟩
 ·rw[show k=x.cq.length by omega]at hR hQ;rw[svc,show names x.cq=true from hR,show cE x.cq=true from hQ];simp
instance(L:gaa)(x:ah)(n:Str):Ctr L prog 293 [] [.agg (cNo x),.vp [.str n]] (.ac (x.ae == n)) [] True:=by
 refine Ctr.bd func293 ntmps293 λhp=>?_
 all_goals exact uU
instance(L:gaa)[hL:Lok L](l:List ah)(n:Str):Ctr L prog 292 [] [.ab 3 ai l,.fn 293 [.vp [.str n]]] (.aa (idx (ndP n) l)) [] True:=by
 refine Ctr.bd func292 ntmps292 λhp=>?_;refine AW.f1 0 λhf=>?_;have hf:=Nat.le_trans hf (hL.le 3);refine vU1 ?_;refine AW.aw [8] [0,1,7] (λm xs o=>∃k:Nat,xs=[.aa k]/\o=[]/\m=l.length - k/\k<=l.length/\∀x∈l.take k,ndP n x=false) l.length [] trivial ⟨0,?_,rfl,rfl,?_,?_⟩ ?_
 ·rfl
 ·omega
 ·simp
 rintro m xs o ⟨k,rfl,rfl,rfl,hk,hR⟩
 (refine vU3 ?_ ?_ ?_<;>with_reducible repeat intro h)
 ·rw[gR (p:=ndP n) baa hR (by simpa[ndP]using h)]
 ·exact⟨_,[_],[],Yt,⟨k+1,rfl,rfl,rfl,Yt,bV (p:=ndP n) baa hR (by simpa[ndP]using h)⟩,rfl,trivial⟩
 ·rw[jr (p:=ndP n) h hR]
instance(L:gaa)[hL:Lok L](l:List ah)(n:Str):Ctr L prog 256 [] [.ab 3 ai l,.str n] (.aa (idx (ndP n) l)) [] True:=by
 refine Ctr.bd func256 ntmps256 λhp=>?_
 all_goals exact uU
instance(L:gaa)[hL:Lok L](l:List ah)(n:Str):Ctr L prog 233 [] [.ab 3 ai l,.str n] (.aa (idx (ndP n) l)) [] True:=by
 refine Ctr.bd func233 ntmps233 λhp=>?_;refine AW.f1 0 λhf=>?_;have hf:=Nat.le_trans hf (hL.le 3);refine vU1 ?_;refine AW.aw [5] [0,1] (λm xs o=>∃k:Nat,xs=[.aa k]/\o=[]/\m=l.length - k/\k<=l.length/\∀x∈l.take k,ndP n x=false) l.length [] trivial ⟨0,?_,rfl,rfl,?_,?_⟩ ?_
 ·rfl
 ·omega
 ·simp
 rintro m xs o ⟨k,rfl,rfl,rfl,hk,hR⟩
 (refine vU3 ?_ ?_ ?_<;>with_reducible repeat intro h)
 ·rw[gR (p:=ndP n) baa hR (by simpa[ndP]using h)]
 ·exact⟨_,[_],[],Yt,⟨k+1,rfl,rfl,rfl,Yt,bV (p:=ndP n) baa hR (by simpa[ndP]using h)⟩,rfl,trivial⟩
 ·rw[jr (p:=ndP n) h hR]
instance(L:gaa)(k:Int):Ctr L prog 263 [] [.aa k] (.ac (ig k)) [] True:=by refine Ctr.bd func263 ntmps263 λhp=>?_;have gOn:=bM.on;refine vU1 ?_;refine congrArg (λb=>AV.ac b) ?_;unfold ig;grind
section
attribute [local go_sem] bL aV bu
instance WA(n:ag)(x:ah):Ctr lim prog 198 [] [.agg (cSc n),.agg (cNo x)] (.tup [.am (kyL n x),.ac (kyB n x)]) [] (True):=by
 refine Ctr.bd func198 ntmps198 λhp=>?_;have gOn:=bM.on;refine AW.f1 0 λhf=>?_;refine vK1 ?_;refine AW.c (λh=>?_) λh=>?_
 ·refine vU1 ?_;rw[(ij h).1,(ij h).2];try rfl
 refine vU1 ?_;refine AW.aw [6,20] [2,3,18,19] (λm xs o=>∃k:Nat,xs=[.am ((n.ax.take k).map (kyT x)),.aa k]/\o=[]/\m=n.ax.length - k/\k<=n.ax.length/\∀y∈n.ax.take k,(!mq x y)=false) n.ax.length [] trivial ⟨0,?_,rfl,rfl,?_,?_⟩ ?_
 ·rfl
 ·omega
 ·simp
 rintro m xs o ⟨k,rfl,rfl,rfl,hk,hR⟩;have hlen:(take k n.ax).length=k:=by rw[length_take];omega
 have hi:=gu (p:=ndP (at_ n.ax k)) x.af
 (refine vU3 ?_ ?_ ?_<;>with_reducible repeat intro h)
 ·rename_i h2 h1;rw[(uT h2 (j4 h1 (by rw[mq];simpa using h))).1,(uT h2 (j4 h1 (by rw[mq];simpa using h))).2];try rfl
 ·rename_i h2 h1;exact⟨_,[_,_],[],Yt,⟨k+1,rfl,rfl,rfl,Yt,bV h1 hR (by rw[mq];simpa using h)⟩,by rw[F3 h1];try rfl,trivial⟩
 ·rename_i h1;rw[(oT h1 (fR h hR)).1,(oT h1 (fR h hR)).2,take_of_length_le Yt]
theorem MW(n:ag)(x:ah):Ctr lim prog 177 [] [.agg (cSc n),.agg (cNo x)] (.tup [.am (kyL n x),.ac true]) [] (kyB n x=true):=by
 refine Ctr.bd func177 ntmps177 λhp=>?_;have gOn:=bM.on;refine AW.f1 0 λhf=>?_;refine vK1 ?_;refine AW.c (λh=>?_) λh=>?_
 ·refine vU1 ?_;rw[(ij h).1];try rfl
 refine vU1 ?_;refine AW.aw [6,7] [2,3] (λm xs o=>∃k:Nat,xs=[.am ((n.ax.take k).map (kyT x)),.aa k]/\o=[]/\m=n.ax.length - k/\k<=n.ax.length/\∀y∈n.ax.take k,(!mq x y)=false) n.ax.length [] trivial ⟨0,?_,rfl,rfl,?_,?_⟩ ?_
 ·rfl
 ·omega
 ·simp
 rintro m xs o ⟨k,rfl,rfl,rfl,hk,hR⟩;have hlen:(take k n.ax).length=k:=by rw[length_take];omega
 have hi:=gu (p:=ndP (at_ n.ax k)) x.af
 (refine vU3 ?_ ?_ ?_<;>with_reducible repeat intro h)
 ·rename_i h2 h1;exact absurd hp (by rw[(uT h2 (j4 h1 (by rw[mq];simpa using h))).2];decide)
 ·rename_i h2 h1;exact⟨_,[_,_],[],Yt,⟨k+1,rfl,rfl,rfl,Yt,bV h1 hR (by rw[mq];simpa using h)⟩,by rw[F3 h1];try rfl,trivial⟩
 ·rename_i h1;rw[(oT h1 (fR h hR)).1,take_of_length_le Yt]
theorem MX(n:ag)(x:ah):Ctr lim prog 177 [] [.agg (cSc n),.agg (cNo x)] (.tup [.v (.slice none 0 0),.ac false]) [] (kyB n x=false):=by
 refine Ctr.bd func177 ntmps177 λhp=>?_;have gOn:=bM.on;refine AW.f1 0 λhf=>?_;refine vK1 ?_;refine AW.c (λh=>?_) λh=>?_
 ·refine vU1 ?_;exact absurd hp (by rw[(ij h).2];decide)
 refine vU1 ?_;refine AW.aw [6,7] [2,3] (λm xs o=>∃k:Nat,xs=[.am ((n.ax.take k).map (kyT x)),.aa k]/\o=[]/\m=n.ax.length - k/\k<=n.ax.length/\∀y∈n.ax.take k,(!mq x y)=false) n.ax.length [] trivial ⟨0,?_,rfl,rfl,?_,?_⟩ ?_
 ·rfl
 ·omega
 ·simp
 rintro m xs o ⟨k,rfl,rfl,rfl,hk,hR⟩;have hlen:(take k n.ax).length=k:=by rw[length_take];omega
 have hi:=gu (p:=ndP (at_ n.ax k)) x.af
 (refine vU2 ?_ ?_<;>with_reducible repeat intro h)
 ·rename_i h2 h1;exact⟨_,[_,_],[],Yt,⟨k+1,rfl,rfl,rfl,Yt,bV h1 hR (by rw[mq];simpa using h)⟩,by rw[F3 h1];try rfl,trivial⟩
 ·rename_i h1;exact absurd hp (by rw[(oT h1 (fR h hR)).2];decide)
theorem xu(n:ag)(x:ah):Ctr lim prog 177 [] [.agg (cSc n),.agg (cNo x)] (.tup [.al (kyL n x),.ac true]) [] (kyB n x=true) :=
 Ctr.ld (aU 177) λh=>by
  have:=((MW n x).pure h).frz;simpa only[AV.frz,AV.cH,bL,cond_true]using this
instance(L:gaa)(s:Str):Ctr L prog 321 [] [.str s] (.ac false) [] True:=by
 refine Ctr.bd func321 ntmps321 λhp=>?_;exact vU0
 all_goals simp
instance(L:gaa)(a b:Str):Ctr L prog 296 [] [.str a,.str b] (.aa (pN a b)) [] True:=by
 refine Ctr.bd func296 ntmps296 λhp=>?_
 (refine vU3 ?_ ?_ ?_<;>with_reducible repeat intro h)
 ·rw[pN,if_pos h]
 ·rename_i h1;rw[pN,if_neg (by rw[h1];simp),if_neg h.2]
 ·rename_i h1;rw[pN,if_neg (by rw[h1];simp),if_pos (by rcases h with h|h;rw[h1]at h;exact absurd h zH;exact h)]
instance(a b:List Str):Ctr lim prog 258 [] [.al a,.al b] (.aa (cmpL a b)) [] True:=by
 refine Ctr.bd func258 ntmps258 λhp=>?_;have gOn:=bM.on;refine AW.f1 0 λhf=>?_;refine vU1 ?_;refine AW.aw [11] [0,1,9,10] (λm xs o=>∃k:Nat,xs=[.aa k]/\o=[]/\m=a.length - k/\k<=a.length/\k<=b.length/\cmpL (a.drop k) (b.drop k)=cmpL a b) a.length [] trivial ⟨0,?_,rfl,rfl,?_,?_,?_⟩ ?_
 ·rfl
 ·omega
 ·omega
 ·rfl
 rintro m xs o ⟨k,rfl,rfl,rfl,hk,hk2,hR⟩;have hc:=Rg (at_ a k) (at_ b k)
 (refine vU5 ?_ ?_ ?_ ?_ ?_<;>with_reducible repeat intro h)
 ·rename_i h1;rw[<- hR,Xs h1 Yt]
 ·rename_i h1 _;rw[<- hR,KN h1 Yt,if_neg h]
 ·rename_i h1 _;exact⟨_,[_],[],Yt,⟨k+1,rfl,rfl,rfl,Yt,Yt,by rw[<- hR,KN h1 Yt,if_pos h]⟩,rfl,trivial⟩
 ·rename_i h1;rw[<- hR,O6 h1,if_pos Yt]
 ·rename_i h1;rw[<- hR,O6 h1,if_neg Yt]
instance QB(n:ag)(x y:ah):Ctr lim prog 201 [] [.agg (cSc n),.agg (cNo x),.agg (cNo y)] (.aa (jH n x y)) [] True:=by
 refine Ctr.bd func201 ntmps201 λhp=>?_;have gOn:=bM.on
 (refine vU2 ?_ ?_<;>intro h)
 ·rw[jH,if_neg (by rw[ig];simp;exact h)]
 ·rw[jH,if_pos (by rw[ig];simp;grind)]
instance(a b:List Str):Ctr lim prog 264 [] [.al a,.al b] (.ac (dZ a b)) [] True:=by
 refine Ctr.bd func264 ntmps264 λhp=>?_;have gOn:=bM.on;refine AW.f1 0 λhf=>?_;refine vU1 ?_;refine AW.aw [5] [0,1] (λm xs o=>∃k:Nat,xs=[.aa k]/\o=[]/\m=a.length - k/\k<=a.length/\k<=b.length/\dZ (a.drop k) (b.drop k)=dZ a b) a.length [] trivial ⟨0,?_,rfl,rfl,?_,?_,?_⟩ ?_
 ·rfl
 ·omega
 ·omega
 ·rfl
 rintro m xs o ⟨k,rfl,rfl,rfl,hk,hk2,hR⟩
 (refine vU3 ?_ ?_ ?_<;>with_reducible repeat intro h)
 ·rename_i h1;rw[<- hR,Hj h1.1 h1.2,if_neg h]
 ·rename_i h1;exact⟨_,[_],[],Yt,⟨k+1,rfl,rfl,rfl,Yt,Yt,by rw[<- hR,Hj h1.1 h1.2,if_pos h]⟩,rfl,trivial⟩
 ·rw[<- hR,TM hk hk2 (λc=>h c.1 c.2)]
instance(d:List ag)(x y:ah):Ctr lim prog 207 [] [.ab 19 ak d,.agg (cNo x),.agg (cNo y)] (.ac (eB d x y)) [] (0<=idx (nmP x.ae) d/\(idx (nmP x.ae) d=idx (nmP y.ae) d->kyB (at_ d (idx (nmP x.ae) d).toNat) x=true/\kyB (at_ d (idx (nmP x.ae) d).toNat) y=true)):=by
 refine Ctr.bd func207 ntmps207 λhp=>?_;have gOn:=bM.on
 have hi:=gu (p:=nmP x.ae) d;obtain⟨hp,hy⟩:=hp;refine AW.f1 0 λhf=>?_;refine vK1 ?_;refine AW.c (λh=>?_) λh=>?_
 ·refine vU1 ?_;rw[eB,if_neg];rintro⟨e1,e2⟩;rcases h with h|h
  ·exact h e1
  ·rw[e1,e2]at h;exact absurd h zH
 obtain⟨hy1,hy2⟩:=hy h.1;haveI hky:=xu (at_ d (idx (nmP x.ae) d).toNat) x
 haveI hkz:=xu (at_ d (idx (nmP x.ae) d).toNat) y;refine vU1 ?_;rw[eB,if_pos ⟨h.1,h.1 ▸ h.2⟩,<- h.1]
