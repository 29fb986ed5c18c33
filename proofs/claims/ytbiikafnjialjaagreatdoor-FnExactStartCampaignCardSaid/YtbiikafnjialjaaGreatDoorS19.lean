/- Part of a proof. -/
import Derived.Test.YtbiikafnjialjaaGreatDoorS16
import Derived.Test.YtbiikafnjialjaaGreatDoorS18
set_option linter.all false
set_option maxRecDepth 20000
set_option maxHeartbeats 4000000
open Go.Proofs.Tryz
open List
namespace Go.Proofs
open Go.Ab Go.Dt
section
attribute [local go_sem] bD
instance(x:Dt.GStep):Ctr lim prog 371 [] [.agg [.str x.ae,.ab 2 cU x.cK]] (.ac (kV x)) [] True:=by
 refine Ctr.bd func371 ntmps371 λhp=>?_;have gOn:=bI.on;refine AW.f1 0 λhf=>?_;refine vU1 ?_;refine AW.aw [3,10] [1,8,9] (λm xs o=>∃k:Nat,xs=[.am ((x.cK.take k).map fH.ae),.aa k]/\o=[]/\m=x.cK.length - k/\k<=x.cK.length/\∀y∈x.cK.take k,(!qJ y)=false) x.cK.length [] trivial ⟨0,?_,rfl,rfl,?_,?_⟩ ?_
 ·rfl
 ·omega
 ·simp
 rintro m xs o ⟨k,rfl,rfl,rfl,hk,hR⟩;have hlen:(take k x.cK).length<=2147483648:=by rw[length_take];omega
 (refine vU4 ?_ ?_ ?_ ?_<;>with_reducible repeat intro h)
 ·rw[kV,jL baa (by rcases h with h|h<;>simp[qJ,h])];try rfl
 ·exact⟨_,[_,_],[],Um,⟨k+1,rfl,rfl,rfl,Um,bL baa hR (by simp[qJ,h.1,h.2])⟩,by rw[Fb baa];try rfl,trivial⟩
 ·rename_i hz h2;rw[Fe hz,kV,fG hz hR,h2.1,show decide (x.cK.length<=3)=true by simp;omega];try rfl
 ·rw[kV,fG baa hR]
  cases e:isName x.ae with
  | false=>rfl
  | true=>rw[show decide (x.cK.length<=3)=false by have:=h e;simp;omega];try rfl
instance(x:Dt.fS):Ctr lim prog 362 [] [.agg [.ac x.dB,.aa x.dQ,.ab 2 bg x.aW]] (.ac (jK x)) [] True:=by
 refine Ctr.bd func362 ntmps362 λhp=>?_;have gOn:=bI.on;refine AW.f1 0 λhf=>?_;refine vU1 ?_;refine AW.aw [8] [1,6,7] (λm xs o=>∃k:Nat,xs=[.aa k]/\o=[]/\m=x.aW.length - k/\k<=x.aW.length/\∀y∈x.aW.take k,(!kV y)=false) x.aW.length [] trivial ⟨0,?_,rfl,rfl,?_,?_⟩ ?_
 ·rfl
 ·omega
 ·simp
 rintro m xs o ⟨k,rfl,rfl,rfl,hk,hR⟩
 (refine vU3 ?_ ?_ ?_<;>with_reducible repeat intro h)
 ·rw[jK,jL baa h];try rfl
 ·exact⟨_,[_],[],Um,⟨k+1,rfl,rfl,rfl,Um,bL baa hR (by simp[h])⟩,rfl,trivial⟩
 ·rw[jK,fG h hR,EL];simp only[Rv,rW,j6,Bool.true_and]
instance(x:Dt.fS):Ctr lim prog 349 [] [.agg [.ac x.dB,.aa x.dQ,.ab 2 bg x.aW]] (.ac (jK x)) [] True:=by
 refine Ctr.bd func349 ntmps349 λhp=>?_;have gOn:=bI.on;refine AW.f1 0 λhf=>?_;refine vU1 ?_;refine AW.aw [3] [1] (λm xs o=>∃k:Nat,xs=[.aa k]/\o=[]/\m=x.aW.length - k/\k<=x.aW.length/\∀y∈x.aW.take k,(!kV y)=false) x.aW.length [] trivial ⟨0,?_,rfl,rfl,?_,?_⟩ ?_
 ·rfl
 ·omega
 ·simp
 rintro m xs o ⟨k,rfl,rfl,rfl,hk,hR⟩;refine vK1 ?_;refine AW.c (λh=>?_) λh=>?_
 ·refine vK1 ?_;refine AW.fact 4 λhg=>?_;simp(disch:=omega)only[go_sem]at hg;refine AW.aw [5] [1,3,4] (λm xs o=>∃j:Nat,xs=[.aa j]/\o=[]/\m=(at_ x.aW k).cK.length - j/\j<=(at_ x.aW k).cK.length/\(∀y∈(at_ x.aW k).cK.take j,(!qJ y)=false)/\cg (λi=>!cont (((at_ x.aW k).cK.map fH.ae).take i) (at_ ((at_ x.aW k).cK.map fH.ae) i)) j=true) (at_ x.aW k).cK.length [] trivial ⟨0,?_,rfl,rfl,?_,?_,rfl⟩ ?_
  ·rfl
  ·omega
  ·simp
  rintro m xs o ⟨j,rfl,rfl,rfl,hj,hS,hQ⟩;refine vK1 ?_;refine AW.c (λh=>?_) λh=>?_
  ·refine vK1 ?_;refine AW.aw [6] [1,3,4,5] (λm xs o=>∃i:Nat,xs=[.aa i]/\o=[]/\m=j - i/\i<=j/\∀y∈(((at_ x.aW k).cK.map fH.ae).take j).take i,(y == (at_ (at_ x.aW k).cK j).ae)=false) j [] trivial ⟨0,?_,rfl,rfl,?_,?_⟩ ?_
   ·rfl
   ·omega
   ·simp
   rintro m xs o ⟨i,rfl,rfl,rfl,hi,hT⟩
   (refine vU4 ?_ ?_ ?_ ?_<;>with_reducible repeat intro h)
   ·rw[FI baa (RQ baa baa h)]
   ·exact⟨_,[_],[],Um,⟨i+1,rfl,rfl,rfl,Um,bL (by rw[length_take,length_map];omega) hT (by rw[Dq baa,pO Um];simpa using h)⟩,rfl,trivial⟩
   ·rw[FI baa (RO baa (by rcases h with h|h<;>simp[qJ,h]))]
   ·rw[show i=j by omega,take_take,Nat.min_self]at hT;exact⟨_,[_],[],Um,⟨j+1,rfl,rfl,rfl,Um,bL baa hS (by simp[qJ,h.1,h.2]),cf hQ (by rw[pO baa,tf hT];try rfl)⟩,rfl,trivial⟩
  ·have hst:=RP (s:=at_ x.aW k) h hj hS hQ
   (refine vU2 ?_ ?_<;>intro h)
   ·rw[FI baa (by rw[hst];exact Vs h)]
   ·exact⟨_,[_],[],Um,⟨k+1,rfl,rfl,rfl,Um,bL baa hR (by rw[hst];simp[h.1];omega)⟩,rfl,trivial⟩
 refine vU1 ?_
 ·rw[jK,fG h hR,EL];simp only[Rv,rW,j6,Bool.true_and];refine congrArg (λb=>AV.ac b) ?_
  ac_rfl
instance(x:Dt.fS):Ctr lim prog 361 [] [.agg [.ac x.dB,.aa x.dQ,.ab 2 bg x.aW]] (.ac (xZ x)) [] True:=by refine Ctr.bd func361 ntmps361 λhp=>?_;have gOn:=bI.on;refine vU1 ?_;rw[xZ,kY,j6]
instance(x:Dt.fS):Ctr lim prog 350 [] [.agg [.ac x.dB,.aa x.dQ,.ab 2 bg x.aW]] (.ac (xZ x)) [] True:=by refine Ctr.bd func350 ntmps350 λhp=>?_;have gOn:=bI.on;refine vU1 ?_;rw[xZ,kY,j6]
instance(L:gaa)(a b:Int):Ctr L prog 348 [] [.aa a,.aa b] (.aa (max a b)) [] True:=by
 refine Ctr.bd func348 ntmps348 λhp=>?_;have gOn:=bI.on
 (refine vU2 ?_ ?_<;>intro h)
 ·rw[show max a b=b by omega]
 ·rw[show max a b=a by omega]
theorem UZ(x:Dt.fS):Ctr lim prog 351 [] [.agg [.ac x.dB,.aa x.dQ,.ab 2 bg x.aW]] (.ac (uQ x)) [] (jK x=true):=by
 refine Ctr.bd func351 ntmps351 λhp=>?_;have gOn:=bI.on
 (refine vU3 ?_ ?_ ?_<;>with_reducible repeat intro h)
 ·rw[XO hp h]
 ·exact(QG hp baa).1
 ·rw[<- (QG hp h).2];try rfl
end
theorem Jy:∀(n:Nat),n<=1048576->∀(x:aZ),Ctr lim prog 340 [] [.agg [.aa x.fOp,.aa x.gJ,.str x.cS,.ac x.aF.dB,.aa x.aF.dQ,.ab 2 bg x.aF.aW,.ab 7 aN x.af]] (.aa (ja x)) [] (ja x<=n)
 | 0,_,x=>⟨(aT 340),λh=>absurd h (by rw[rn];omega)⟩
 | n+1,hn,x=>by
  have ih:=Jy n Um;refine Ctr.bd func340 ntmps340 λhp=>?_;have gOn:=bI.on;rw[rn]at hp;refine AW.f1 0 λhf=>?_;refine vU1 ?_;refine AW.aw [3,9] [1,7,8] (λm xs o=>∃k:Nat,xs=[.aa (eB (x.af.take k)),.aa k]/\o=[]/\m=x.af.length - k/\k<=x.af.length) x.af.length [] trivial ⟨0,?_,rfl,rfl,?_⟩ ?_
  ·rfl
  ·omega
  rintro m xs o ⟨k,rfl,rfl,rfl,hk⟩;have hd:=vW x.af k
  have hkk:k<x.af.length->ja (at_ x.af k)<=n:=λh=>by have:=qc (at_mem h);omega
  (refine vU2 ?_ ?_<;>with_reducible repeat intro h)
  ·exact⟨_,[_,_],[],Um,⟨k+1,rfl,rfl,rfl,Um⟩,by rw[B0 baa,VR];try rfl,trivial⟩
  ·rw[rn,show k=x.af.length by omega,take_length]
instance(x:aZ):Ctr lim prog 340 [] [.agg [.aa x.fOp,.aa x.gJ,.str x.cS,.ac x.aF.dB,.aa x.aF.dQ,.ab 2 bg x.aF.aW,.ab 7 aN x.af]] (.aa (ja x)) [] (ja x<=1048576):=Jy 1048576 (Nat.le_refl _) x
theorem IY:∀(n:Nat),n<=1048576->∀(x:aZ),Ctr lim prog 331 [] [.agg [.aa x.fOp,.aa x.gJ,.str x.cS,.ac x.aF.dB,.aa x.aF.dQ,.ab 2 bg x.aF.aW,.ab 7 aN x.af]] (.aa (ja x)) [] (ja x<=n)
 | 0,_,x=>⟨(aT 331),λh=>absurd h (by rw[rn];omega)⟩
 | n+1,hn,x=>by
  have ih:=IY n Um;refine Ctr.bd func331 ntmps331 λhp=>?_;have gOn:=bI.on;rw[rn]at hp;refine AW.f1 0 λhf=>?_;refine vU1 ?_;refine AW.aw [3,4] [1] (λm xs o=>∃k:Nat,xs=[.aa (eB (x.af.take k)),.aa k]/\o=[]/\m=x.af.length - k/\k<=x.af.length) x.af.length [] trivial ⟨0,?_,rfl,rfl,?_⟩ ?_
  ·rfl
  ·omega
  rintro m xs o ⟨k,rfl,rfl,rfl,hk⟩;have hd:=vW x.af k
  have hkk:k<x.af.length->ja (at_ x.af k)<=n:=λh=>by have:=qc (at_mem h);omega
  (refine vU2 ?_ ?_<;>intro h)
  ·exact⟨_,[_,_],[],Um,⟨k+1,rfl,rfl,rfl,Um⟩,by rw[B0 baa,Tj];try rfl,trivial⟩
  ·rw[rn,show k=x.af.length by omega,take_length]
instance(x:aZ):Ctr lim prog 331 [] [.agg [.aa x.fOp,.aa x.gJ,.str x.cS,.ac x.aF.dB,.aa x.aF.dQ,.ab 2 bg x.aF.aW,.ab 7 aN x.af]] (.aa (ja x)) [] (ja x<=1048576):=IY 1048576 (Nat.le_refl _) x
theorem Rc:∀(n:Nat) (x:aZ),Ctr lim prog 341 [] [.agg [.aa x.fOp,.aa x.gJ,.str x.cS,.ac x.aF.dB,.aa x.aF.dQ,.ab 2 bg x.aF.aW,.ab 7 aN x.af]] (.ac (vE x)) [] (SizeOf.sizeOf x<n)
 | 0,x=>⟨(aT 341),λh=>absurd h (Nat.not_lt_zero _)⟩
 | n+1,x=>by
  have ih:=Rc n;refine Ctr.bd func341 ntmps341 λhp=>?_;have gOn:=bI.on
  have hkk:∀k,k<x.af.length->SizeOf.sizeOf (at_ x.af k)<n:=λk h=>by have:=aZ.BG (at_mem h);omega
  refine AW.f1 0 λhf=>?_
  (refine vU ?_;with_reducible repeat' first|exact Le.l|apply Sw|intro h)
  ·rw[qC (by rw[gP,fj,exL,iv];grind)]
  ·refine congrArg (λb=>AV.ac b) ?_;rw[nr,yD (by grind),gP,fj,exL,iv];grind
  ·rw[qC (by rw[gP,fj,exL,iv];grind)]
  ·refine congrArg (λb=>AV.ac b) ?_;rw[nr,yD (by grind),gP,fj,exL,iv];grind
  ·rw[qC (by rw[gP,fj,exL,iv];grind)]
  ·refine congrArg (λb=>AV.ac b) ?_;rw[nr,yD (by grind),gP,fj,exL,iv];simp only[kY];simp only[j6,rW,uQ];grind
  ·rw[qC (by rw[gP,fj,exL,iv];grind)]
  ·refine congrArg (λb=>AV.ac b) ?_;rw[nr,yD (by grind),gP,fj,exL,iv];grind
  ·rw[qC (by rw[gP,fj,exL,iv];grind)]
  ·refine AW.aw [144] [1,142,143] (λm xs o=>∃k:Nat,xs=[.aa k]/\o=[]/\m=x.af.length - k/\k<=x.af.length/\∀y∈x.af.take k,(!vE y)=false) x.af.length [] trivial ⟨0,?_,rfl,rfl,?_,?_⟩ ?_
   ·rfl
   ·omega
   ·simp
   rintro m xs o ⟨k,rfl,rfl,rfl,hk,hR⟩;have hkk:=hkk k
   (refine vU3 ?_ ?_ ?_<;>with_reducible repeat intro h)
   ·rw[EH baa h]
   ·exact⟨_,[_],[],Um,⟨k+1,rfl,rfl,rfl,Um,bL baa hR (by simp[h])⟩,rfl,trivial⟩
   ·rw[nr,fG baa hR,gP,fj,exL,iv];congr 2;grind
  ·rw[qC (by rw[gP,fj,exL,iv];grind)]
  ·refine AW.aw [144] [1,142,143] (λm xs o=>∃k:Nat,xs=[.aa k]/\o=[]/\m=x.af.length - k/\k<=x.af.length/\∀y∈x.af.take k,(!vE y)=false) x.af.length [] trivial ⟨0,?_,rfl,rfl,?_,?_⟩ ?_
   ·rfl
   ·omega
   ·simp
   rintro m xs o ⟨k,rfl,rfl,rfl,hk,hR⟩;have hkk:=hkk k
   (refine vU3 ?_ ?_ ?_<;>with_reducible repeat intro h)
   ·rw[EH baa h]
   ·exact⟨_,[_],[],Um,⟨k+1,rfl,rfl,rfl,Um,bL baa hR (by simp[h])⟩,rfl,trivial⟩
   ·rw[nr,fG baa hR,gP,fj,exL,iv];congr 2;grind
instance(x:aZ):Ctr lim prog 341 [] [.agg [.aa x.fOp,.aa x.gJ,.str x.cS,.ac x.aF.dB,.aa x.aF.dQ,.ab 2 bg x.aF.aW,.ab 7 aN x.af]] (.ac (vE x)) [] True:=⟨(aT 341),λ_=>(Rc (SizeOf.sizeOf x+1) x).out (Nat.lt_succ_self _)⟩
theorem QY:∀(n:Nat) (x:aZ),Ctr lim prog 332 [] [.agg [.aa x.fOp,.aa x.gJ,.str x.cS,.ac x.aF.dB,.aa x.aF.dQ,.ab 2 bg x.aF.aW,.ab 7 aN x.af]] (.ac (vE x)) [] (SizeOf.sizeOf x<n)
 | 0,x=>⟨(aT 332),λh=>absurd h (Nat.not_lt_zero _)⟩
 | n+1,x=>by
  have ih:=QY n
  haveI hw:=UZ x.aF;refine Ctr.bd func332 ntmps332 λhp=>?_;have gOn:=bI.on
  have hkk:∀k,k<x.af.length->SizeOf.sizeOf (at_ x.af k)<n:=λk h=>by have:=aZ.BG (at_mem h);omega
  refine AW.f1 0 λhf=>?_
  (refine vU ?_;with_reducible repeat' first|exact Le.l|apply Sw|intro h)
  ·rw[qC (by rw[gP,fj,exL,iv];grind)]
  ·refine AW.aw [6] [1,3] (λm xs o=>∃k:Nat,xs=[.aa k]/\o=[]/\m=x.af.length - k/\k<=x.af.length/\∀y∈x.af.take k,(!vE y)=false) x.af.length [] trivial ⟨0,?_,rfl,rfl,?_,?_⟩ ?_
   ·rfl
   ·omega
   ·simp
   rintro m xs o ⟨k,rfl,rfl,rfl,hk,hR⟩;have hkk:=hkk k
   (refine vU1 ?_;intro h)
   ·rw[nr,fG (show ¬k<x.af.length by omega) hR,gP,fj,exL,iv];congr 2;grind
  ·rw[qC (by rw[gP,fj,exL,iv];grind)]
  ·refine AW.aw [6] [1,3] (λm xs o=>∃k:Nat,xs=[.aa k]/\o=[]/\m=x.af.length - k/\k<=x.af.length/\∀y∈x.af.take k,(!vE y)=false) x.af.length [] trivial ⟨0,?_,rfl,rfl,?_,?_⟩ ?_
   ·rfl
   ·omega
   ·simp
   rintro m xs o ⟨k,rfl,rfl,rfl,hk,hR⟩;have hkk:=hkk k
   (refine vU1 ?_;intro h)
   ·rw[nr,fG (show ¬k<x.af.length by omega) hR,gP,fj,exL,iv];congr 2;grind
  ·rw[qC (by rw[gP,fj,exL,iv];grind)]
  ·refine AW.aw [6] [1,3] (λm xs o=>∃k:Nat,xs=[.aa k]/\o=[]/\m=x.af.length - k/\k<=x.af.length/\∀y∈x.af.take k,(!vE y)=false) x.af.length [] trivial ⟨0,?_,rfl,rfl,?_,?_⟩ ?_
   ·rfl
   ·omega
   ·simp
   rintro m xs o ⟨k,rfl,rfl,rfl,hk,hR⟩;have hkk:=hkk k
   (refine vU1 ?_;intro h)
   ·rw[nr,fG (show ¬k<x.af.length by omega) hR,gP,fj,exL,iv];congr 2;grind
  ·rw[qC (by rw[gP,fj,exL,iv];grind)]
  ·refine AW.aw [6] [1,3] (λm xs o=>∃k:Nat,xs=[.aa k]/\o=[]/\m=x.af.length - k/\k<=x.af.length/\∀y∈x.af.take k,(!vE y)=false) x.af.length [] trivial ⟨0,?_,rfl,rfl,?_,?_⟩ ?_
   ·rfl
   ·omega
   ·simp
   rintro m xs o ⟨k,rfl,rfl,rfl,hk,hR⟩;have hkk:=hkk k
   (refine vU3 ?_ ?_ ?_<;>with_reducible repeat intro h)
   ·rw[EH (show k<x.af.length by omega) h]
   ·exact⟨_,[_],[],Um,⟨k+1,rfl,rfl,rfl,Um,bL Um hR (by simp[h])⟩,rfl,trivial⟩
   ·rw[nr,fG (show ¬k<x.af.length by omega) hR,gP,fj,exL,iv];congr 2;grind
  ·rw[qC (by rw[gP,fj,exL,iv];grind)]
  ·refine AW.aw [6] [1,3] (λm xs o=>∃k:Nat,xs=[.aa k]/\o=[]/\m=x.af.length - k/\k<=x.af.length/\∀y∈x.af.take k,(!vE y)=false) x.af.length [] trivial ⟨0,?_,rfl,rfl,?_,?_⟩ ?_
   ·rfl
   ·omega
   ·simp
   rintro m xs o ⟨k,rfl,rfl,rfl,hk,hR⟩;have hkk:=hkk k
   (refine vU3 ?_ ?_ ?_<;>with_reducible repeat intro h)
   ·rw[EH (show k<x.af.length by omega) h]
   ·exact⟨_,[_],[],Um,⟨k+1,rfl,rfl,rfl,Um,bL Um hR (by simp[h])⟩,rfl,trivial⟩
   ·rw[nr,fG (show ¬k<x.af.length by omega) hR,gP,fj,exL,iv];congr 2;grind
  ·rw[qC (by rw[gP,fj,exL,iv];grind)]
instance(x:aZ):Ctr lim prog 332 [] [.agg [.aa x.fOp,.aa x.gJ,.str x.cS,.ac x.aF.dB,.aa x.aF.dQ,.ab 2 bg x.aF.aW,.ab 7 aN x.af]] (.ac (vE x)) [] True:=⟨(aT 332),λ_=>(QY (SizeOf.sizeOf x+1) x).out (Nat.lt_succ_self _)⟩
instance(x:aZ):Ctr lim prog 319 [] [.agg [.aa x.fOp,.aa x.gJ,.str x.cS,.ac x.aF.dB,.aa x.aF.dQ,.ab 2 bg x.aF.aW,.ab 7 aN x.af]] (.ac (Ak x)) [] (ja x<=1048576):=by refine Ctr.bd func319 ntmps319 λhp=>?_;have gOn:=bI.on;refine vU1 ?_;rw[Ak,show decide ((ja x:Int)<=8)=decide (ja x<=8)from decide_eq_decide.2 Um]
instance(x:aZ):Ctr lim prog 311 [] [.agg [.aa x.fOp,.aa x.gJ,.str x.cS,.ac x.aF.dB,.aa x.aF.dQ,.ab 2 bg x.aF.aW,.ab 7 aN x.af]] (.ac (Ak x)) [] (ja x<=1048576):=by refine Ctr.bd func311 ntmps311 λhp=>?_;have gOn:=bI.on;refine vU1 ?_;rw[Ak,show decide ((ja x:Int)<=8)=decide (ja x<=8)from decide_eq_decide.2 Um]
section
attribute [local go_sem] bD aS
def Tp(a b:Nat):(if 1+(b:Int) > (a:Int) then 1+(b:Int) else (a:Int))=((max a (1+b):Nat):Int):=by split<;>omega
instance(L:gaa)(k:Int):Ctr L prog 290 [] [.aa k] (.ac (dK k)) [] (True):=by refine Ctr.bd func290 ntmps290 λhp=>?_;have gOn:=bI.on;refine vU1 ?_;refine congrArg (λb=>AV.ac b) ?_;unfold dK;grind
instance(L:gaa)(k:Int):Ctr L prog 179 [] [.aa k] (.ac (dK k)) [] (True):=by refine Ctr.bd func179 ntmps179 λhp=>?_;have gOn:=bI.on;refine vU1 ?_;refine congrArg (λb=>AV.ac b) ?_;unfold dK;grind
instance(x:dq):Ctr lim prog 289 [] [.agg [.aa x.aj,.ab 2 aU x.ay,.al x.aB,.str x.aY,.str x.aF]] (.ac (nI x)) [] (True):=by refine Ctr.bd func289 ntmps289 λhp=>?_;have gOn:=bI.on;refine vU1 ?_;refine congrArg (λb=>AV.ac b) ?_;rw[nI];simp only[kY,mz];simp only[j6]
instance(x:dq):Ctr lim prog 277 [] [.agg [.aa x.aj,.ab 2 aU x.ay,.al x.aB,.str x.aY,.str x.aF]] (.ac (nI x)) [] (True):=by refine Ctr.bd func277 ntmps277 λhp=>?_;have gOn:=bI.on;refine vU1 ?_;refine congrArg (λb=>AV.ac b) ?_;rw[nI];simp only[kY,mz];simp only[j6]
instance(x:ag):Ctr lim prog 291 [] [.agg (cSc x)] (.ac (oW x)) [] (True):=by refine Ctr.bd func291 ntmps291 λhp=>?_;have gOn:=bI.on;refine vU1 ?_;refine congrArg (λb=>AV.ac b) ?_;rw[oW];grind
instance(x:ag):Ctr lim prog 279 [] [.agg (cSc x)] (.ac (oW x)) [] (True):=by refine Ctr.bd func279 ntmps279 λhp=>?_;have gOn:=bI.on;refine vU1 ?_;refine congrArg (λb=>AV.ac b) ?_;rw[oW];grind
instance(l:List aZ)(q:Int):Ctr lim prog 288 [] [.ab 7 aN l,.aa q] (.ac (exS l q)) [] (eB l<=1048576):=by
 refine Ctr.bd func288 ntmps288 λhp=>?_;have gOn:=bI.on;refine AW.f1 0 λhf=>?_;refine vU1 ?_;refine AW.aw [9] [0,1,7,8] (λm xs o=>∃k:Nat,xs=[.aa k]/\o=[]/\m=l.length - k/\k<=l.length/\∀y∈l.take k,(!Ak y)=false) l.length [] trivial ⟨0,?_,rfl,rfl,?_,?_⟩ ?_
 ·rfl
 ·omega
 ·simp
 rintro m xs o ⟨k,rfl,rfl,rfl,hk,hR⟩;have hkk:k<l.length->ja (at_ l k)<=1048576:=λh=>by have:=qc (at_mem h);omega
 (refine vU3 ?_ ?_ ?_<;>with_reducible repeat intro h)
 ·rw[exS,jL baa h];try rfl
 ·exact⟨_,[_],[],Um,⟨k+1,rfl,rfl,rfl,Um,bL baa hR (by simp[h])⟩,rfl,trivial⟩
 ·rw[exS,fG baa hR];try rfl
instance(l:List aZ)(q:Int):Ctr lim prog 276 [] [.ab 7 aN l,.aa q] (.ac (exS l q)) [] (eB l<=1048576):=by
 refine Ctr.bd func276 ntmps276 λhp=>?_;have gOn:=bI.on;refine AW.f1 0 λhf=>?_;refine vU1 ?_;refine AW.aw [5] [0,1] (λm xs o=>∃k:Nat,xs=[.aa k]/\o=[]/\m=l.length - k/\k<=l.length/\∀y∈l.take k,(!Ak y)=false) l.length [] trivial ⟨0,?_,rfl,rfl,?_,?_⟩ ?_
 ·rfl
 ·omega
 ·simp
 rintro m xs o ⟨k,rfl,rfl,rfl,hk,hR⟩;have hkk:k<l.length->ja (at_ l k)<=1048576:=λh=>by have:=qc (at_mem h);omega
 (refine vU3 ?_ ?_ ?_<;>with_reducible repeat intro h)
 ·rw[exS,jL baa h];try rfl
 ·exact⟨_,[_],[],Um,⟨k+1,rfl,rfl,rfl,Um,bL baa hR (by simp[h])⟩,rfl,trivial⟩
 ·rw[exS,fG baa hR];try rfl
instance(l:List ag):Ctr lim prog 197 [] [.ab 19 ak l] (.am (nmS l)) [] (True):=by
 refine Ctr.bd func197 ntmps197 λhp=>?_;have gOn:=bI.on;refine AW.f1 0 λhf=>?_;refine vU1 ?_;refine AW.aw [3,9] [7,8] (λm xs o=>∃k:Nat,xs=[.am ((l.take k).map ag.ae),.aa k]/\o=[]/\m=l.length - k/\k<=l.length) l.length [] trivial ⟨0,?_,rfl,rfl,?_⟩ ?_
 ·rfl
 ·omega
 rintro m xs o ⟨k,rfl,rfl,rfl,hk⟩;have hlen:(take k l).length<=2147483648:=by rw[length_take];omega
 (refine vU2 ?_ ?_<;>with_reducible repeat intro h)
 ·exact⟨_,[_,_],[],Um,⟨k+1,rfl,rfl,rfl,Um⟩,by rw[Fb baa];try rfl,trivial⟩
 ·rw[Fe baa];try rfl
theorem Jz:∀(n:Nat) (l:List ag),Ctr lim prog 193 [] [.ab 19 ak l] (.aa (bR l)) [] (SizeOf.sizeOf l<n/\bR l<=1048576)
 | 0,l=>⟨(aT 193),λh=>absurd h.1 (Nat.not_lt_zero _)⟩
 | n+1,l=>by
  have ih:=Jz n;refine Ctr.bd func193 ntmps193 λhp=>?_;have gOn:=bI.on;obtain⟨hs,hb⟩:=hp;refine AW.f1 0 λhf=>?_;refine vU1 ?_;refine AW.aw [3,10] [8,9] (λm xs o=>∃k:Nat,xs=[.aa ((l.length - k+bR (l.take k):Nat):Int),.aa k]/\o=[]/\m=l.length - k/\k<=l.length) l.length [] trivial ⟨0,?_,rfl,rfl,?_⟩ ?_
  ·rw[show l.length - 0+bR (l.take 0)=l.length by simp[bR]];try rfl
  ·omega
  rintro m xs o ⟨k,rfl,rfl,rfl,hk⟩;have h1:=qd l k
  have h2:k<l.length->SizeOf.sizeOf (at_ l k).af<n/\bR (at_ l k).af<=1048576:=λh=>by
   have:=rX (at_mem h);have:=ag.dA (at_mem h);omega
  have h3:k<l.length->bR (l.take (k+1))<=bR l:=λ_=>by have:=qd l (k+1);omega
  (refine vU2 ?_ ?_<;>with_reducible repeat intro h)
  ·exact⟨_,[_,_],[],Um,⟨k+1,rfl,rfl,rfl,Um⟩,by rw[show l.length - (k+1)+bR (l.take (k+1))=l.length - k+bR (l.take k)+bR (at_ l k).af by rw[N9 baa];omega];try rfl,trivial⟩
  ·rw[show l.length - k+bR (l.take k)=bR l by rw[take_of_length_le Um];omega]
theorem Jx:∀(n:Nat) (l:List ag),Ctr lim prog 194 [] [.ab 19 ak l] (.aa (fw l)) [] (SizeOf.sizeOf l<n/\fw l<=1048576)
 | 0,l=>⟨(aT 194),λh=>absurd h.1 (Nat.not_lt_zero _)⟩
 | n+1,l=>by
  have ih:=Jx n;refine Ctr.bd func194 ntmps194 λhp=>?_;have gOn:=bI.on;obtain⟨hs,hb⟩:=hp;refine AW.f1 0 λhf=>?_;refine vU1 ?_;refine AW.aw [3,8] [6,7] (λm xs o=>∃k:Nat,xs=[.aa ((fw (l.take k):Nat):Int),.aa k]/\o=[]/\m=l.length - k/\k<=l.length) l.length [] trivial ⟨0,?_,rfl,rfl,?_⟩ ?_
  ·rw[show fw (l.take 0)=0 by simp[fw]];try rfl
  ·omega
  rintro m xs o ⟨k,rfl,rfl,rfl,hk⟩;have h1:=xL l k
  have h2:k<l.length->SizeOf.sizeOf (at_ l k).af<n/\fw (at_ l k).af<=1048576:=λh=>by
   have:=Ar (at_mem h);have:=ag.dA (at_mem h);omega
  have h3:k<l.length->fw (l.take (k+1))<=fw l:=λ_=>by have:=xL l (k+1);omega
  (refine vU2 ?_ ?_<;>with_reducible repeat intro h)
  ·exact⟨_,[_,_],[],Um,⟨k+1,rfl,rfl,rfl,Um⟩,by rw[NY baa,Tp];try rfl,trivial⟩
  ·rw[take_of_length_le Um]
instance(l:List ag):Ctr lim prog 193 [] [.ab 19 ak l] (.aa (bR l)) [] (bR l<=1048576):=⟨(aT 193),λh=>(Jz (SizeOf.sizeOf l+1) l).out ⟨Nat.lt_succ_self _,h⟩⟩
instance(l:List ag):Ctr lim prog 194 [] [.ab 19 ak l] (.aa (fw l)) [] (fw l<=1048576):=⟨(aT 194),λh=>(Jx (SizeOf.sizeOf l+1) l).out ⟨Nat.lt_succ_self _,h⟩⟩
end
section
def eI(l:List ag):(l.map (ak false)).all (AV.elem 19)=true:=dX (λx=>by rw[dC];try rfl) l
def eH(l:List ag):((l.map (ak false)).flatMap AV.cells).all AV.one=true:=eD (λx=>by rw[dC];try rfl) l
def WM(l:List Bool):(l.map λb=>AV.ac b).all (AV.elem 1)=true:=dX (λ_=>rfl) l
def WL(l:List Bool):((l.map λb=>AV.ac b).flatMap AV.cells).all AV.one=true:=eD (λ_=>rfl) l
attribute [local go_sem] bD aS eI eH WM WL Dj
theorem GM:∀(n:Nat) (l:List ag) (h:Bool),Ctr lim prog 255 [] [.ab 19 ak l,.ac h] (.tup [.sl true 19 ((dk l).map (ak false)),.sl true 1 ((dkF l h).map λb=>.ac b)]) [] (SizeOf.sizeOf l<n/\bR l<=1048576)
 | 0,l,_=>⟨(aT 255),λh=>absurd h.1 (Nat.not_lt_zero _)⟩
 | n+1,l,h=>by
  have ih:=GM n;refine Ctr.bd func255 ntmps255 λhp=>?_;have gOn:=bI.on;obtain⟨hs,hb⟩:=hp;refine AW.f1 0 λhf=>?_;refine vU1 ?_;refine AW.aw [6,7,16] [1,14,15] (λm xs o=>∃k:Nat,xs=[.sl true 19 ((dk (l.take k)).map (ak false)),.sl true 1 ((dkF (l.take k) h).map λb=>.ac b),.aa k]/\o=[]/\m=l.length - k/\k<=l.length) l.length [] trivial ⟨0,?_,rfl,rfl,?_⟩ ?_
  ·rw[take_zero,dk,dkF];try rfl
  ·omega
  rintro m xs o ⟨k,rfl,rfl,rfl,hk⟩;have h1:=nQ (l.take k)
  have h3:=JS (l:=l) (k:=k)
  have h4:k<l.length->SizeOf.sizeOf (at_ l k).af<n/\bR (at_ l k).af<=1048576:=λh=>by
   have:=rX (at_mem h);have:=ag.dA (at_mem h);omega
  have h6:=nQ (at_ l k).af
  have h7:=nQ (l.take (k+1))
  (refine vU4 ?_ ?_ ?_ ?_<;>with_reducible repeat intro h)
  ·rename_i hk1 _;exact⟨_,[_,_,_],[],Um,⟨k+1,rfl,rfl,rfl,Um⟩,by rw[rl hk1,Ao hk1,if_pos h,if_pos h,map_append,map_append,map_cons,map_nil,dC];try rfl,trivial⟩
  ·rename_i hk1 _ hd;exact⟨_,[_,_,_],[],Um,⟨k+1,rfl,rfl,rfl,Um⟩,by rw[rl hk1,Ao hk1,if_neg (by rw[hd];simp),if_pos h,if_neg (by rw[hd];simp),if_pos h,map_append,map_append];try rfl,trivial⟩
  ·rename_i hk1 _ hd;exact⟨_,[_,_,_],[],Um,⟨k+1,rfl,rfl,rfl,Um⟩,by rw[rl hk1,Ao hk1,if_neg (by rw[hd];simp),if_neg Um,if_neg (by rw[hd];simp),if_neg Um,append_nil,append_nil];try rfl,trivial⟩
  ·rw[take_of_length_le Um]
instance(l:List ag)(h:Bool):Ctr lim prog 255 [] [.ab 19 ak l,.ac h] (.tup [.sl true 19 ((dk l).map (ak false)),.sl true 1 ((dkF l h).map λb=>.ac b)]) [] (bR l<=1048576):=⟨(aT 255),λc=>(GM (SizeOf.sizeOf l+1) l h).out ⟨Nat.lt_succ_self _,c⟩⟩
instance eQ(l:List ag):Ctr lim prog 196 [] [.ab 19 ak l] (.sl true 19 ((dk l).map (ak false))) [] (bR l<=1048576):=by
 refine Ctr.bd func196 ntmps196 λhp=>?_;have gOn:=bI.on;exact vU0
 all_goals skip
instance(L:gaa)[hL:Lok L](l:List ag)(n:Str):Ctr L prog 176 [] [.ab 19 ak l,.str n] (.aa (idx (nmP n) l)) [] True:=by
 refine Ctr.bd func176 ntmps176 λhp=>?_;have gOn:=bI.on;refine AW.f1 0 λhf=>?_;have hf:=Nat.le_trans hf (hL.le 19);refine vU1 ?_;refine AW.aw [5] [0,1] (λm xs o=>∃k:Nat,xs=[.aa k]/\o=[]/\m=l.length - k/\k<=l.length/\∀x∈l.take k,nmP n x=false) l.length [] trivial ⟨0,?_,rfl,rfl,?_,?_⟩ ?_
 ·rfl
 ·omega
 ·simp
 rintro m xs o ⟨k,rfl,rfl,rfl,hk,hR⟩
 (refine vU3 ?_ ?_ ?_<;>with_reducible repeat intro h)
 ·rw[gD (p:=nmP n) baa hR (by simpa[nmP]using h)]
 ·exact⟨_,[_],[],Um,⟨k+1,rfl,rfl,rfl,Um,bL (p:=nmP n) baa hR (by simpa[nmP]using h)⟩,rfl,trivial⟩
 ·rw[jh (p:=nmP n) h hR]
end
instance(L:gaa)(x:aD)(n:Str):Ctr L prog 122 [] [.agg [.str x.ae,.ab 6 bt x.aG,.ab 3 ai x.dh],.vp [.str n]] (.ac (x.ae == n)) [] True:=by
 refine Ctr.bd func122 ntmps122 λhp=>?_
 all_goals exact uU
instance(L:gaa)[hL:Lok L](l:List aD)(n:Str):Ctr L prog 121 [] [.ab 3 aR l,.fn 122 [.vp [.str n]]] (.aa (tmI l n)) [] True:=by
 refine Ctr.bd func121 ntmps121 λhp=>?_;refine AW.f1 0 λhf=>?_;have hf:=Nat.le_trans hf (hL.le 3);refine vU1 ?_;refine AW.aw [8] [0,1,7] (λm xs o=>∃k:Nat,xs=[.aa k]/\o=[]/\m=l.length - k/\k<=l.length/\∀x∈l.take k,(x.ae == n)=false) l.length [] trivial ⟨0,?_,rfl,rfl,?_,?_⟩ ?_
 ·rfl
 ·omega
 ·simp
 rintro m xs o ⟨k,rfl,rfl,rfl,hk,hR⟩
 (refine vU3 ?_ ?_ ?_<;>with_reducible repeat intro h)
 ·rw[tmI,gD (p:=λx:aD=>x.ae == n) baa hR (by simpa using h)]
 ·exact⟨_,[_],[],Um,⟨k+1,rfl,rfl,rfl,Um,bL (p:=λx:aD=>x.ae == n) baa hR (by simpa using h)⟩,rfl,trivial⟩
 ·rw[tmI,jh (p:=λx:aD=>x.ae == n) h hR]
instance(L:gaa)[hL:Lok L](T:List aD)(S:List bp)(n:Str):Ctr L prog 65 [] [.agg [.ab 3 aR T,.ab 4 aX S],.str n] (.aa (tmI T n)) [] True:=by
 refine Ctr.bd func65 ntmps65 λhp=>?_
 all_goals exact uU
instance(L:gaa)[hL:Lok L](l:List aD)(S:List bp)(n:Str):Ctr L prog 57 [] [.agg [.ab 3 aR l,.ab 4 aX S],.str n] (.aa (tmI l n)) [] True:=by
 refine Ctr.bd func57 ntmps57 λhp=>?_;refine AW.f1 0 λhf=>?_;have hf:=Nat.le_trans hf.1 (hL.le 3);refine vU1 ?_;refine AW.aw [5] [1,2] (λm xs o=>∃k:Nat,xs=[.aa k]/\o=[]/\m=l.length - k/\k<=l.length/\∀x∈l.take k,(x.ae == n)=false) l.length [] trivial ⟨0,?_,rfl,rfl,?_,?_⟩ ?_
 ·rfl
 ·omega
 ·simp
 rintro m xs o ⟨k,rfl,rfl,rfl,hk,hR⟩
 (refine vU3 ?_ ?_ ?_<;>with_reducible repeat intro h)
 ·rw[tmI,gD (p:=λx:aD=>x.ae == n) baa hR (by simpa using h)]
 ·exact⟨_,[_],[],Um,⟨k+1,rfl,rfl,rfl,Um,bL (p:=λx:aD=>x.ae == n) baa hR (by simpa using h)⟩,rfl,trivial⟩
 ·rw[tmI,jh (p:=λx:aD=>x.ae == n) h hR]
instance(L:gaa)[hL:Lok L](l:List Str)(n:Str):Ctr L prog 83 [] [.al l,.str n] (.ac (cont l n)) [] True:=by
 refine Ctr.bd func83 ntmps83 λhp=>?_;refine AW.f1 0 λhf=>?_;have hf:=Nat.le_trans hf (hL.le 1);refine vU1 ?_;refine AW.aw [5] [0,1] (λm xs o=>∃k:Nat,xs=[.aa k]/\o=[]/\m=l.length - k/\k<=l.length/\∀x∈l.take k,(x == n)=false) l.length [] trivial ⟨0,?_,rfl,rfl,?_,?_⟩ ?_
 ·rfl
 ·omega
 ·simp
 rintro m xs o ⟨k,rfl,rfl,rfl,hk,hR⟩
 (refine vU3 ?_ ?_ ?_<;>with_reducible repeat intro h)
 ·rw[cont,gD (p:=λx:Str=>x == n) baa hR (by simpa using h)];simp
 ·exact⟨_,[_],[],Um,⟨k+1,rfl,rfl,rfl,Um,bL (p:=λx:Str=>x == n) baa hR (by simpa using h)⟩,rfl,trivial⟩
 ·rw[cont,jh (p:=λx:Str=>x == n) h hR];rfl
instance(T:List aD)(S:List bp)(x:bp):Ctr lim prog 139 [] [.agg [.ab 3 aR T,.ab 4 aX S],.agg [.str x.ae,.str x.bz,.ab 2 bS x.fArgs,.al x.bV]] (.ac (svc T x)) [] True:=by
 refine Ctr.bd func139 ntmps139 λhp=>?_;refine AW.f1 1 λhf=>?_;refine vU1 ?_;refine AW.aw [5] [2,3] (λm xs o=>∃k:Nat,xs=[.aa k]/\o=[]/\m=x.bV.length - k/\k<=x.bV.length/\cg (λj=>isName (at_ x.bV j)) k=true/\cg (λj=>!cont (x.bV.take j) (at_ x.bV j)) k=true) x.bV.length [] trivial ⟨0,?_,rfl,rfl,?_,rfl,rfl⟩ ?_
 ·rfl
 ·omega
 rintro m xs o ⟨k,rfl,rfl,rfl,hk,hR,hQ⟩
 (repeat' first|(with_reducible first|refine Z ?_|refine Y ?_|(refine hK _ _ ?_;clear hK K)|refine And.intro ?_ ?_|exact Ct|intro(K:_->_->Prop) hK|(refine gI λhg=>?_;try simp only[hC,reduceCtorEq]at hg;try simp only[hg]))|(refine AW.i rfl (λh=>?_) (λh=>?_)<;>try simp only[hC,reduceCtorEq]at h)|((with_reducible refine E ?_;repeat refine Y ?_);refine eF rfl ?_)|simp(disch:=omega)only[go_sem,<- map_take,Int.toNat_zero,drop_zero]|(with_reducible intro hg;try simp only[hC,reduceCtorEq]at hg)|exact Cl|fail)
 ·rename_i hkl;rcases h with h|h
  ·rw[svc,show names x.bV=false from cM hkl h];simp
  ·rw[svc,show cm x.bV=false from cM hkl (by simp[h])];simp
 ·exact⟨_,[_],[],Um,⟨k+1,rfl,rfl,rfl,Um,cf hR h.1,cf hQ (by simp[h.2])⟩,rfl,trivial⟩
 ·rw[show k=x.bV.length by omega]at hR hQ;rw[svc,show names x.bV=true from hR,show cm x.bV=true from hQ];simp
instance(L:gaa)(x:ah)(n:Str):Ctr L prog 293 [] [.agg (cNo x),.vp [.str n]] (.ac (x.ae == n)) [] True:=by
 refine Ctr.bd func293 ntmps293 λhp=>?_
 all_goals exact uU
instance(L:gaa)[hL:Lok L](l:List ah)(n:Str):Ctr L prog 292 [] [.ab 3 ai l,.fn 293 [.vp [.str n]]] (.aa (idx (ndP n) l)) [] True:=by
 refine Ctr.bd func292 ntmps292 λhp=>?_;refine AW.f1 0 λhf=>?_;have hf:=Nat.le_trans hf (hL.le 3);refine vU1 ?_;refine AW.aw [8] [0,1,7] (λm xs o=>∃k:Nat,xs=[.aa k]/\o=[]/\m=l.length - k/\k<=l.length/\∀x∈l.take k,ndP n x=false) l.length [] trivial ⟨0,?_,rfl,rfl,?_,?_⟩ ?_
 ·rfl
 ·omega
 ·simp
 rintro m xs o ⟨k,rfl,rfl,rfl,hk,hR⟩
 (refine vU3 ?_ ?_ ?_<;>with_reducible repeat intro h)
 ·rw[gD (p:=ndP n) baa hR (by simpa[ndP]using h)]
 ·exact⟨_,[_],[],Um,⟨k+1,rfl,rfl,rfl,Um,bL (p:=ndP n) baa hR (by simpa[ndP]using h)⟩,rfl,trivial⟩
 ·rw[jh (p:=ndP n) h hR]
instance(L:gaa)[hL:Lok L](l:List ah)(n:Str):Ctr L prog 256 [] [.ab 3 ai l,.str n] (.aa (idx (ndP n) l)) [] True:=by
 refine Ctr.bd func256 ntmps256 λhp=>?_
 all_goals exact uU
instance(L:gaa)[hL:Lok L](l:List ah)(n:Str):Ctr L prog 233 [] [.ab 3 ai l,.str n] (.aa (idx (ndP n) l)) [] True:=by
 refine Ctr.bd func233 ntmps233 λhp=>?_;refine AW.f1 0 λhf=>?_;have hf:=Nat.le_trans hf (hL.le 3);refine vU1 ?_;refine AW.aw [5] [0,1] (λm xs o=>∃k:Nat,xs=[.aa k]/\o=[]/\m=l.length - k/\k<=l.length/\∀x∈l.take k,ndP n x=false) l.length [] trivial ⟨0,?_,rfl,rfl,?_,?_⟩ ?_
 ·rfl
 ·omega
 ·simp
 rintro m xs o ⟨k,rfl,rfl,rfl,hk,hR⟩
 (refine vU3 ?_ ?_ ?_<;>with_reducible repeat intro h)
 ·rw[gD (p:=ndP n) baa hR (by simpa[ndP]using h)]
 ·exact⟨_,[_],[],Um,⟨k+1,rfl,rfl,rfl,Um,bL (p:=ndP n) baa hR (by simpa[ndP]using h)⟩,rfl,trivial⟩
 ·rw[jh (p:=ndP n) h hR]
instance(L:gaa)(k:Int):Ctr L prog 263 [] [.aa k] (.ac (gM k)) [] True:=by refine Ctr.bd func263 ntmps263 λhp=>?_;have gOn:=bI.on;refine vU1 ?_;refine congrArg (λb=>AV.ac b) ?_;unfold gM;grind
section
attribute [local go_sem] bD aS bk
instance VU(n:ag)(x:ah):Ctr lim prog 198 [] [.agg (cSc n),.agg (cNo x)] (.tup [.am (kyL n x),.ac (kyB n x)]) [] (True):=by
 refine Ctr.bd func198 ntmps198 λhp=>?_;have gOn:=bI.on;refine AW.f1 0 λhf=>?_;refine vK1 ?_;refine AW.c (λh=>?_) λh=>?_
 ·refine vU1 ?_;rw[(gN h).1,(gN h).2];try rfl
 refine vU1 ?_;refine AW.aw [6,20] [2,3,18,19] (λm xs o=>∃k:Nat,xs=[.am ((n.ax.take k).map (kyT x)),.aa k]/\o=[]/\m=n.ax.length - k/\k<=n.ax.length/\∀y∈n.ax.take k,(!mc x y)=false) n.ax.length [] trivial ⟨0,?_,rfl,rfl,?_,?_⟩ ?_
 ·rfl
 ·omega
 ·simp
 rintro m xs o ⟨k,rfl,rfl,rfl,hk,hR⟩;have hlen:(take k n.ax).length=k:=by rw[length_take];omega
 have hi:=fV (p:=ndP (at_ n.ax k)) x.af
 (refine vU3 ?_ ?_ ?_<;>with_reducible repeat intro h)
 ·rename_i h2 h1;rw[(uq h2 (jL h1 (by rw[mc];simpa using h))).1,(uq h2 (jL h1 (by rw[mc];simpa using h))).2];try rfl
 ·rename_i h2 h1;exact⟨_,[_,_],[],Um,⟨k+1,rfl,rfl,rfl,Um,bL h1 hR (by rw[mc];simpa using h)⟩,by rw[Fb h1];try rfl,trivial⟩
 ·rename_i h1;rw[(oG h1 (fG h hR)).1,(oG h1 (fG h hR)).2,take_of_length_le Um]
theorem L0(n:ag)(x:ah):Ctr lim prog 177 [] [.agg (cSc n),.agg (cNo x)] (.tup [.am (kyL n x),.ac true]) [] (kyB n x=true):=by
 refine Ctr.bd func177 ntmps177 λhp=>?_;have gOn:=bI.on;refine AW.f1 0 λhf=>?_;refine vK1 ?_;refine AW.c (λh=>?_) λh=>?_
 ·refine vU1 ?_;rw[(gN h).1];try rfl
 refine vU1 ?_;refine AW.aw [6,7] [2,3] (λm xs o=>∃k:Nat,xs=[.am ((n.ax.take k).map (kyT x)),.aa k]/\o=[]/\m=n.ax.length - k/\k<=n.ax.length/\∀y∈n.ax.take k,(!mc x y)=false) n.ax.length [] trivial ⟨0,?_,rfl,rfl,?_,?_⟩ ?_
 ·rfl
 ·omega
 ·simp
 rintro m xs o ⟨k,rfl,rfl,rfl,hk,hR⟩;have hlen:(take k n.ax).length=k:=by rw[length_take];omega
 have hi:=fV (p:=ndP (at_ n.ax k)) x.af
 (refine vU3 ?_ ?_ ?_<;>with_reducible repeat intro h)
 ·rename_i h2 h1;exact absurd hp (by rw[(uq h2 (jL h1 (by rw[mc];simpa using h))).2];decide)
 ·rename_i h2 h1;exact⟨_,[_,_],[],Um,⟨k+1,rfl,rfl,rfl,Um,bL h1 hR (by rw[mc];simpa using h)⟩,by rw[Fb h1];try rfl,trivial⟩
 ·rename_i h1;rw[(oG h1 (fG h hR)).1,take_of_length_le Um]
theorem L3(n:ag)(x:ah):Ctr lim prog 177 [] [.agg (cSc n),.agg (cNo x)] (.tup [.v (.slice none 0 0),.ac false]) [] (kyB n x=false):=by
 refine Ctr.bd func177 ntmps177 λhp=>?_;have gOn:=bI.on;refine AW.f1 0 λhf=>?_;refine vK1 ?_;refine AW.c (λh=>?_) λh=>?_
 ·refine vU1 ?_;exact absurd hp (by rw[(gN h).2];decide)
 refine vU1 ?_;refine AW.aw [6,7] [2,3] (λm xs o=>∃k:Nat,xs=[.am ((n.ax.take k).map (kyT x)),.aa k]/\o=[]/\m=n.ax.length - k/\k<=n.ax.length/\∀y∈n.ax.take k,(!mc x y)=false) n.ax.length [] trivial ⟨0,?_,rfl,rfl,?_,?_⟩ ?_
 ·rfl
 ·omega
 ·simp
 rintro m xs o ⟨k,rfl,rfl,rfl,hk,hR⟩;have hlen:(take k n.ax).length=k:=by rw[length_take];omega
 have hi:=fV (p:=ndP (at_ n.ax k)) x.af
 (refine vU2 ?_ ?_<;>with_reducible repeat intro h)
 ·rename_i h2 h1;exact⟨_,[_,_],[],Um,⟨k+1,rfl,rfl,rfl,Um,bL h1 hR (by rw[mc];simpa using h)⟩,by rw[Fb h1];try rfl,trivial⟩
 ·rename_i h1;exact absurd hp (by rw[(oG h1 (fG h hR)).2];decide)
theorem wY(n:ag)(x:ah):Ctr lim prog 177 [] [.agg (cSc n),.agg (cNo x)] (.tup [.al (kyL n x),.ac true]) [] (kyB n x=true) :=
 Ctr.kK (aT 177) λh=>by
  have:=((L0 n x).pure h).frz;simpa only[AV.frz,AV.cl,bD,cond_true]using this
instance(L:gaa)(s:Str):Ctr L prog 321 [] [.str s] (.ac false) [] True:=by
 refine Ctr.bd func321 ntmps321 λhp=>?_;exact vU0
 all_goals simp
instance(L:gaa)(a b:Str):Ctr L prog 296 [] [.str a,.str b] (.aa (o8 a b)) [] True:=by
 refine Ctr.bd func296 ntmps296 λhp=>?_
 (refine vU3 ?_ ?_ ?_<;>with_reducible repeat intro h)
 ·rw[o8,if_pos h]
 ·rename_i h1;rw[o8,if_neg (by rw[h1];simp),if_neg h.2]
 ·rename_i h1;rw[o8,if_neg (by rw[h1];simp),if_pos (by rcases h with h|h;rw[h1]at h;exact absurd h Xp;exact h)]
instance(a b:List Str):Ctr lim prog 258 [] [.al a,.al b] (.aa (cmpL a b)) [] True:=by
 refine Ctr.bd func258 ntmps258 λhp=>?_;have gOn:=bI.on;refine AW.f1 0 λhf=>?_;refine vU1 ?_;refine AW.aw [11] [0,1,9,10] (λm xs o=>∃k:Nat,xs=[.aa k]/\o=[]/\m=a.length - k/\k<=a.length/\k<=b.length/\cmpL (a.drop k) (b.drop k)=cmpL a b) a.length [] trivial ⟨0,?_,rfl,rfl,?_,?_,?_⟩ ?_
 ·rfl
 ·omega
 ·omega
 ·rfl
 rintro m xs o ⟨k,rfl,rfl,rfl,hk,hk2,hR⟩;have hc:=Qx (at_ a k) (at_ b k)
 (refine vU5 ?_ ?_ ?_ ?_ ?_<;>with_reducible repeat intro h)
 ·rename_i h1;rw[<- hR,WH h1 Um]
 ·rename_i h1 _;rw[<- hR,JU h1 Um,if_neg h]
 ·rename_i h1 _;exact⟨_,[_],[],Um,⟨k+1,rfl,rfl,rfl,Um,Um,by rw[<- hR,JU h1 Um,if_pos h]⟩,rfl,trivial⟩
 ·rename_i h1;rw[<- hR,Oa h1,if_pos Um]
 ·rename_i h1;rw[<- hR,Oa h1,if_neg Um]
instance PQ(n:ag)(x y:ah):Ctr lim prog 201 [] [.agg (cSc n),.agg (cNo x),.agg (cNo y)] (.aa (jr n x y)) [] True:=by
 refine Ctr.bd func201 ntmps201 λhp=>?_;have gOn:=bI.on
 (refine vU2 ?_ ?_<;>intro h)
 ·rw[jr,if_neg (by rw[gM];simp;exact h)]
 ·rw[jr,if_pos (by rw[gM];simp;grind)]
instance(a b:List Str):Ctr lim prog 264 [] [.al a,.al b] (.ac (dR a b)) [] True:=by
 refine Ctr.bd func264 ntmps264 λhp=>?_;have gOn:=bI.on;refine AW.f1 0 λhf=>?_;refine vU1 ?_;refine AW.aw [5] [0,1] (λm xs o=>∃k:Nat,xs=[.aa k]/\o=[]/\m=a.length - k/\k<=a.length/\k<=b.length/\dR (a.drop k) (b.drop k)=dR a b) a.length [] trivial ⟨0,?_,rfl,rfl,?_,?_,?_⟩ ?_
 ·rfl
 ·omega
 ·omega
 ·rfl
 rintro m xs o ⟨k,rfl,rfl,rfl,hk,hk2,hR⟩
 (refine vU3 ?_ ?_ ?_<;>with_reducible repeat intro h)
 ·rename_i h1;rw[<- hR,Gl h1.1 h1.2,if_neg h]
 ·rename_i h1;exact⟨_,[_],[],Um,⟨k+1,rfl,rfl,rfl,Um,Um,by rw[<- hR,Gl h1.1 h1.2,if_pos h]⟩,rfl,trivial⟩
 ·rw[<- hR,SX hk hk2 (λc=>h c.1 c.2)]
instance(d:List ag)(x y:ah):Ctr lim prog 207 [] [.ab 19 ak d,.agg (cNo x),.agg (cNo y)] (.ac (dY d x y)) [] (0<=idx (nmP x.ae) d/\(idx (nmP x.ae) d=idx (nmP y.ae) d->kyB (at_ d (idx (nmP x.ae) d).toNat) x=true/\kyB (at_ d (idx (nmP x.ae) d).toNat) y=true)):=by
 refine Ctr.bd func207 ntmps207 λhp=>?_;have gOn:=bI.on
 have hi:=fV (p:=nmP x.ae) d;obtain⟨hp,hy⟩:=hp;refine AW.f1 0 λhf=>?_;refine vK1 ?_;refine AW.c (λh=>?_) λh=>?_
 ·refine vU1 ?_;rw[dY,if_neg];rintro⟨e1,e2⟩;rcases h with h|h
  ·exact h e1
  ·rw[e1,e2]at h;exact absurd h Xp
 obtain⟨hy1,hy2⟩:=hy h.1;haveI hky:=wY (at_ d (idx (nmP x.ae) d).toNat) x
 haveI hkz:=wY (at_ d (idx (nmP x.ae) d).toNat) y;refine vU1 ?_;rw[dY,if_pos ⟨h.1,h.1 ▸ h.2⟩,<- h.1]
