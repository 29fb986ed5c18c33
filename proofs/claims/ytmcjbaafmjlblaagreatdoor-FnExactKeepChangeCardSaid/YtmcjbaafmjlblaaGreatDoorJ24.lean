/- A part. -/
import Derived.Test.YtmcjbaafmjlblaaGreatDoorJ19
import Derived.Test.YtmcjbaafmjlblaaGreatDoorJ23
set_option linter.all false
set_option maxRecDepth 20000
set_option maxHeartbeats 4000000
namespace Go.Proofs
open Go.Ab Go.Dt
section
attribute [local go_sem] ba
instance X8(x:Dt.GStep):Ctr lim Tryz.prog 297 [] [.agg [.str x.ae,.sl false 2 (x.b8.map (cj false))]] (.v (.bool (jt x))) [] True:=by
 refine Ctr.bd Tryz.func297 Tryz.ntmps297 rfl rfl fun hp=>?_
 have gOn:=bA.on
 refine AW.fact 0 fun hf=>?_
 simp (disch:=omega) only [go_sem] at hf
 (refine vU ?_;with_reducible repeat' first|exact Le.l|apply Sw|intro h)
 refine AW.aA [3,10] [1,8,9] (fun m xs o=>∃ k:Nat,xs=[.sl true 1 (((x.b8.take k).map eC.ae).map AV.str),.v (.int .i64 k)]/\o=[]/\m=x.b8.length - k/\k<=x.b8.length/\∀ y∈x.b8.take k,(!pg y)=false) x.b8.length [] trivial ⟨0,?_,rfl,rfl,?_,?_⟩ ?_
 ·rfl
 ·omega
 ·simp
 rintro m xs o ⟨k,rfl,rfl,rfl,hk,hR⟩
 have hlen:(List.take k x.b8).length<=2147483648:=by rw [List.length_take];omega
 (refine vU ?_;with_reducible repeat' first|exact Le.l|apply Sw|intro h)
 ·rw [jt,iL (by assumption) (by rcases h with h|h<;>simp [pg,h])];try rfl
 ·exact ⟨_,[_,_],[],by omega,⟨k+1,rfl,rfl,rfl,by omega,bJ (by assumption) hR (by simp [pg,h.1,h.2])⟩,by rw [Di (by assumption)];try rfl,trivial⟩
 ·rename_i hz h2
  rw [Dk hz,jt,eA hz hR,h2.1,show decide (x.b8.length<=3)=true by simp;omega];try rfl
 ·rw [jt,eA (by assumption) hR]
  cases e:isName x.ae with
  | false=>rfl
  | true=>rw [show decide (x.b8.length<=3)=false by have:=h e;simp;omega];try rfl
instance Vf(x:Dt.eO):Ctr lim Tryz.prog 287 [] [.agg [.v (.bool x.cH),.v (.int .i64 x.dq),.sl false 2 (x.aN.map (aU false))]] (.v (.bool (iK x))) [] True:=by
 refine Ctr.bd Tryz.func287 Tryz.ntmps287 rfl rfl fun hp=>?_
 have gOn:=bA.on
 refine AW.fact 0 fun hf=>?_
 simp (disch:=omega) only [go_sem] at hf
 (refine vU ?_;with_reducible repeat' first|exact Le.l|apply Sw|intro h)
 refine AW.aA [8] [1,6,7] (fun m xs o=>∃ k:Nat,xs=[.v (.int .i64 k)]/\o=[]/\m=x.aN.length - k/\k<=x.aN.length/\∀ y∈x.aN.take k,(!jt y)=false) x.aN.length [] trivial ⟨0,?_,rfl,rfl,?_,?_⟩ ?_
 ·rfl
 ·omega
 ·simp
 rintro m xs o ⟨k,rfl,rfl,rfl,hk,hR⟩
 (refine vU ?_;with_reducible repeat' first|exact Le.l|apply Sw|intro h)
 ·rw [iK,iL (by assumption) h];try rfl
 ·exact ⟨_,[_],[],by omega,⟨k+1,rfl,rfl,rfl,by omega,bJ (by assumption) hR (by simp [h])⟩,rfl,trivial⟩
 ·rw [iK,eA h hR,CP];simp only [Og,qi,iX,Bool.true_and]
instance UZ(x:Dt.eO):Ctr lim Tryz.prog 279 [] [.agg [.v (.bool x.cH),.v (.int .i64 x.dq),.sl false 2 (x.aN.map (aU false))]] (.v (.bool (iK x))) [] True:=by
 refine Ctr.bd Tryz.func279 Tryz.ntmps279 rfl rfl fun hp=>?_
 have gOn:=bA.on
 refine AW.fact 0 fun hf=>?_
 simp (disch:=omega) only [go_sem] at hf
 (refine vU ?_;with_reducible repeat' first|exact Le.l|apply Sw|intro h)
 refine AW.aA [3] [1] (fun m xs o=>∃ k:Nat,xs=[.v (.int .i64 k)]/\o=[]/\m=x.aN.length - k/\k<=x.aN.length/\∀ y∈x.aN.take k,(!jt y)=false) x.aN.length [] trivial ⟨0,?_,rfl,rfl,?_,?_⟩ ?_
 ·rfl
 ·omega
 ·simp
 rintro m xs o ⟨k,rfl,rfl,rfl,hk,hR⟩
 refine vO ?_;intros;refine AW.c (fun h=>?_) fun h=>?_
 ·(refine vK ?_;with_reducible repeat' first|exact Le.l|apply Sw|intro h)
  refine AW.fact 4 fun hg=>?_
  simp (disch:=omega) only [go_sem] at hg
  refine AW.aA [5] [1,3,4] (fun m xs o=>∃ j:Nat,xs=[.v (.int .i64 j)]/\o=[]/\m=(at_ x.aN k).b8.length - j/\j<=(at_ x.aN k).b8.length/\(∀ y∈(at_ x.aN k).b8.take j,(!pg y)=false)/\cO (fun i=>!cont (((at_ x.aN k).b8.map eC.ae).take i) (at_ ((at_ x.aN k).b8.map eC.ae) i)) j=true) (at_ x.aN k).b8.length [] trivial ⟨0,?_,rfl,rfl,?_,?_,rfl⟩ ?_
  ·rfl
  ·omega
  ·simp
  rintro m xs o ⟨j,rfl,rfl,rfl,hj,hS,hQ⟩
  refine vO ?_;intros;refine AW.c (fun h=>?_) fun h=>?_
  ·(refine vK ?_;with_reducible repeat' first|exact Le.l|apply Sw|intro h)
   refine AW.aA [6] [1,3,4,5] (fun m xs o=>∃ i:Nat,xs=[.v (.int .i64 i)]/\o=[]/\m=j - i/\i<=j/\∀ y∈(((at_ x.aN k).b8.map eC.ae).take j).take i,(y == (at_ (at_ x.aN k).b8 j).ae)=false) j [] trivial ⟨0,?_,rfl,rfl,?_,?_⟩ ?_
   ·rfl
   ·omega
   ·simp
   rintro m xs o ⟨i,rfl,rfl,rfl,hi,hT⟩
   (refine vU ?_;with_reducible repeat' first|exact Le.l|apply Sw|intro h)
   ·rw [DH (by assumption) (OG (by assumption) (by assumption) h)]
   ·exact ⟨_,[_],[],by omega,⟨i+1,rfl,rfl,rfl,by omega,bJ (by rw [List.length_take,List.length_map];omega) hT (by rw [Bp (by assumption),mT (by omega)];simpa using h)⟩,rfl,trivial⟩
   ·rw [DH (by assumption) (OD (by assumption) (by rcases h with h|h<;>simp [pg,h]))]
   ·rw [show i=j by omega,List.take_take,Nat.min_self] at hT
    exact ⟨_,[_],[],by omega,⟨j+1,rfl,rfl,rfl,by omega,bJ (by assumption) hS (by simp [pg,h.1,h.2]),dA hQ (by rw [mT (by assumption),qN hT];try rfl)⟩,rfl,trivial⟩
  ·have hst:=OE (s:=at_ x.aN k) h hj hS hQ
   (refine vU ?_;with_reducible repeat' first|exact Le.l|apply Sw|intro h)
   ·rw [DH (by assumption) (by rw [hst];exact Q2 h)]
   ·exact ⟨_,[_],[],by omega,⟨k+1,rfl,rfl,rfl,by omega,bJ (by assumption) hR (by rw [hst];simp [h.1];omega)⟩,rfl,trivial⟩
 (refine vU ?_;with_reducible repeat' first|exact Le.l|apply Sw|intro h)
 ·rw [iK,eA h hR,CP];simp only [Og,qi,iX,Bool.true_and]
  refine congrArg (fun b=>AV.v (.bool b)) ?_
  ac_rfl
instance SQ(x:Dt.eO):Ctr lim Tryz.prog 286 [] [.agg [.v (.bool x.cH),.v (.int .i64 x.dq),.sl false 2 (x.aN.map (aU false))]] (.v (.bool (vV x))) [] True:=by
 refine Ctr.bd Tryz.func286 Tryz.ntmps286 rfl rfl fun hp=>?_
 have gOn:=bA.on
 (refine vU ?_;with_reducible repeat' first|exact Le.l|apply Sw|intro h)
 rw [vV,jv,iX]
instance VT(x:Dt.eO):Ctr lim Tryz.prog 280 [] [.agg [.v (.bool x.cH),.v (.int .i64 x.dq),.sl false 2 (x.aN.map (aU false))]] (.v (.bool (vV x))) [] True:=by
 refine Ctr.bd Tryz.func280 Tryz.ntmps280 rfl rfl fun hp=>?_
 have gOn:=bA.on
 (refine vU ?_;with_reducible repeat' first|exact Le.l|apply Sw|intro h)
 rw [vV,jv,iX]
instance YF(L:Nat->Nat)(a b:Int):Ctr L Tryz.prog 91 [] [.v (.int .i64 a),.v (.int .i64 b)] (.v (.int .i64 (max a b))) [] True:=by
 refine Ctr.bd Tryz.func91 Tryz.ntmps91 rfl rfl fun hp=>?_
 have gOn:=bA.on
 (refine vU ?_;with_reducible repeat' first|exact Le.l|apply Sw|intro h)
 ·rw [show max a b=b by omega]
 ·rw [show max a b=a by omega]
theorem Qz(x:Dt.eO):Ctr lim Tryz.prog 281 [] [.agg [.v (.bool x.cH),.v (.int .i64 x.dq),.sl false 2 (x.aN.map (aU false))]] (.v (.bool (sC x))) [] (iK x=true):=by
 refine Ctr.bd Tryz.func281 Tryz.ntmps281 rfl rfl fun hp=>?_
 have gOn:=bA.on
 (refine vU ?_;with_reducible repeat' first|exact Le.l|apply Sw|intro h)
 ·rw [S1 hp h]
 ·exact (Ns hp (by assumption)).1
 ·rw [<- (Ns hp h).2];try rfl
end
section
theorem G7:∀ (n:Nat),n<=1048576->∀ (x:aO),Ctr lim Tryz.prog 271 [] [.agg [.v (.int .i64 x.fOp),.v (.int .i64 x.fD),.str x.cg,.v (.bool x.aE.cH),.v (.int .i64 x.aE.dq),.sl false 2 (x.aE.aN.map (aU false)),.sl false 7 (x.af.map (aK false))]] (.v (.int .i64 (gS x))) [] (gS x<=n)
 | 0,_,x=>⟨(aM 271),fun h=>absurd h (by rw [pR];omega)⟩
 | n+1,hn,x=>by
  have ih:=G7 n (by omega)
  refine Ctr.bd Tryz.func271 Tryz.ntmps271 rfl rfl fun hp=>?_
  have gOn:=bA.on
  rw [pR] at hp
  refine AW.fact 0 fun hf=>?_
  simp (disch:=omega) only [go_sem] at hf
  (refine vU ?_;with_reducible repeat' first|exact Le.l|apply Sw|intro h)
  refine AW.aA [3,9] [1,7,8] (fun m xs o=>∃ k:Nat,xs=[.v (.int .i64 (dH (x.af.take k))),.v (.int .i64 k)]/\o=[]/\m=x.af.length - k/\k<=x.af.length) x.af.length [] trivial ⟨0,?_,rfl,rfl,?_⟩ ?_
  ·rfl
  ·omega
  rintro m xs o ⟨k,rfl,rfl,rfl,hk⟩
  have hd:=tE x.af k
  have hkk:k<x.af.length->gS (at_ x.af k)<=n:=fun h=>by have:=oA (at_mem h);omega
  (refine vU ?_;with_reducible repeat' first|exact Le.l|apply Sw|intro h)
  ·exact ⟨_,[_,_],[],by omega,⟨k+1,rfl,rfl,rfl,by omega⟩,by rw [zO (by assumption),Rs];try rfl,trivial⟩
  ·rw [pR,show k=x.af.length by omega,List.take_length]
instance Yi(x:aO):Ctr lim Tryz.prog 271 [] [.agg [.v (.int .i64 x.fOp),.v (.int .i64 x.fD),.str x.cg,.v (.bool x.aE.cH),.v (.int .i64 x.aE.dq),.sl false 2 (x.aE.aN.map (aU false)),.sl false 7 (x.af.map (aK false))]] (.v (.int .i64 (gS x))) [] (gS x<=1048576):=G7 1048576 (Nat.le_refl _) x
theorem Gn:∀ (n:Nat),n<=1048576->∀ (x:aO),Ctr lim Tryz.prog 263 [] [.agg [.v (.int .i64 x.fOp),.v (.int .i64 x.fD),.str x.cg,.v (.bool x.aE.cH),.v (.int .i64 x.aE.dq),.sl false 2 (x.aE.aN.map (aU false)),.sl false 7 (x.af.map (aK false))]] (.v (.int .i64 (gS x))) [] (gS x<=n)
 | 0,_,x=>⟨(aM 263),fun h=>absurd h (by rw [pR];omega)⟩
 | n+1,hn,x=>by
  have ih:=Gn n (by omega)
  refine Ctr.bd Tryz.func263 Tryz.ntmps263 rfl rfl fun hp=>?_
  have gOn:=bA.on
  rw [pR] at hp
  refine AW.fact 0 fun hf=>?_
  simp (disch:=omega) only [go_sem] at hf
  (refine vU ?_;with_reducible repeat' first|exact Le.l|apply Sw|intro h)
  refine AW.aA [3,4] [1] (fun m xs o=>∃ k:Nat,xs=[.v (.int .i64 (dH (x.af.take k))),.v (.int .i64 k)]/\o=[]/\m=x.af.length - k/\k<=x.af.length) x.af.length [] trivial ⟨0,?_,rfl,rfl,?_⟩ ?_
  ·rfl
  ·omega
  rintro m xs o ⟨k,rfl,rfl,rfl,hk⟩
  have hd:=tE x.af k
  have hkk:k<x.af.length->gS (at_ x.af k)<=n:=fun h=>by have:=oA (at_mem h);omega
  (refine vU ?_;with_reducible repeat' first|exact Le.l|apply Sw|intro h)
  ·exact ⟨_,[_,_],[],by omega,⟨k+1,rfl,rfl,rfl,by omega⟩,by rw [zO (by assumption),PG];try rfl,trivial⟩
  ·rw [pR,show k=x.af.length by omega,List.take_length]
instance XR(x:aO):Ctr lim Tryz.prog 263 [] [.agg [.v (.int .i64 x.fOp),.v (.int .i64 x.fD),.str x.cg,.v (.bool x.aE.cH),.v (.int .i64 x.aE.dq),.sl false 2 (x.aE.aN.map (aU false)),.sl false 7 (x.af.map (aK false))]] (.v (.int .i64 (gS x))) [] (gS x<=1048576):=Gn 1048576 (Nat.le_refl _) x
theorem NN:∀ (n:Nat) (x:aO),Ctr lim Tryz.prog 272 [] [.agg [.v (.int .i64 x.fOp),.v (.int .i64 x.fD),.str x.cg,.v (.bool x.aE.cH),.v (.int .i64 x.aE.dq),.sl false 2 (x.aE.aN.map (aU false)),.sl false 7 (x.af.map (aK false))]] (.v (.bool (vE x))) [] (SizeOf.sizeOf x<n)
 | 0,x=>⟨(aM 272),fun h=>absurd h (Nat.not_lt_zero _)⟩
 | n+1,x=>by
  have ih:=NN n
  refine Ctr.bd Tryz.func272 Tryz.ntmps272 rfl rfl fun hp=>?_
  have gOn:=bA.on
  have hkk:∀ k,k<x.af.length->SizeOf.sizeOf (at_ x.af k)<n:=fun k h=>by have:=aO.zu (at_mem h);omega
  refine AW.fact 0 fun hf=>?_
  simp (disch:=omega) only [go_sem] at hf
  (refine vU ?_;with_reducible repeat' first|exact Le.l|apply Sw|intro h)
  ·rw [o4 (by rw [fG,dX,exL,gm];grind)]
  ·refine congrArg (fun b=>AV.v (.bool b)) ?_
   rw [lF,wE (by grind),fG,dX,exL,gm];grind
  ·rw [o4 (by rw [fG,dX,exL,gm];grind)]
  ·refine congrArg (fun b=>AV.v (.bool b)) ?_
   rw [lF,wE (by grind),fG,dX,exL,gm];grind
  ·rw [o4 (by rw [fG,dX,exL,gm];grind)]
  ·refine congrArg (fun b=>AV.v (.bool b)) ?_
   rw [lF,wE (by grind),fG,dX,exL,gm];simp only [jv];simp only [iX,qi,sC];grind
  ·rw [o4 (by rw [fG,dX,exL,gm];grind)]
  ·refine congrArg (fun b=>AV.v (.bool b)) ?_
   rw [lF,wE (by grind),fG,dX,exL,gm];grind
  ·rw [o4 (by rw [fG,dX,exL,gm];grind)]
  ·refine AW.aA [144] [1,142,143] (fun m xs o=>∃ k:Nat,xs=[.v (.int .i64 k)]/\o=[]/\m=x.af.length - k/\k<=x.af.length/\∀ y∈x.af.take k,(!vE y)=false) x.af.length [] trivial ⟨0,?_,rfl,rfl,?_,?_⟩ ?_
   ·rfl
   ·omega
   ·simp
   rintro m xs o ⟨k,rfl,rfl,rfl,hk,hR⟩
   have hkk:=hkk k
   (refine vU ?_;with_reducible repeat' first|exact Le.l|apply Sw|intro h)
   ·rw [CN (by assumption) h]
   ·exact ⟨_,[_],[],by omega,⟨k+1,rfl,rfl,rfl,by omega,bJ (by assumption) hR (by simp [h])⟩,rfl,trivial⟩
   ·rw [lF,eA (by assumption) hR,fG,dX,exL,gm];congr 2;grind
  ·rw [o4 (by rw [fG,dX,exL,gm];grind)]
  ·refine AW.aA [144] [1,142,143] (fun m xs o=>∃ k:Nat,xs=[.v (.int .i64 k)]/\o=[]/\m=x.af.length - k/\k<=x.af.length/\∀ y∈x.af.take k,(!vE y)=false) x.af.length [] trivial ⟨0,?_,rfl,rfl,?_,?_⟩ ?_
   ·rfl
   ·omega
   ·simp
   rintro m xs o ⟨k,rfl,rfl,rfl,hk,hR⟩
   have hkk:=hkk k
   (refine vU ?_;with_reducible repeat' first|exact Le.l|apply Sw|intro h)
   ·rw [CN (by assumption) h]
   ·exact ⟨_,[_],[],by omega,⟨k+1,rfl,rfl,rfl,by omega,bJ (by assumption) hR (by simp [h])⟩,rfl,trivial⟩
   ·rw [lF,eA (by assumption) hR,fG,dX,exL,gm];congr 2;grind
instance Zo(x:aO):Ctr lim Tryz.prog 272 [] [.agg [.v (.int .i64 x.fOp),.v (.int .i64 x.fD),.str x.cg,.v (.bool x.aE.cH),.v (.int .i64 x.aE.dq),.sl false 2 (x.aE.aN.map (aU false)),.sl false 7 (x.af.map (aK false))]] (.v (.bool (vE x))) [] True:=⟨(aM 272),fun _=>(NN (SizeOf.sizeOf x+1) x).out (Nat.lt_succ_self _)⟩
end
section
theorem Nx:∀ (n:Nat) (x:aO),Ctr lim Tryz.prog 264 [] [.agg [.v (.int .i64 x.fOp),.v (.int .i64 x.fD),.str x.cg,.v (.bool x.aE.cH),.v (.int .i64 x.aE.dq),.sl false 2 (x.aE.aN.map (aU false)),.sl false 7 (x.af.map (aK false))]] (.v (.bool (vE x))) [] (SizeOf.sizeOf x<n)
 | 0,x=>⟨(aM 264),fun h=>absurd h (Nat.not_lt_zero _)⟩
 | n+1,x=>by
  have ih:=Nx n
  haveI hw:=Qz x.aE
  refine Ctr.bd Tryz.func264 Tryz.ntmps264 rfl rfl fun hp=>?_
  have gOn:=bA.on
  have hkk:∀ k,k<x.af.length->SizeOf.sizeOf (at_ x.af k)<n:=fun k h=>by have:=aO.zu (at_mem h);omega
  refine AW.fact 0 fun hf=>?_
  simp (disch:=omega) only [go_sem] at hf
  (refine vU ?_;with_reducible repeat' first|exact Le.l|apply Sw|intro h)
  ·rw [o4 (by rw [fG,dX,exL,gm];grind)]
  ·refine AW.aA [6] [1,3] (fun m xs o=>∃ k:Nat,xs=[.v (.int .i64 k)]/\o=[]/\m=x.af.length - k/\k<=x.af.length/\∀ y∈x.af.take k,(!vE y)=false) x.af.length [] trivial ⟨0,?_,rfl,rfl,?_,?_⟩ ?_
   ·rfl
   ·omega
   ·simp
   rintro m xs o ⟨k,rfl,rfl,rfl,hk,hR⟩
   have hkk:=hkk k
   (refine vU ?_;with_reducible repeat' first|exact Le.l|apply Sw|intro h)
   ·rw [lF,eA (show ¬ k<x.af.length by omega) hR,fG,dX,exL,gm];congr 2;grind
  ·rw [o4 (by rw [fG,dX,exL,gm];grind)]
  ·refine AW.aA [6] [1,3] (fun m xs o=>∃ k:Nat,xs=[.v (.int .i64 k)]/\o=[]/\m=x.af.length - k/\k<=x.af.length/\∀ y∈x.af.take k,(!vE y)=false) x.af.length [] trivial ⟨0,?_,rfl,rfl,?_,?_⟩ ?_
   ·rfl
   ·omega
   ·simp
   rintro m xs o ⟨k,rfl,rfl,rfl,hk,hR⟩
   have hkk:=hkk k
   (refine vU ?_;with_reducible repeat' first|exact Le.l|apply Sw|intro h)
   ·rw [lF,eA (show ¬ k<x.af.length by omega) hR,fG,dX,exL,gm];congr 2;grind
  ·rw [o4 (by rw [fG,dX,exL,gm];grind)]
  ·refine AW.aA [6] [1,3] (fun m xs o=>∃ k:Nat,xs=[.v (.int .i64 k)]/\o=[]/\m=x.af.length - k/\k<=x.af.length/\∀ y∈x.af.take k,(!vE y)=false) x.af.length [] trivial ⟨0,?_,rfl,rfl,?_,?_⟩ ?_
   ·rfl
   ·omega
   ·simp
   rintro m xs o ⟨k,rfl,rfl,rfl,hk,hR⟩
   have hkk:=hkk k
   (refine vU ?_;with_reducible repeat' first|exact Le.l|apply Sw|intro h)
   ·rw [lF,eA (show ¬ k<x.af.length by omega) hR,fG,dX,exL,gm];congr 2;grind
  ·rw [o4 (by rw [fG,dX,exL,gm];grind)]
  ·refine AW.aA [6] [1,3] (fun m xs o=>∃ k:Nat,xs=[.v (.int .i64 k)]/\o=[]/\m=x.af.length - k/\k<=x.af.length/\∀ y∈x.af.take k,(!vE y)=false) x.af.length [] trivial ⟨0,?_,rfl,rfl,?_,?_⟩ ?_
   ·rfl
   ·omega
   ·simp
   rintro m xs o ⟨k,rfl,rfl,rfl,hk,hR⟩
   have hkk:=hkk k
   (refine vU ?_;with_reducible repeat' first|exact Le.l|apply Sw|intro h)
   ·rw [CN (show k<x.af.length by omega) h]
   ·exact ⟨_,[_],[],by omega,⟨k+1,rfl,rfl,rfl,by omega,bJ (by omega) hR (by simp [h])⟩,rfl,trivial⟩
   ·rw [lF,eA (show ¬ k<x.af.length by omega) hR,fG,dX,exL,gm];congr 2;grind
  ·rw [o4 (by rw [fG,dX,exL,gm];grind)]
  ·refine AW.aA [6] [1,3] (fun m xs o=>∃ k:Nat,xs=[.v (.int .i64 k)]/\o=[]/\m=x.af.length - k/\k<=x.af.length/\∀ y∈x.af.take k,(!vE y)=false) x.af.length [] trivial ⟨0,?_,rfl,rfl,?_,?_⟩ ?_
   ·rfl
   ·omega
   ·simp
   rintro m xs o ⟨k,rfl,rfl,rfl,hk,hR⟩
   have hkk:=hkk k
   (refine vU ?_;with_reducible repeat' first|exact Le.l|apply Sw|intro h)
   ·rw [CN (show k<x.af.length by omega) h]
   ·exact ⟨_,[_],[],by omega,⟨k+1,rfl,rfl,rfl,by omega,bJ (by omega) hR (by simp [h])⟩,rfl,trivial⟩
   ·rw [lF,eA (show ¬ k<x.af.length by omega) hR,fG,dX,exL,gm];congr 2;grind
  ·rw [o4 (by rw [fG,dX,exL,gm];grind)]
instance Zf(x:aO):Ctr lim Tryz.prog 264 [] [.agg [.v (.int .i64 x.fOp),.v (.int .i64 x.fD),.str x.cg,.v (.bool x.aE.cH),.v (.int .i64 x.aE.dq),.sl false 2 (x.aE.aN.map (aU false)),.sl false 7 (x.af.map (aK false))]] (.v (.bool (vE x))) [] True:=⟨(aM 264),fun _=>(Nx (SizeOf.sizeOf x+1) x).out (Nat.lt_succ_self _)⟩
instance Vh(x:aO):Ctr lim Tryz.prog 254 [] [.agg [.v (.int .i64 x.fOp),.v (.int .i64 x.fD),.str x.cg,.v (.bool x.aE.cH),.v (.int .i64 x.aE.dq),.sl false 2 (x.aE.aN.map (aU false)),.sl false 7 (x.af.map (aK false))]] (.v (.bool (yA x))) [] (gS x<=1048576):=by
 refine Ctr.bd Tryz.func254 Tryz.ntmps254 rfl rfl fun hp=>?_
 have gOn:=bA.on
 (refine vU ?_;with_reducible repeat' first|exact Le.l|apply Sw|intro h)
 rw [yA,show decide ((gS x:Int)<=8)=decide (gS x<=8) from decide_eq_decide.2 (by omega)]
instance U1(x:aO):Ctr lim Tryz.prog 242 [] [.agg [.v (.int .i64 x.fOp),.v (.int .i64 x.fD),.str x.cg,.v (.bool x.aE.cH),.v (.int .i64 x.aE.dq),.sl false 2 (x.aE.aN.map (aU false)),.sl false 7 (x.af.map (aK false))]] (.v (.bool (yA x))) [] (gS x<=1048576):=by
 refine Ctr.bd Tryz.func242 Tryz.ntmps242 rfl rfl fun hp=>?_
 have gOn:=bA.on
 (refine vU ?_;with_reducible repeat' first|exact Le.l|apply Sw|intro h)
 rw [yA,show decide ((gS x:Int)<=8)=decide (gS x<=8) from decide_eq_decide.2 (by omega)]
end
section
attribute [local go_sem] ba aI
theorem PK(a b:Nat):(if 1+(b:Int) > (a:Int) then 1+(b:Int) else (a:Int))=((max a (1+b):Nat):Int):=by split<;>omega
instance Vi(L:Nat->Nat)(k:Int):Ctr L Tryz.prog 207 [] [.v (.int .i64 k)] (.v (.bool (di k))) [] (True):=by
 refine Ctr.bd Tryz.func207 Tryz.ntmps207 rfl rfl fun hp=>?_
 have gOn:=bA.on
 (refine vU ?_;with_reducible repeat' first|exact Le.l|apply Sw|intro h)
 refine congrArg (fun b=>AV.v (.bool b)) ?_
 unfold di;grind
instance U2(L:Nat->Nat)(k:Int):Ctr L Tryz.prog 166 [] [.v (.int .i64 k)] (.v (.bool (di k))) [] (True):=by
 refine Ctr.bd Tryz.func166 Tryz.ntmps166 rfl rfl fun hp=>?_
 have gOn:=bA.on
 (refine vU ?_;with_reducible repeat' first|exact Le.l|apply Sw|intro h)
 refine congrArg (fun b=>AV.v (.bool b)) ?_
 unfold di;grind
instance Yc(x:dx):Ctr lim Tryz.prog 229 [] [.agg [.v (.int .i64 x.ai),.sl false 2 (x.aB.map (aR false)),.sl false 1 (x.ax.map AV.str),.str x.aW,.str x.aE]] (.v (.bool (lW x))) [] (True):=by
 refine Ctr.bd Tryz.func229 Tryz.ntmps229 rfl rfl fun hp=>?_
 have gOn:=bA.on
 (refine vU ?_;with_reducible repeat' first|exact Le.l|apply Sw|intro h)
 refine congrArg (fun b=>AV.v (.bool b)) ?_
 rw [lW];simp only [jv,kK];simp only [iX]
instance XJ(x:dx):Ctr lim Tryz.prog 219 [] [.agg [.v (.int .i64 x.ai),.sl false 2 (x.aB.map (aR false)),.sl false 1 (x.ax.map AV.str),.str x.aW,.str x.aE]] (.v (.bool (lW x))) [] (True):=by
 refine Ctr.bd Tryz.func219 Tryz.ntmps219 rfl rfl fun hp=>?_
 have gOn:=bA.on
 (refine vU ?_;with_reducible repeat' first|exact Le.l|apply Sw|intro h)
 refine congrArg (fun b=>AV.v (.bool b)) ?_
 rw [lW];simp only [jv,kK];simp only [iX]
instance X9(x:ag):Ctr lim Tryz.prog 231 [] [.agg (cSc x)] (.v (.bool (mX x))) [] (True):=by
 refine Ctr.bd Tryz.func231 Tryz.ntmps231 rfl rfl fun hp=>?_
 have gOn:=bA.on
 (refine vU ?_;with_reducible repeat' first|exact Le.l|apply Sw|intro h)
 refine congrArg (fun b=>AV.v (.bool b)) ?_
 rw [mX];grind
instance XD(x:ag):Ctr lim Tryz.prog 222 [] [.agg (cSc x)] (.v (.bool (mX x))) [] (True):=by
 refine Ctr.bd Tryz.func222 Tryz.ntmps222 rfl rfl fun hp=>?_
 have gOn:=bA.on
 (refine vU ?_;with_reducible repeat' first|exact Le.l|apply Sw|intro h)
 refine congrArg (fun b=>AV.v (.bool b)) ?_
 rw [mX];grind
instance WA(l:List aO)(q:Int):Ctr lim Tryz.prog 228 [] [.sl false 7 (l.map (aK false)),.v (.int .i64 q)] (.v (.bool (exS l q))) [] (dH l<=1048576):=by
 refine Ctr.bd Tryz.func228 Tryz.ntmps228 rfl rfl fun hp=>?_
 have gOn:=bA.on
 refine AW.fact 0 fun hf=>?_
 simp (disch:=omega) only [go_sem] at hf
 (refine vU ?_;with_reducible repeat' first|exact Le.l|apply Sw|intro h)
 refine AW.aA [9] [0,1,7,8] (fun m xs o=>∃ k:Nat,xs=[.v (.int .i64 k)]/\o=[]/\m=l.length - k/\k<=l.length/\∀ y∈l.take k,(!yA y)=false) l.length [] trivial ⟨0,?_,rfl,rfl,?_,?_⟩ ?_
 ·rfl
 ·omega
 ·simp
 rintro m xs o ⟨k,rfl,rfl,rfl,hk,hR⟩
 have hkk:k<l.length->gS (at_ l k)<=1048576:=fun h=>by have:=oA (at_mem h);omega
 (refine vU ?_;with_reducible repeat' first|exact Le.l|apply Sw|intro h)
 ·rw [exS,iL (by assumption) h];try rfl
 ·exact ⟨_,[_],[],by omega,⟨k+1,rfl,rfl,rfl,by omega,bJ (by assumption) hR (by simp [h])⟩,rfl,trivial⟩
 ·rw [exS,eA (by assumption) hR];try rfl
instance V1(l:List aO)(q:Int):Ctr lim Tryz.prog 218 [] [.sl false 7 (l.map (aK false)),.v (.int .i64 q)] (.v (.bool (exS l q))) [] (dH l<=1048576):=by
 refine Ctr.bd Tryz.func218 Tryz.ntmps218 rfl rfl fun hp=>?_
 have gOn:=bA.on
 refine AW.fact 0 fun hf=>?_
 simp (disch:=omega) only [go_sem] at hf
 (refine vU ?_;with_reducible repeat' first|exact Le.l|apply Sw|intro h)
 refine AW.aA [5] [0,1] (fun m xs o=>∃ k:Nat,xs=[.v (.int .i64 k)]/\o=[]/\m=l.length - k/\k<=l.length/\∀ y∈l.take k,(!yA y)=false) l.length [] trivial ⟨0,?_,rfl,rfl,?_,?_⟩ ?_
 ·rfl
 ·omega
 ·simp
 rintro m xs o ⟨k,rfl,rfl,rfl,hk,hR⟩
 have hkk:k<l.length->gS (at_ l k)<=1048576:=fun h=>by have:=oA (at_mem h);omega
 (refine vU ?_;with_reducible repeat' first|exact Le.l|apply Sw|intro h)
 ·rw [exS,iL (by assumption) h];try rfl
 ·exact ⟨_,[_],[],by omega,⟨k+1,rfl,rfl,rfl,by omega,bJ (by assumption) hR (by simp [h])⟩,rfl,trivial⟩
 ·rw [exS,eA (by assumption) hR];try rfl
instance TP(l:List ag):Ctr lim Tryz.prog 154 [] [.sl false 19 (l.map (ak false))] (.sl true 1 ((nmS l).map AV.str)) [] (True):=by
 refine Ctr.bd Tryz.func154 Tryz.ntmps154 rfl rfl fun hp=>?_
 have gOn:=bA.on
 refine AW.fact 0 fun hf=>?_
 simp (disch:=omega) only [go_sem] at hf
 (refine vU ?_;with_reducible repeat' first|exact Le.l|apply Sw|intro h)
 refine AW.aA [3,9] [7,8] (fun m xs o=>∃ k:Nat,xs=[.sl true 1 (((l.take k).map ag.ae).map AV.str),.v (.int .i64 k)]/\o=[]/\m=l.length - k/\k<=l.length) l.length [] trivial ⟨0,?_,rfl,rfl,?_⟩ ?_
 ·rfl
 ·omega
 rintro m xs o ⟨k,rfl,rfl,rfl,hk⟩
 have hlen:(List.take k l).length<=2147483648:=by rw [List.length_take];omega
 (refine vU ?_;with_reducible repeat' first|exact Le.l|apply Sw|intro h)
 ·exact ⟨_,[_,_],[],by omega,⟨k+1,rfl,rfl,rfl,by omega⟩,by rw [Di (by assumption)];try rfl,trivial⟩
 ·rw [Dk (by assumption)];try rfl
theorem G8:∀ (n:Nat) (l:List ag),Ctr lim Tryz.prog 169 [] [.sl false 19 (l.map (ak false))] (.v (.int .i64 (bE l))) [] (SizeOf.sizeOf l<n/\bE l<=1048576)
 | 0,l=>⟨(aM 169),fun h=>absurd h.1 (Nat.not_lt_zero _)⟩
 | n+1,l=>by
  have ih:=G8 n
  refine Ctr.bd Tryz.func169 Tryz.ntmps169 rfl rfl fun hp=>?_
  have gOn:=bA.on
  obtain ⟨hs,hb⟩:=hp
  refine AW.fact 0 fun hf=>?_
  simp (disch:=omega) only [go_sem] at hf
  (refine vU ?_;with_reducible repeat' first|exact Le.l|apply Sw|intro h)
  refine AW.aA [3,10] [8,9] (fun m xs o=>∃ k:Nat,xs=[.v (.int .i64 ((l.length - k+bE (l.take k):Nat):Int)),.v (.int .i64 k)]/\o=[]/\m=l.length - k/\k<=l.length) l.length [] trivial ⟨0,?_,rfl,rfl,?_⟩ ?_
  ·rw [show l.length - 0+bE (l.take 0)=l.length by simp [bE]];try rfl
  ·omega
  rintro m xs o ⟨k,rfl,rfl,rfl,hk⟩
  have h1:=oB l k
  have h2:k<l.length->SizeOf.sizeOf (at_ l k).af<n/\bE (at_ l k).af<=1048576:=fun h=>by
   have:=qj (at_mem h);have:=ag.cd (at_mem h);omega
  have h3:k<l.length->bE (l.take (k+1))<=bE l:=fun _=>by have:=oB l (k+1);omega
  (refine vU ?_;with_reducible repeat' first|exact Le.l|apply Sw|intro h)
  ·exact ⟨_,[_,_],[],by omega,⟨k+1,rfl,rfl,rfl,by omega⟩,by rw [show l.length - (k+1)+bE (l.take (k+1))=l.length - k+bE (l.take k)+bE (at_ l k).af by rw [La (by assumption)];omega];try rfl,trivial⟩
  ·rw [show l.length - k+bE (l.take k)=bE l by rw [List.take_of_length_le (by omega)];omega]
theorem G6:∀ (n:Nat) (l:List ag),Ctr lim Tryz.prog 170 [] [.sl false 19 (l.map (ak false))] (.v (.int .i64 (ep l))) [] (SizeOf.sizeOf l<n/\ep l<=1048576)
 | 0,l=>⟨(aM 170),fun h=>absurd h.1 (Nat.not_lt_zero _)⟩
 | n+1,l=>by
  have ih:=G6 n
  refine Ctr.bd Tryz.func170 Tryz.ntmps170 rfl rfl fun hp=>?_
  have gOn:=bA.on
  obtain ⟨hs,hb⟩:=hp
  refine AW.fact 0 fun hf=>?_
  simp (disch:=omega) only [go_sem] at hf
  (refine vU ?_;with_reducible repeat' first|exact Le.l|apply Sw|intro h)
  refine AW.aA [3,8] [6,7] (fun m xs o=>∃ k:Nat,xs=[.v (.int .i64 ((ep (l.take k):Nat):Int)),.v (.int .i64 k)]/\o=[]/\m=l.length - k/\k<=l.length) l.length [] trivial ⟨0,?_,rfl,rfl,?_⟩ ?_
  ·rw [show ep (l.take 0)=0 by simp [ep]];try rfl
  ·omega
  rintro m xs o ⟨k,rfl,rfl,rfl,hk⟩
  have h1:=vF l k
  have h2:k<l.length->SizeOf.sizeOf (at_ l k).af<n/\ep (at_ l k).af<=1048576:=fun h=>by
   have:=yE (at_mem h);have:=ag.cd (at_mem h);omega
  have h3:k<l.length->ep (l.take (k+1))<=ep l:=fun _=>by have:=vF l (k+1);omega
  (refine vU ?_;with_reducible repeat' first|exact Le.l|apply Sw|intro h)
  ·exact ⟨_,[_,_],[],by omega,⟨k+1,rfl,rfl,rfl,by omega⟩,by rw [K7 (by assumption),PK];try rfl,trivial⟩
  ·rw [List.take_of_length_le (by omega)]
instance Yj(l:List ag):Ctr lim Tryz.prog 169 [] [.sl false 19 (l.map (ak false))] (.v (.int .i64 (bE l))) [] (bE l<=1048576):=⟨(aM 169),fun h=>(G8 (SizeOf.sizeOf l+1) l).out ⟨Nat.lt_succ_self _,h⟩⟩
instance Yh(l:List ag):Ctr lim Tryz.prog 170 [] [.sl false 19 (l.map (ak false))] (.v (.int .i64 (ep l))) [] (ep l<=1048576):=⟨(aM 170),fun h=>(G6 (SizeOf.sizeOf l+1) l).out ⟨Nat.lt_succ_self _,h⟩⟩
end
section
theorem cU(l:List ag):(l.map (ak false)).all (AV.elem 19)=true:=cX (fun x=>by rw [cK];try rfl) l
theorem cT(l:List ag):((l.map (ak false)).flatMap AV.cells).all AV.one=true:=dw (fun x=>by rw [cK];try rfl) l
theorem Sa(l:List Bool):(l.map fun b=>AV.v (.bool b)).all (AV.elem 1)=true:=cX (fun _=>rfl) l
theorem R9(l:List Bool):((l.map fun b=>AV.v (.bool b)).flatMap AV.cells).all AV.one=true:=dw (fun _=>rfl) l
attribute [local go_sem] ba aI cU cT Sa R9 Bi
theorem Ey:∀ (n:Nat) (l:List ag) (h:Bool),Ctr lim Tryz.prog 179 [] [.sl false 19 (l.map (ak false)),.v (.bool h)] (.tup [.sl true 19 ((dk l).map (ak false)),.sl true 1 ((dkF l h).map fun b=>.v (.bool b))]) [] (SizeOf.sizeOf l<n/\bE l<=1048576)
 | 0,l,_=>⟨(aM 179),fun h=>absurd h.1 (Nat.not_lt_zero _)⟩
 | n+1,l,h=>by
  have ih:=Ey n
  refine Ctr.bd Tryz.func179 Tryz.ntmps179 rfl rfl fun hp=>?_
  have gOn:=bA.on
  obtain ⟨hs,hb⟩:=hp
  refine AW.fact 0 fun hf=>?_
  simp (disch:=omega) only [go_sem] at hf
  (refine vU ?_;with_reducible repeat' first|exact Le.l|apply Sw|intro h)
  refine AW.aA [6,7,16] [1,14,15] (fun m xs o=>∃ k:Nat,xs=[.sl true 19 ((dk (l.take k)).map (ak false)),.sl true 1 ((dkF (l.take k) h).map fun b=>.v (.bool b)),.v (.int .i64 k)]/\o=[]/\m=l.length - k/\k<=l.length) l.length [] trivial ⟨0,?_,rfl,rfl,?_⟩ ?_
  ·rw [List.take_zero,dk,dkF];try rfl
  ·omega
  rintro m xs o ⟨k,rfl,rfl,rfl,hk⟩
  have h1:=nu (l.take k)
  have h3:=HA (l:=l) (k:=k)
  have h4:k<l.length->SizeOf.sizeOf (at_ l k).af<n/\bE (at_ l k).af<=1048576:=fun h=>by
   have:=qj (at_mem h);have:=ag.cd (at_mem h);omega
  have h6:=nu (at_ l k).af
  have h7:=nu (l.take (k+1))
  (refine vU ?_;with_reducible repeat' first|exact Le.l|apply Sw|intro h)
  ·rename_i hk1 _
   exact ⟨_,[_,_,_],[],by omega,⟨k+1,rfl,rfl,rfl,by omega⟩,by rw [pP hk1,yB hk1,if_pos h,if_pos h,List.map_append,List.map_append,List.map_cons,List.map_nil,cK];try rfl,trivial⟩
  ·rename_i hk1 _ hd
   exact ⟨_,[_,_,_],[],by omega,⟨k+1,rfl,rfl,rfl,by omega⟩,by rw [pP hk1,yB hk1,if_neg (by rw [hd];simp),if_pos h,if_neg (by rw [hd];simp),if_pos h,List.map_append,List.map_append];try rfl,trivial⟩
  ·rename_i hk1 _ hd
   exact ⟨_,[_,_,_],[],by omega,⟨k+1,rfl,rfl,rfl,by omega⟩,by rw [pP hk1,yB hk1,if_neg (by rw [hd];simp),if_neg (by omega),if_neg (by rw [hd];simp),if_neg (by omega),List.append_nil,List.append_nil];try rfl,trivial⟩
  ·rw [List.take_of_length_le (by omega)]
instance Wx(l:List ag)(h:Bool):Ctr lim Tryz.prog 179 [] [.sl false 19 (l.map (ak false)),.v (.bool h)] (.tup [.sl true 19 ((dk l).map (ak false)),.sl true 1 ((dkF l h).map fun b=>.v (.bool b))]) [] (bE l<=1048576):=⟨(aM 179),fun c=>(Ey (SizeOf.sizeOf l+1) l h).out ⟨Nat.lt_succ_self _,c⟩⟩
instance cz(l:List ag):Ctr lim Tryz.prog 152 [] [.sl false 19 (l.map (ak false))] (.sl true 19 ((dk l).map (ak false))) [] (bE l<=1048576):=by
 refine Ctr.bd Tryz.func152 Tryz.ntmps152 rfl rfl fun hp=>?_
 have gOn:=bA.on
 (refine vU ?_;with_reducible repeat' first|exact Le.l|apply Sw|intro h)
 all_goals skip
instance V8(L:Nat->Nat)[hL:Lok L](l:List ag)(n:Str):Ctr L Tryz.prog 138 [] [.sl false 19 (l.map (ak false)),.str n] (.v (.int .i64 (idx (nmP n) l))) [] True:=by
 refine Ctr.bd Tryz.func138 Tryz.ntmps138 rfl rfl fun hp=>?_
 have gOn:=bA.on
 refine AW.fact 0 fun hf=>?_
 simp (disch:=omega) only [go_sem] at hf
 have hf:=Nat.le_trans hf (hL.le 19)
 (refine vU ?_;with_reducible repeat' first|exact Le.l|apply Sw|intro h)
 refine AW.aA [5] [0,1] (fun m xs o=>∃ k:Nat,xs=[.v (.int .i64 k)]/\o=[]/\m=l.length - k/\k<=l.length/\∀ x∈l.take k,nmP n x=false) l.length [] trivial ⟨0,?_,rfl,rfl,?_,?_⟩ ?_
 ·rfl
 ·omega
 ·simp
 rintro m xs o ⟨k,rfl,rfl,rfl,hk,hR⟩
 (refine vU ?_;with_reducible repeat' first|exact Le.l|apply Sw|intro h)
 ·rw [kI (p:=nmP n) (by assumption) hR (by simpa [nmP] using h)]
 ·exact ⟨_,[_],[],by omega,⟨k+1,rfl,rfl,rfl,by omega,bJ (p:=nmP n) (by assumption) hR (by simpa [nmP] using h)⟩,rfl,trivial⟩
 ·rw [nL (p:=nmP n) h hR]
end
end Go.Proofs
namespace Go.Dt
open Go Go.Ab
theorem fZ(l:List ag):AV.bZ (l.map (ak false))=l.map (ak false):=by
 rw [AV.pO,List.map_map];refine List.map_congr_left fun x _=>?_
 simp only [Function.comp,cK,AV.frz,AV.bZ,cond_false]
theorem gH(l:List ah):AV.bZ (l.map (aj false))=l.map (aj false):=by
 rw [AV.pO,List.map_map];refine List.map_congr_left fun x _=>?_
 simp only [Function.comp,bR,AV.frz,AV.bZ,cond_false]
end Go.Dt
namespace Go.Proofs
open Go.Ab Go.Dt
section
instance TT(l:List ag):vS lim Tryz.prog 152 [.sl false 19 (l.map (ak false))] (.sl false 19 ((dk l).map (ak false))) (bE l<=1048576) :=
 ⟨(aM 152),fun c=>by
  have:=((cz l).pure c).frz
  simpa only [AV.frz,AV.bZ,fZ,cond_true] using this⟩
end
section
end
section
instance Ym(L:Nat->Nat)(x:ah)(n:Str):Ctr L Tryz.prog 210 [] [.agg (cNo x),.vp [.str n]] (.v (.bool (x.ae == n))) [] True:=by
 refine Ctr.bd Tryz.func210 Tryz.ntmps210 rfl rfl fun hp=>?_
 all_goals exact uU
instance Wl(L:Nat->Nat)[hL:Lok L](l:List ah)(n:Str):Ctr L Tryz.prog 209 [] [.sl false 3 (l.map (aj false)),.fn 210 [.vp [.str n]]] (.v (.int .i64 (idx (ndP n) l))) [] True:=by
 refine Ctr.bd Tryz.func209 Tryz.ntmps209 rfl rfl fun hp=>?_
 refine AW.fact 0 fun hf=>?_
 simp (disch:=omega) only [go_sem] at hf
 have hf:=Nat.le_trans hf (hL.le 3)
 (refine vU ?_;with_reducible repeat' first|exact Le.l|apply Sw|intro h)
 refine AW.aA [8] [0,1,7] (fun m xs o=>∃ k:Nat,xs=[.v (.int .i64 k)]/\o=[]/\m=l.length - k/\k<=l.length/\∀ x∈l.take k,ndP n x=false) l.length [] trivial ⟨0,?_,rfl,rfl,?_,?_⟩ ?_
 ·rfl
 ·omega
 ·simp
 rintro m xs o ⟨k,rfl,rfl,rfl,hk,hR⟩
 (refine vU ?_;with_reducible repeat' first|exact Le.l|apply Sw|intro h)
 ·rw [kI (p:=ndP n) (by assumption) hR (by simpa [ndP] using h)]
 ·exact ⟨_,[_],[],by omega,⟨k+1,rfl,rfl,rfl,by omega,bJ (p:=ndP n) (by assumption) hR (by simpa [ndP] using h)⟩,rfl,trivial⟩
 ·rw [nL (p:=ndP n) h hR]
instance Wy(L:Nat->Nat)[hL:Lok L](l:List ah)(n:Str):Ctr L Tryz.prog 182 [] [.sl false 3 (l.map (aj false)),.str n] (.v (.int .i64 (idx (ndP n) l))) [] True:=by
 refine Ctr.bd Tryz.func182 Tryz.ntmps182 rfl rfl fun hp=>?_
 all_goals exact uU
instance VY(L:Nat->Nat)[hL:Lok L](l:List ah)(n:Str):Ctr L Tryz.prog 175 [] [.sl false 3 (l.map (aj false)),.str n] (.v (.int .i64 (idx (ndP n) l))) [] True:=by
 refine Ctr.bd Tryz.func175 Tryz.ntmps175 rfl rfl fun hp=>?_
 refine AW.fact 0 fun hf=>?_
 simp (disch:=omega) only [go_sem] at hf
 have hf:=Nat.le_trans hf (hL.le 3)
 (refine vU ?_;with_reducible repeat' first|exact Le.l|apply Sw|intro h)
 refine AW.aA [5] [0,1] (fun m xs o=>∃ k:Nat,xs=[.v (.int .i64 k)]/\o=[]/\m=l.length - k/\k<=l.length/\∀ x∈l.take k,ndP n x=false) l.length [] trivial ⟨0,?_,rfl,rfl,?_,?_⟩ ?_
 ·rfl
 ·omega
 ·simp
 rintro m xs o ⟨k,rfl,rfl,rfl,hk,hR⟩
 (refine vU ?_;with_reducible repeat' first|exact Le.l|apply Sw|intro h)
 ·rw [kI (p:=ndP n) (by assumption) hR (by simpa [ndP] using h)]
 ·exact ⟨_,[_],[],by omega,⟨k+1,rfl,rfl,rfl,by omega,bJ (p:=ndP n) (by assumption) hR (by simpa [ndP] using h)⟩,rfl,trivial⟩
 ·rw [nL (p:=ndP n) h hR]
instance YC(L:Nat->Nat)(k:Int):Ctr L Tryz.prog 190 [] [.v (.int .i64 k)] (.v (.bool (gu k))) [] True:=by
 refine Ctr.bd Tryz.func190 Tryz.ntmps190 rfl rfl fun hp=>?_
 have gOn:=bA.on
 (refine vU ?_;with_reducible repeat' first|exact Le.l|apply Sw|intro h)
 refine congrArg (fun b=>AV.v (.bool b)) ?_
 unfold gu;grind
end
end Go.Proofs
