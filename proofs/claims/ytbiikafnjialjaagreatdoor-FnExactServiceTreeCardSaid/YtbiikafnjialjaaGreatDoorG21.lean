/- Part of a proof. -/
import Derived.Test.YtbiikafnjialjaaGreatDoorG20
set_option linter.all false
set_option maxRecDepth 20000
set_option maxHeartbeats 4000000
namespace Go.Proofs
open Go.Ab Go.Dt
section
attribute [local go_sem] dF
instance Vx(x:Dt.GStep):Ctr lim Tryz.prog 371 [] [.agg [.str x.af,.sl false 2 (x.bT.map (bZ false))]] (.v (.bool (jf x))) [] True:=by
 refine Ctr.bd Tryz.func371 Tryz.ntmps371 rfl rfl fun hp=>?_
 have gOn:=cY.on
 refine AW.fact 0 fun hf=>?_
 simp (disch:=omega) only [go_sem] at hf
 (refine vU ?_;with_reducible repeat' first|exact Le.l|apply Sw|intro h)
 refine AW.aw [3,10] [1,8,9] (fun m xs o=>∃ k:Nat,xs=[.sl true 1 (((x.bT.take k).map ed.af).map AV.str),.v (.int .i64 k)]/\o=[]/\m=x.bT.length - k/\k<=x.bT.length/\∀ y∈x.bT.take k,(!oG y)=false) x.bT.length [] trivial ⟨0,?_,rfl,rfl,?_,?_⟩ ?_
 ·rfl
 ·omega
 ·simp
 rintro m xs o ⟨k,rfl,rfl,rfl,hk,hR⟩
 have hlen:(List.take k x.bT).length<=2147483648:=by rw [List.length_take];omega
 (refine vU ?_;with_reducible repeat' first|exact Le.l|apply Sw|intro h)
 ·rw [jf,jq (by assumption) (by rcases h with h|h<;>simp [oG,h])];try rfl
 ·exact ⟨_,[_,_],[],by omega,⟨k+1,rfl,rfl,rfl,by omega,bD (by assumption) hR (by simp [oG,h.1,h.2])⟩,by rw [BX (by assumption)];try rfl,trivial⟩
 ·rename_i hz h2
  rw [BZ hz,jf,eP hz hR,h2.1,show decide (x.bT.length<=3)=true by simp;omega];try rfl
 ·rw [jf,eP (by assumption) hR]
  cases e:isName x.af with
  | false=>rfl
  | true=>rw [show decide (x.bT.length<=3)=false by have:=h e;simp;omega];try rfl
instance Sr(x:Dt.eJ):Ctr lim Tryz.prog 362 [] [.agg [.v (.bool x.cO),.v (.int .i64 x.dc),.sl false 2 (x.aK.map (aS false))]] (.v (.bool (iy x))) [] True:=by
 refine Ctr.bd Tryz.func362 Tryz.ntmps362 rfl rfl fun hp=>?_
 have gOn:=cY.on
 refine AW.fact 0 fun hf=>?_
 simp (disch:=omega) only [go_sem] at hf
 (refine vU ?_;with_reducible repeat' first|exact Le.l|apply Sw|intro h)
 refine AW.aw [8] [1,6,7] (fun m xs o=>∃ k:Nat,xs=[.v (.int .i64 k)]/\o=[]/\m=x.aK.length - k/\k<=x.aK.length/\∀ y∈x.aK.take k,(!jf y)=false) x.aK.length [] trivial ⟨0,?_,rfl,rfl,?_,?_⟩ ?_
 ·rfl
 ·omega
 ·simp
 rintro m xs o ⟨k,rfl,rfl,rfl,hk,hR⟩
 (refine vU ?_;with_reducible repeat' first|exact Le.l|apply Sw|intro h)
 ·rw [iy,jq (by assumption) h];try rfl
 ·exact ⟨_,[_],[],by omega,⟨k+1,rfl,rfl,rfl,by omega,bD (by assumption) hR (by simp [h])⟩,rfl,trivial⟩
 ·rw [iy,eP h hR,Bx];simp only [K8,uz,iJ,Bool.true_and]
instance R6(x:Dt.eJ):Ctr lim Tryz.prog 349 [] [.agg [.v (.bool x.cO),.v (.int .i64 x.dc),.sl false 2 (x.aK.map (aS false))]] (.v (.bool (iy x))) [] True:=by
 refine Ctr.bd Tryz.func349 Tryz.ntmps349 rfl rfl fun hp=>?_
 have gOn:=cY.on
 refine AW.fact 0 fun hf=>?_
 simp (disch:=omega) only [go_sem] at hf
 (refine vU ?_;with_reducible repeat' first|exact Le.l|apply Sw|intro h)
 refine AW.aw [3] [1] (fun m xs o=>∃ k:Nat,xs=[.v (.int .i64 k)]/\o=[]/\m=x.aK.length - k/\k<=x.aK.length/\∀ y∈x.aK.take k,(!jf y)=false) x.aK.length [] trivial ⟨0,?_,rfl,rfl,?_,?_⟩ ?_
 ·rfl
 ·omega
 ·simp
 rintro m xs o ⟨k,rfl,rfl,rfl,hk,hR⟩
 refine vO ?_;intros;refine AW.c (fun h=>?_) fun h=>?_
 ·(refine vK ?_;with_reducible repeat' first|exact Le.l|apply Sw|intro h)
  refine AW.fact 4 fun hg=>?_
  simp (disch:=omega) only [go_sem] at hg
  refine AW.aw [5] [1,3,4] (fun m xs o=>∃ j:Nat,xs=[.v (.int .i64 j)]/\o=[]/\m=(at_ x.aK k).bT.length - j/\j<=(at_ x.aK k).bT.length/\(∀ y∈(at_ x.aK k).bT.take j,(!oG y)=false)/\bL (fun i=>!cont (((at_ x.aK k).bT.map ed.af).take i) (at_ ((at_ x.aK k).bT.map ed.af) i)) j=true) (at_ x.aK k).bT.length [] trivial ⟨0,?_,rfl,rfl,?_,?_,rfl⟩ ?_
  ·rfl
  ·omega
  ·simp
  rintro m xs o ⟨j,rfl,rfl,rfl,hj,hS,hQ⟩
  refine vO ?_;intros;refine AW.c (fun h=>?_) fun h=>?_
  ·(refine vK ?_;with_reducible repeat' first|exact Le.l|apply Sw|intro h)
   refine AW.aw [6] [1,3,4,5] (fun m xs o=>∃ i:Nat,xs=[.v (.int .i64 i)]/\o=[]/\m=j - i/\i<=j/\∀ y∈(((at_ x.aK k).bT.map ed.af).take j).take i,(y == (at_ (at_ x.aK k).bT j).af)=false) j [] trivial ⟨0,?_,rfl,rfl,?_,?_⟩ ?_
   ·rfl
   ·omega
   ·simp
   rintro m xs o ⟨i,rfl,rfl,rfl,hi,hT⟩
   (refine vU ?_;with_reducible repeat' first|exact Le.l|apply Sw|intro h)
   ·rw [Cr (by assumption) (Lq (by assumption) (by assumption) h)]
   ·exact ⟨_,[_],[],by omega,⟨i+1,rfl,rfl,rfl,by omega,bD (by rw [List.length_take,List.length_map];omega) hT (by rw [zL (by assumption),oY (by omega)];simpa using h)⟩,rfl,trivial⟩
   ·rw [Cr (by assumption) (Ln (by assumption) (by rcases h with h|h<;>simp [oG,h]))]
   ·rw [show i=j by omega,List.take_take,Nat.min_self] at hT
    exact ⟨_,[_],[],by omega,⟨j+1,rfl,rfl,rfl,by omega,bD (by assumption) hS (by simp [oG,h.1,h.2]),cj hQ (by rw [oY (by assumption),qu hT];try rfl)⟩,rfl,trivial⟩
  ·have hst:=Lp (s:=at_ x.aK k) h hj hS hQ
   (refine vU ?_;with_reducible repeat' first|exact Le.l|apply Sw|intro h)
   ·rw [Cr (by assumption) (by rw [hst];exact Ol h)]
   ·exact ⟨_,[_],[],by omega,⟨k+1,rfl,rfl,rfl,by omega,bD (by assumption) hR (by rw [hst];simp [h.1];omega)⟩,rfl,trivial⟩
 (refine vU ?_;with_reducible repeat' first|exact Le.l|apply Sw|intro h)
 ·rw [iy,eP h hR,Bx];simp only [K8,uz,iJ,Bool.true_and]
  refine congrArg (fun b=>AV.v (.bool b)) ?_
  ac_rfl
instance P3(x:Dt.eJ):Ctr lim Tryz.prog 361 [] [.agg [.v (.bool x.cO),.v (.int .i64 x.dc),.sl false 2 (x.aK.map (aS false))]] (.v (.bool (uI x))) [] True:=by
 refine Ctr.bd Tryz.func361 Tryz.ntmps361 rfl rfl fun hp=>?_
 have gOn:=cY.on
 (refine vU ?_;with_reducible repeat' first|exact Le.l|apply Sw|intro h)
 rw [uI,mJ,iJ]
instance Tc(x:Dt.eJ):Ctr lim Tryz.prog 350 [] [.agg [.v (.bool x.cO),.v (.int .i64 x.dc),.sl false 2 (x.aK.map (aS false))]] (.v (.bool (uI x))) [] True:=by
 refine Ctr.bd Tryz.func350 Tryz.ntmps350 rfl rfl fun hp=>?_
 have gOn:=cY.on
 (refine vU ?_;with_reducible repeat' first|exact Le.l|apply Sw|intro h)
 rw [uI,mJ,iJ]
instance VW(L:Nat->Nat)(a b:Int):Ctr L Tryz.prog 348 [] [.v (.int .i64 a),.v (.int .i64 b)] (.v (.int .i64 (max a b))) [] True:=by
 refine Ctr.bd Tryz.func348 Tryz.ntmps348 rfl rfl fun hp=>?_
 have gOn:=cY.on
 (refine vU ?_;with_reducible repeat' first|exact Le.l|apply Sw|intro h)
 ·rw [show max a b=b by omega]
 ·rw [show max a b=a by omega]
theorem NL(x:Dt.eJ):Ctr lim Tryz.prog 351 [] [.agg [.v (.bool x.cO),.v (.int .i64 x.dc),.sl false 2 (x.aK.map (aS false))]] (.v (.bool (rK x))) [] (iy x=true):=by
 refine Ctr.bd Tryz.func351 Tryz.ntmps351 rfl rfl fun hp=>?_
 have gOn:=cY.on
 (refine vU ?_;with_reducible repeat' first|exact Le.l|apply Sw|intro h)
 ·rw [Qe hp h]
 ·exact (KG hp (by assumption)).1
 ·rw [<- (KG hp h).2];try rfl
end
section
theorem Fc:∀ (n:Nat),n<=1048576->∀ (x:aO),Ctr lim Tryz.prog 340 [] [.agg [.v (.int .i64 x.fOp),.v (.int .i64 x.fo),.str x.bW,.v (.bool x.aA.cO),.v (.int .i64 x.aA.dc),.sl false 2 (x.aA.aK.map (aS false)),.sl false 7 (x.ag.map (aG false))]] (.v (.int .i64 (gG x))) [] (gG x<=n)
 | 0,_,x=>⟨(aW 340),fun h=>absurd h (by rw [oW];omega)⟩
 | n+1,hn,x=>by
  have ih:=Fc n (by omega)
  refine Ctr.bd Tryz.func340 Tryz.ntmps340 rfl rfl fun hp=>?_
  have gOn:=cY.on
  rw [oW] at hp
  refine AW.fact 0 fun hf=>?_
  simp (disch:=omega) only [go_sem] at hf
  (refine vU ?_;with_reducible repeat' first|exact Le.l|apply Sw|intro h)
  refine AW.aw [3,9] [1,7,8] (fun m xs o=>∃ k:Nat,xs=[.v (.int .i64 (dD (x.ag.take k))),.v (.int .i64 k)]/\o=[]/\m=x.ag.length - k/\k<=x.ag.length) x.ag.length [] trivial ⟨0,?_,rfl,rfl,?_⟩ ?_
  ·rfl
  ·omega
  rintro m xs o ⟨k,rfl,rfl,rfl,hk⟩
  have hd:=sM x.ag k
  have hkk:k<x.ag.length->gG (at_ x.ag k)<=n:=fun h=>by have:=nR (at_mem h);omega
  (refine vU ?_;with_reducible repeat' first|exact Le.l|apply Sw|intro h)
  ·exact ⟨_,[_,_],[],by omega,⟨k+1,rfl,rfl,rfl,by omega⟩,by rw [yF (by assumption),OL];try rfl,trivial⟩
  ·rw [oW,show k=x.ag.length by omega,List.take_length]
instance VD(x:aO):Ctr lim Tryz.prog 340 [] [.agg [.v (.int .i64 x.fOp),.v (.int .i64 x.fo),.str x.bW,.v (.bool x.aA.cO),.v (.int .i64 x.aA.dc),.sl false 2 (x.aA.aK.map (aS false)),.sl false 7 (x.ag.map (aG false))]] (.v (.int .i64 (gG x))) [] (gG x<=1048576):=Fc 1048576 (Nat.le_refl _) x
theorem EI:∀ (n:Nat),n<=1048576->∀ (x:aO),Ctr lim Tryz.prog 331 [] [.agg [.v (.int .i64 x.fOp),.v (.int .i64 x.fo),.str x.bW,.v (.bool x.aA.cO),.v (.int .i64 x.aA.dc),.sl false 2 (x.aA.aK.map (aS false)),.sl false 7 (x.ag.map (aG false))]] (.v (.int .i64 (gG x))) [] (gG x<=n)
 | 0,_,x=>⟨(aW 331),fun h=>absurd h (by rw [oW];omega)⟩
 | n+1,hn,x=>by
  have ih:=EI n (by omega)
  refine Ctr.bd Tryz.func331 Tryz.ntmps331 rfl rfl fun hp=>?_
  have gOn:=cY.on
  rw [oW] at hp
  refine AW.fact 0 fun hf=>?_
  simp (disch:=omega) only [go_sem] at hf
  (refine vU ?_;with_reducible repeat' first|exact Le.l|apply Sw|intro h)
  refine AW.aw [3,4] [1] (fun m xs o=>∃ k:Nat,xs=[.v (.int .i64 (dD (x.ag.take k))),.v (.int .i64 k)]/\o=[]/\m=x.ag.length - k/\k<=x.ag.length) x.ag.length [] trivial ⟨0,?_,rfl,rfl,?_⟩ ?_
  ·rfl
  ·omega
  rintro m xs o ⟨k,rfl,rfl,rfl,hk⟩
  have hd:=sM x.ag k
  have hkk:k<x.ag.length->gG (at_ x.ag k)<=n:=fun h=>by have:=nR (at_mem h);omega
  (refine vU ?_;with_reducible repeat' first|exact Le.l|apply Sw|intro h)
  ·exact ⟨_,[_,_],[],by omega,⟨k+1,rfl,rfl,rfl,by omega⟩,by rw [yF (by assumption),Ms];try rfl,trivial⟩
  ·rw [oW,show k=x.ag.length by omega,List.take_length]
instance Vl(x:aO):Ctr lim Tryz.prog 331 [] [.agg [.v (.int .i64 x.fOp),.v (.int .i64 x.fo),.str x.bW,.v (.bool x.aA.cO),.v (.int .i64 x.aA.dc),.sl false 2 (x.aA.aK.map (aS false)),.sl false 7 (x.ag.map (aG false))]] (.v (.int .i64 (gG x))) [] (gG x<=1048576):=EI 1048576 (Nat.le_refl _) x
theorem KS:∀ (n:Nat) (x:aO),Ctr lim Tryz.prog 341 [] [.agg [.v (.int .i64 x.fOp),.v (.int .i64 x.fo),.str x.bW,.v (.bool x.aA.cO),.v (.int .i64 x.aA.dc),.sl false 2 (x.aA.aK.map (aS false)),.sl false 7 (x.ag.map (aG false))]] (.v (.bool (vE x))) [] (SizeOf.sizeOf x<n)
 | 0,x=>⟨(aW 341),fun h=>absurd h (Nat.not_lt_zero _)⟩
 | n+1,x=>by
  have ih:=KS n
  refine Ctr.bd Tryz.func341 Tryz.ntmps341 rfl rfl fun hp=>?_
  have gOn:=cY.on
  have hkk:∀ k,k<x.ag.length->SizeOf.sizeOf (at_ x.ag k)<n:=fun k h=>by have:=aO.yf (at_mem h);omega
  refine AW.fact 0 fun hf=>?_
  simp (disch:=omega) only [go_sem] at hf
  (refine vU ?_;with_reducible repeat' first|exact Le.l|apply Sw|intro h)
  ·rw [oy (by rw [fD,dV,exL,fX];grind)]
  ·refine congrArg (fun b=>AV.v (.bool b)) ?_
   rw [ll,uW (by grind),fD,dV,exL,fX];grind
  ·rw [oy (by rw [fD,dV,exL,fX];grind)]
  ·refine congrArg (fun b=>AV.v (.bool b)) ?_
   rw [ll,uW (by grind),fD,dV,exL,fX];grind
  ·rw [oy (by rw [fD,dV,exL,fX];grind)]
  ·refine congrArg (fun b=>AV.v (.bool b)) ?_
   rw [ll,uW (by grind),fD,dV,exL,fX];simp only [mJ];simp only [iJ,uz,rK];grind
  ·rw [oy (by rw [fD,dV,exL,fX];grind)]
  ·refine congrArg (fun b=>AV.v (.bool b)) ?_
   rw [ll,uW (by grind),fD,dV,exL,fX];grind
  ·rw [oy (by rw [fD,dV,exL,fX];grind)]
  ·refine AW.aw [144] [1,142,143] (fun m xs o=>∃ k:Nat,xs=[.v (.int .i64 k)]/\o=[]/\m=x.ag.length - k/\k<=x.ag.length/\∀ y∈x.ag.take k,(!vE y)=false) x.ag.length [] trivial ⟨0,?_,rfl,rfl,?_,?_⟩ ?_
   ·rfl
   ·omega
   ·simp
   rintro m xs o ⟨k,rfl,rfl,rfl,hk,hR⟩
   have hkk:=hkk k
   (refine vU ?_;with_reducible repeat' first|exact Le.l|apply Sw|intro h)
   ·rw [Bu (by assumption) h]
   ·exact ⟨_,[_],[],by omega,⟨k+1,rfl,rfl,rfl,by omega,bD (by assumption) hR (by simp [h])⟩,rfl,trivial⟩
   ·rw [ll,eP (by assumption) hR,fD,dV,exL,fX];congr 2;grind
  ·rw [oy (by rw [fD,dV,exL,fX];grind)]
  ·refine AW.aw [144] [1,142,143] (fun m xs o=>∃ k:Nat,xs=[.v (.int .i64 k)]/\o=[]/\m=x.ag.length - k/\k<=x.ag.length/\∀ y∈x.ag.take k,(!vE y)=false) x.ag.length [] trivial ⟨0,?_,rfl,rfl,?_,?_⟩ ?_
   ·rfl
   ·omega
   ·simp
   rintro m xs o ⟨k,rfl,rfl,rfl,hk,hR⟩
   have hkk:=hkk k
   (refine vU ?_;with_reducible repeat' first|exact Le.l|apply Sw|intro h)
   ·rw [Bu (by assumption) h]
   ·exact ⟨_,[_],[],by omega,⟨k+1,rfl,rfl,rfl,by omega,bD (by assumption) hR (by simp [h])⟩,rfl,trivial⟩
   ·rw [ll,eP (by assumption) hR,fD,dV,exL,fX];congr 2;grind
instance WJ(x:aO):Ctr lim Tryz.prog 341 [] [.agg [.v (.int .i64 x.fOp),.v (.int .i64 x.fo),.str x.bW,.v (.bool x.aA.cO),.v (.int .i64 x.aA.dc),.sl false 2 (x.aA.aK.map (aS false)),.sl false 7 (x.ag.map (aG false))]] (.v (.bool (vE x))) [] True:=⟨(aW 341),fun _=>(KS (SizeOf.sizeOf x+1) x).out (Nat.lt_succ_self _)⟩
end
section
theorem KL:∀ (n:Nat) (x:aO),Ctr lim Tryz.prog 332 [] [.agg [.v (.int .i64 x.fOp),.v (.int .i64 x.fo),.str x.bW,.v (.bool x.aA.cO),.v (.int .i64 x.aA.dc),.sl false 2 (x.aA.aK.map (aS false)),.sl false 7 (x.ag.map (aG false))]] (.v (.bool (vE x))) [] (SizeOf.sizeOf x<n)
 | 0,x=>⟨(aW 332),fun h=>absurd h (Nat.not_lt_zero _)⟩
 | n+1,x=>by
  have ih:=KL n
  haveI hw:=NL x.aA
  refine Ctr.bd Tryz.func332 Tryz.ntmps332 rfl rfl fun hp=>?_
  have gOn:=cY.on
  have hkk:∀ k,k<x.ag.length->SizeOf.sizeOf (at_ x.ag k)<n:=fun k h=>by have:=aO.yf (at_mem h);omega
  refine AW.fact 0 fun hf=>?_
  simp (disch:=omega) only [go_sem] at hf
  (refine vU ?_;with_reducible repeat' first|exact Le.l|apply Sw|intro h)
  ·rw [oy (by rw [fD,dV,exL,fX];grind)]
  ·refine AW.aw [6] [1,3] (fun m xs o=>∃ k:Nat,xs=[.v (.int .i64 k)]/\o=[]/\m=x.ag.length - k/\k<=x.ag.length/\∀ y∈x.ag.take k,(!vE y)=false) x.ag.length [] trivial ⟨0,?_,rfl,rfl,?_,?_⟩ ?_
   ·rfl
   ·omega
   ·simp
   rintro m xs o ⟨k,rfl,rfl,rfl,hk,hR⟩
   have hkk:=hkk k
   (refine vU ?_;with_reducible repeat' first|exact Le.l|apply Sw|intro h)
   ·rw [ll,eP (show ¬ k<x.ag.length by omega) hR,fD,dV,exL,fX];congr 2;grind
  ·rw [oy (by rw [fD,dV,exL,fX];grind)]
  ·refine AW.aw [6] [1,3] (fun m xs o=>∃ k:Nat,xs=[.v (.int .i64 k)]/\o=[]/\m=x.ag.length - k/\k<=x.ag.length/\∀ y∈x.ag.take k,(!vE y)=false) x.ag.length [] trivial ⟨0,?_,rfl,rfl,?_,?_⟩ ?_
   ·rfl
   ·omega
   ·simp
   rintro m xs o ⟨k,rfl,rfl,rfl,hk,hR⟩
   have hkk:=hkk k
   (refine vU ?_;with_reducible repeat' first|exact Le.l|apply Sw|intro h)
   ·rw [ll,eP (show ¬ k<x.ag.length by omega) hR,fD,dV,exL,fX];congr 2;grind
  ·rw [oy (by rw [fD,dV,exL,fX];grind)]
  ·refine AW.aw [6] [1,3] (fun m xs o=>∃ k:Nat,xs=[.v (.int .i64 k)]/\o=[]/\m=x.ag.length - k/\k<=x.ag.length/\∀ y∈x.ag.take k,(!vE y)=false) x.ag.length [] trivial ⟨0,?_,rfl,rfl,?_,?_⟩ ?_
   ·rfl
   ·omega
   ·simp
   rintro m xs o ⟨k,rfl,rfl,rfl,hk,hR⟩
   have hkk:=hkk k
   (refine vU ?_;with_reducible repeat' first|exact Le.l|apply Sw|intro h)
   ·rw [ll,eP (show ¬ k<x.ag.length by omega) hR,fD,dV,exL,fX];congr 2;grind
  ·rw [oy (by rw [fD,dV,exL,fX];grind)]
  ·refine AW.aw [6] [1,3] (fun m xs o=>∃ k:Nat,xs=[.v (.int .i64 k)]/\o=[]/\m=x.ag.length - k/\k<=x.ag.length/\∀ y∈x.ag.take k,(!vE y)=false) x.ag.length [] trivial ⟨0,?_,rfl,rfl,?_,?_⟩ ?_
   ·rfl
   ·omega
   ·simp
   rintro m xs o ⟨k,rfl,rfl,rfl,hk,hR⟩
   have hkk:=hkk k
   (refine vU ?_;with_reducible repeat' first|exact Le.l|apply Sw|intro h)
   ·rw [Bu (show k<x.ag.length by omega) h]
   ·exact ⟨_,[_],[],by omega,⟨k+1,rfl,rfl,rfl,by omega,bD (by omega) hR (by simp [h])⟩,rfl,trivial⟩
   ·rw [ll,eP (show ¬ k<x.ag.length by omega) hR,fD,dV,exL,fX];congr 2;grind
  ·rw [oy (by rw [fD,dV,exL,fX];grind)]
  ·refine AW.aw [6] [1,3] (fun m xs o=>∃ k:Nat,xs=[.v (.int .i64 k)]/\o=[]/\m=x.ag.length - k/\k<=x.ag.length/\∀ y∈x.ag.take k,(!vE y)=false) x.ag.length [] trivial ⟨0,?_,rfl,rfl,?_,?_⟩ ?_
   ·rfl
   ·omega
   ·simp
   rintro m xs o ⟨k,rfl,rfl,rfl,hk,hR⟩
   have hkk:=hkk k
   (refine vU ?_;with_reducible repeat' first|exact Le.l|apply Sw|intro h)
   ·rw [Bu (show k<x.ag.length by omega) h]
   ·exact ⟨_,[_],[],by omega,⟨k+1,rfl,rfl,rfl,by omega,bD (by omega) hR (by simp [h])⟩,rfl,trivial⟩
   ·rw [ll,eP (show ¬ k<x.ag.length by omega) hR,fD,dV,exL,fX];congr 2;grind
  ·rw [oy (by rw [fD,dV,exL,fX];grind)]
instance Wy(x:aO):Ctr lim Tryz.prog 332 [] [.agg [.v (.int .i64 x.fOp),.v (.int .i64 x.fo),.str x.bW,.v (.bool x.aA.cO),.v (.int .i64 x.aA.dc),.sl false 2 (x.aA.aK.map (aS false)),.sl false 7 (x.ag.map (aG false))]] (.v (.bool (vE x))) [] True:=⟨(aW 332),fun _=>(KL (SizeOf.sizeOf x+1) x).out (Nat.lt_succ_self _)⟩
instance Su(x:aO):Ctr lim Tryz.prog 319 [] [.agg [.v (.int .i64 x.fOp),.v (.int .i64 x.fo),.str x.bW,.v (.bool x.aA.cO),.v (.int .i64 x.aA.dc),.sl false 2 (x.aA.aK.map (aS false)),.sl false 7 (x.ag.map (aG false))]] (.v (.bool (w7 x))) [] (gG x<=1048576):=by
 refine Ctr.bd Tryz.func319 Tryz.ntmps319 rfl rfl fun hp=>?_
 have gOn:=cY.on
 (refine vU ?_;with_reducible repeat' first|exact Le.l|apply Sw|intro h)
 rw [w7,show decide ((gG x:Int)<=8)=decide (gG x<=8) from decide_eq_decide.2 (by omega)]
instance R9(x:aO):Ctr lim Tryz.prog 311 [] [.agg [.v (.int .i64 x.fOp),.v (.int .i64 x.fo),.str x.bW,.v (.bool x.aA.cO),.v (.int .i64 x.aA.dc),.sl false 2 (x.aA.aK.map (aS false)),.sl false 7 (x.ag.map (aG false))]] (.v (.bool (w7 x))) [] (gG x<=1048576):=by
 refine Ctr.bd Tryz.func311 Tryz.ntmps311 rfl rfl fun hp=>?_
 have gOn:=cY.on
 (refine vU ?_;with_reducible repeat' first|exact Le.l|apply Sw|intro h)
 rw [w7,show decide ((gG x:Int)<=8)=decide (gG x<=8) from decide_eq_decide.2 (by omega)]
end
section
attribute [local go_sem] dF cM
theorem Mw(a b:Nat):(if 1+(b:Int) > (a:Int) then 1+(b:Int) else (a:Int))=((max a (1+b):Nat):Int):=by split<;>omega
instance Sv(L:Nat->Nat)(k:Int):Ctr L Tryz.prog 290 [] [.v (.int .i64 k)] (.v (.bool (eD k))) [] (True):=by
 refine Ctr.bd Tryz.func290 Tryz.ntmps290 rfl rfl fun hp=>?_
 have gOn:=cY.on
 (refine vU ?_;with_reducible repeat' first|exact Le.l|apply Sw|intro h)
 refine congrArg (fun b=>AV.v (.bool b)) ?_
 unfold eD;grind
instance Sa(L:Nat->Nat)(k:Int):Ctr L Tryz.prog 179 [] [.v (.int .i64 k)] (.v (.bool (eD k))) [] (True):=by
 refine Ctr.bd Tryz.func179 Tryz.ntmps179 rfl rfl fun hp=>?_
 have gOn:=cY.on
 (refine vU ?_;with_reducible repeat' first|exact Le.l|apply Sw|intro h)
 refine congrArg (fun b=>AV.v (.bool b)) ?_
 unfold eD;grind
instance Vz(x:cL):Ctr lim Tryz.prog 289 [] [.agg [.v (.int .i64 x.ai),.sl false 2 (x.av.map (aI false)),.sl false 1 (x.ay.map AV.str),.str x.aN,.str x.aA]] (.v (.bool (lH x))) [] (True):=by
 refine Ctr.bd Tryz.func289 Tryz.ntmps289 rfl rfl fun hp=>?_
 have gOn:=cY.on
 (refine vU ?_;with_reducible repeat' first|exact Le.l|apply Sw|intro h)
 refine congrArg (fun b=>AV.v (.bool b)) ?_
 rw [lH];simp only [mJ,rA];simp only [iJ]
instance Ve(x:cL):Ctr lim Tryz.prog 277 [] [.agg [.v (.int .i64 x.ai),.sl false 2 (x.av.map (aI false)),.sl false 1 (x.ay.map AV.str),.str x.aN,.str x.aA]] (.v (.bool (lH x))) [] (True):=by
 refine Ctr.bd Tryz.func277 Tryz.ntmps277 rfl rfl fun hp=>?_
 have gOn:=cY.on
 (refine vU ?_;with_reducible repeat' first|exact Le.l|apply Sw|intro h)
 refine congrArg (fun b=>AV.v (.bool b)) ?_
 rw [lH];simp only [mJ,rA];simp only [iJ]
instance Vy(x:ae):Ctr lim Tryz.prog 291 [] [.agg (cSc x)] (.v (.bool (mF x))) [] (True):=by
 refine Ctr.bd Tryz.func291 Tryz.ntmps291 rfl rfl fun hp=>?_
 have gOn:=cY.on
 (refine vU ?_;with_reducible repeat' first|exact Le.l|apply Sw|intro h)
 refine congrArg (fun b=>AV.v (.bool b)) ?_
 rw [mF];grind
instance Vc(x:ae):Ctr lim Tryz.prog 279 [] [.agg (cSc x)] (.v (.bool (mF x))) [] (True):=by
 refine Ctr.bd Tryz.func279 Tryz.ntmps279 rfl rfl fun hp=>?_
 have gOn:=cY.on
 (refine vU ?_;with_reducible repeat' first|exact Le.l|apply Sw|intro h)
 refine congrArg (fun b=>AV.v (.bool b)) ?_
 rw [mF];grind
instance TP(l:List aO)(q:Int):Ctr lim Tryz.prog 288 [] [.sl false 7 (l.map (aG false)),.v (.int .i64 q)] (.v (.bool (exS l q))) [] (dD l<=1048576):=by
 refine Ctr.bd Tryz.func288 Tryz.ntmps288 rfl rfl fun hp=>?_
 have gOn:=cY.on
 refine AW.fact 0 fun hf=>?_
 simp (disch:=omega) only [go_sem] at hf
 (refine vU ?_;with_reducible repeat' first|exact Le.l|apply Sw|intro h)
 refine AW.aw [9] [0,1,7,8] (fun m xs o=>∃ k:Nat,xs=[.v (.int .i64 k)]/\o=[]/\m=l.length - k/\k<=l.length/\∀ y∈l.take k,(!w7 y)=false) l.length [] trivial ⟨0,?_,rfl,rfl,?_,?_⟩ ?_
 ·rfl
 ·omega
 ·simp
 rintro m xs o ⟨k,rfl,rfl,rfl,hk,hR⟩
 have hkk:k<l.length->gG (at_ l k)<=1048576:=fun h=>by have:=nR (at_mem h);omega
 (refine vU ?_;with_reducible repeat' first|exact Le.l|apply Sw|intro h)
 ·rw [exS,jq (by assumption) h];try rfl
 ·exact ⟨_,[_],[],by omega,⟨k+1,rfl,rfl,rfl,by omega,bD (by assumption) hR (by simp [h])⟩,rfl,trivial⟩
 ·rw [exS,eP (by assumption) hR];try rfl
instance Tf(l:List aO)(q:Int):Ctr lim Tryz.prog 276 [] [.sl false 7 (l.map (aG false)),.v (.int .i64 q)] (.v (.bool (exS l q))) [] (dD l<=1048576):=by
 refine Ctr.bd Tryz.func276 Tryz.ntmps276 rfl rfl fun hp=>?_
 have gOn:=cY.on
 refine AW.fact 0 fun hf=>?_
 simp (disch:=omega) only [go_sem] at hf
 (refine vU ?_;with_reducible repeat' first|exact Le.l|apply Sw|intro h)
 refine AW.aw [5] [0,1] (fun m xs o=>∃ k:Nat,xs=[.v (.int .i64 k)]/\o=[]/\m=l.length - k/\k<=l.length/\∀ y∈l.take k,(!w7 y)=false) l.length [] trivial ⟨0,?_,rfl,rfl,?_,?_⟩ ?_
 ·rfl
 ·omega
 ·simp
 rintro m xs o ⟨k,rfl,rfl,rfl,hk,hR⟩
 have hkk:k<l.length->gG (at_ l k)<=1048576:=fun h=>by have:=nR (at_mem h);omega
 (refine vU ?_;with_reducible repeat' first|exact Le.l|apply Sw|intro h)
 ·rw [exS,jq (by assumption) h];try rfl
 ·exact ⟨_,[_],[],by omega,⟨k+1,rfl,rfl,rfl,by omega,bD (by assumption) hR (by simp [h])⟩,rfl,trivial⟩
 ·rw [exS,eP (by assumption) hR];try rfl
instance Q0(l:List ae):Ctr lim Tryz.prog 197 [] [.sl false 19 (l.map (aq false))] (.sl true 1 ((nmS l).map AV.str)) [] (True):=by
 refine Ctr.bd Tryz.func197 Tryz.ntmps197 rfl rfl fun hp=>?_
 have gOn:=cY.on
 refine AW.fact 0 fun hf=>?_
 simp (disch:=omega) only [go_sem] at hf
 (refine vU ?_;with_reducible repeat' first|exact Le.l|apply Sw|intro h)
 refine AW.aw [3,9] [7,8] (fun m xs o=>∃ k:Nat,xs=[.sl true 1 (((l.take k).map ae.af).map AV.str),.v (.int .i64 k)]/\o=[]/\m=l.length - k/\k<=l.length) l.length [] trivial ⟨0,?_,rfl,rfl,?_⟩ ?_
 ·rfl
 ·omega
 rintro m xs o ⟨k,rfl,rfl,rfl,hk⟩
 have hlen:(List.take k l).length<=2147483648:=by rw [List.length_take];omega
 (refine vU ?_;with_reducible repeat' first|exact Le.l|apply Sw|intro h)
 ·exact ⟨_,[_,_],[],by omega,⟨k+1,rfl,rfl,rfl,by omega⟩,by rw [BX (by assumption)];try rfl,trivial⟩
 ·rw [BZ (by assumption)];try rfl
theorem Fe:∀ (n:Nat) (l:List ae),Ctr lim Tryz.prog 193 [] [.sl false 19 (l.map (aq false))] (.v (.int .i64 (cE l))) [] (SizeOf.sizeOf l<n/\cE l<=1048576)
 | 0,l=>⟨(aW 193),fun h=>absurd h.1 (Nat.not_lt_zero _)⟩
 | n+1,l=>by
  have ih:=Fe n
  refine Ctr.bd Tryz.func193 Tryz.ntmps193 rfl rfl fun hp=>?_
  have gOn:=cY.on
  obtain ⟨hs,hb⟩:=hp
  refine AW.fact 0 fun hf=>?_
  simp (disch:=omega) only [go_sem] at hf
  (refine vU ?_;with_reducible repeat' first|exact Le.l|apply Sw|intro h)
  refine AW.aw [3,10] [8,9] (fun m xs o=>∃ k:Nat,xs=[.v (.int .i64 ((l.length - k+cE (l.take k):Nat):Int)),.v (.int .i64 k)]/\o=[]/\m=l.length - k/\k<=l.length) l.length [] trivial ⟨0,?_,rfl,rfl,?_⟩ ?_
  ·rw [show l.length - 0+cE (l.take 0)=l.length by simp [cE]];try rfl
  ·omega
  rintro m xs o ⟨k,rfl,rfl,rfl,hk⟩
  have h1:=nS l k
  have h2:k<l.length->SizeOf.sizeOf (at_ l k).ag<n/\cE (at_ l k).ag<=1048576:=fun h=>by
   have:=pP (at_mem h);have:=ae.dM (at_mem h);omega
  have h3:k<l.length->cE (l.take (k+1))<=cE l:=fun _=>by have:=nS l (k+1);omega
  (refine vU ?_;with_reducible repeat' first|exact Le.l|apply Sw|intro h)
  ·exact ⟨_,[_,_],[],by omega,⟨k+1,rfl,rfl,rfl,by omega⟩,by rw [show l.length - (k+1)+cE (l.take (k+1))=l.length - k+cE (l.take k)+cE (at_ l k).ag by rw [IM (by assumption)];omega];try rfl,trivial⟩
  ·rw [show l.length - k+cE (l.take k)=cE l by rw [List.take_of_length_le (by omega)];omega]
theorem Fb:∀ (n:Nat) (l:List ae),Ctr lim Tryz.prog 194 [] [.sl false 19 (l.map (aq false))] (.v (.int .i64 (dY l))) [] (SizeOf.sizeOf l<n/\dY l<=1048576)
 | 0,l=>⟨(aW 194),fun h=>absurd h.1 (Nat.not_lt_zero _)⟩
 | n+1,l=>by
  have ih:=Fb n
  refine Ctr.bd Tryz.func194 Tryz.ntmps194 rfl rfl fun hp=>?_
  have gOn:=cY.on
  obtain ⟨hs,hb⟩:=hp
  refine AW.fact 0 fun hf=>?_
  simp (disch:=omega) only [go_sem] at hf
  (refine vU ?_;with_reducible repeat' first|exact Le.l|apply Sw|intro h)
  refine AW.aw [3,8] [6,7] (fun m xs o=>∃ k:Nat,xs=[.v (.int .i64 ((dY (l.take k):Nat):Int)),.v (.int .i64 k)]/\o=[]/\m=l.length - k/\k<=l.length) l.length [] trivial ⟨0,?_,rfl,rfl,?_⟩ ?_
  ·rw [show dY (l.take 0)=0 by simp [dY]];try rfl
  ·omega
  rintro m xs o ⟨k,rfl,rfl,rfl,hk⟩
  have h1:=uy l k
  have h2:k<l.length->SizeOf.sizeOf (at_ l k).ag<n/\dY (at_ l k).ag<=1048576:=fun h=>by
   have:=xc (at_mem h);have:=ae.dM (at_mem h);omega
  have h3:k<l.length->dY (l.take (k+1))<=dY l:=fun _=>by have:=uy l (k+1);omega
  (refine vU ?_;with_reducible repeat' first|exact Le.l|apply Sw|intro h)
  ·exact ⟨_,[_,_],[],by omega,⟨k+1,rfl,rfl,rfl,by omega⟩,by rw [IJ (by assumption),Mw];try rfl,trivial⟩
  ·rw [List.take_of_length_le (by omega)]
instance VE(l:List ae):Ctr lim Tryz.prog 193 [] [.sl false 19 (l.map (aq false))] (.v (.int .i64 (cE l))) [] (cE l<=1048576):=⟨(aW 193),fun h=>(Fe (SizeOf.sizeOf l+1) l).out ⟨Nat.lt_succ_self _,h⟩⟩
instance VC(l:List ae):Ctr lim Tryz.prog 194 [] [.sl false 19 (l.map (aq false))] (.v (.int .i64 (dY l))) [] (dY l<=1048576):=⟨(aW 194),fun h=>(Fb (SizeOf.sizeOf l+1) l).out ⟨Nat.lt_succ_self _,h⟩⟩
end
section
theorem lN(l:List ae):(l.map (aq false)).all (AV.elem 19)=true:=dx (fun x=>by rw [cT];try rfl) l
theorem lM(l:List ae):((l.map (aq false)).flatMap AV.cells).all AV.one=true:=dQ (fun x=>by rw [cT];try rfl) l
theorem Pu(l:List Bool):(l.map fun b=>AV.v (.bool b)).all (AV.elem 1)=true:=dx (fun _=>rfl) l
theorem Pt(l:List Bool):((l.map fun b=>AV.v (.bool b)).flatMap AV.cells).all AV.one=true:=dQ (fun _=>rfl) l
attribute [local go_sem] dF cM lN lM Pu Pt zF
theorem C3:∀ (n:Nat) (l:List ae) (h:Bool),Ctr lim Tryz.prog 255 [] [.sl false 19 (l.map (aq false)),.v (.bool h)] (.tup [.sl true 19 ((dk l).map (aq false)),.sl true 1 ((dkF l h).map fun b=>.v (.bool b))]) [] (SizeOf.sizeOf l<n/\cE l<=1048576)
 | 0,l,_=>⟨(aW 255),fun h=>absurd h.1 (Nat.not_lt_zero _)⟩
 | n+1,l,h=>by
  have ih:=C3 n
  refine Ctr.bd Tryz.func255 Tryz.ntmps255 rfl rfl fun hp=>?_
  have gOn:=cY.on
  obtain ⟨hs,hb⟩:=hp
  refine AW.fact 0 fun hf=>?_
  simp (disch:=omega) only [go_sem] at hf
  (refine vU ?_;with_reducible repeat' first|exact Le.l|apply Sw|intro h)
  refine AW.aw [6,7,16] [1,14,15] (fun m xs o=>∃ k:Nat,xs=[.sl true 19 ((dk (l.take k)).map (aq false)),.sl true 1 ((dkF (l.take k) h).map fun b=>.v (.bool b)),.v (.int .i64 k)]/\o=[]/\m=l.length - k/\k<=l.length) l.length [] trivial ⟨0,?_,rfl,rfl,?_⟩ ?_
  ·rw [List.take_zero,dk,dkF];try rfl
  ·omega
  rintro m xs o ⟨k,rfl,rfl,rfl,hk⟩
  have h1:=lP (l.take k)
  have h3:=Fq (l:=l) (k:=k)
  have h4:k<l.length->SizeOf.sizeOf (at_ l k).ag<n/\cE (at_ l k).ag<=1048576:=fun h=>by
   have:=pP (at_mem h);have:=ae.dM (at_mem h);omega
  have h6:=lP (at_ l k).ag
  have h7:=lP (l.take (k+1))
  (refine vU ?_;with_reducible repeat' first|exact Le.l|apply Sw|intro h)
  ·rename_i hk1 _
   exact ⟨_,[_,_,_],[],by omega,⟨k+1,rfl,rfl,rfl,by omega⟩,by rw [oU hk1,w9 hk1,if_pos h,if_pos h,List.map_append,List.map_append,List.map_cons,List.map_nil,cT];try rfl,trivial⟩
  ·rename_i hk1 _ hd
   exact ⟨_,[_,_,_],[],by omega,⟨k+1,rfl,rfl,rfl,by omega⟩,by rw [oU hk1,w9 hk1,if_neg (by rw [hd];simp),if_pos h,if_neg (by rw [hd];simp),if_pos h,List.map_append,List.map_append];try rfl,trivial⟩
  ·rename_i hk1 _ hd
   exact ⟨_,[_,_,_],[],by omega,⟨k+1,rfl,rfl,rfl,by omega⟩,by rw [oU hk1,w9 hk1,if_neg (by rw [hd];simp),if_neg (by omega),if_neg (by rw [hd];simp),if_neg (by omega),List.append_nil,List.append_nil];try rfl,trivial⟩
  ·rw [List.take_of_length_le (by omega)]
instance TM(l:List ae)(h:Bool):Ctr lim Tryz.prog 255 [] [.sl false 19 (l.map (aq false)),.v (.bool h)] (.tup [.sl true 19 ((dk l).map (aq false)),.sl true 1 ((dkF l h).map fun b=>.v (.bool b))]) [] (cE l<=1048576):=⟨(aW 255),fun c=>(C3 (SizeOf.sizeOf l+1) l h).out ⟨Nat.lt_succ_self _,c⟩⟩
instance v8(l:List ae):Ctr lim Tryz.prog 196 [] [.sl false 19 (l.map (aq false))] (.sl true 19 ((dk l).map (aq false))) [] (cE l<=1048576):=by
 refine Ctr.bd Tryz.func196 Tryz.ntmps196 rfl rfl fun hp=>?_
 have gOn:=cY.on
 (refine vU ?_;with_reducible repeat' first|exact Le.l|apply Sw|intro h)
 all_goals skip
instance Tr(L:Nat->Nat)[hL:Lok L](l:List ae)(n:Str):Ctr L Tryz.prog 176 [] [.sl false 19 (l.map (aq false)),.str n] (.v (.int .i64 (idx (nmP n) l))) [] True:=by
 refine Ctr.bd Tryz.func176 Tryz.ntmps176 rfl rfl fun hp=>?_
 have gOn:=cY.on
 refine AW.fact 0 fun hf=>?_
 simp (disch:=omega) only [go_sem] at hf
 have hf:=Nat.le_trans hf (hL.le 19)
 (refine vU ?_;with_reducible repeat' first|exact Le.l|apply Sw|intro h)
 refine AW.aw [5] [0,1] (fun m xs o=>∃ k:Nat,xs=[.v (.int .i64 k)]/\o=[]/\m=l.length - k/\k<=l.length/\∀ x∈l.take k,nmP n x=false) l.length [] trivial ⟨0,?_,rfl,rfl,?_,?_⟩ ?_
 ·rfl
 ·omega
 ·simp
 rintro m xs o ⟨k,rfl,rfl,rfl,hk,hR⟩
 (refine vU ?_;with_reducible repeat' first|exact Le.l|apply Sw|intro h)
 ·rw [gB (p:=nmP n) (by assumption) hR (by simpa [nmP] using h)]
 ·exact ⟨_,[_],[],by omega,⟨k+1,rfl,rfl,rfl,by omega,bD (p:=nmP n) (by assumption) hR (by simpa [nmP] using h)⟩,rfl,trivial⟩
 ·rw [jb (p:=nmP n) h hR]
end
section
attribute [local go_sem] dF cM eH
instance OO(n:ae)(x:ah):Ctr lim Tryz.prog 198 [] [.agg (cSc n),.agg (cNo x)] (.tup [.sl true 1 ((kyL n x).map AV.str),.v (.bool (kyB n x))]) [] (True):=by
 refine Ctr.bd Tryz.func198 Tryz.ntmps198 rfl rfl fun hp=>?_
 have gOn:=cY.on
 refine AW.fact 0 fun hf=>?_
 simp (disch:=omega) only [go_sem] at hf
 refine vO ?_;intros;refine AW.c (fun h=>?_) fun h=>?_
 ·(refine vU ?_;with_reducible repeat' first|exact Le.l|apply Sw|intro h)
  rw [(nM h).1,(nM h).2];try rfl
 (refine vU ?_;with_reducible repeat' first|exact Le.l|apply Sw|intro h)
 refine AW.aw [6,20] [2,3,18,19] (fun m xs o=>∃ k:Nat,xs=[.sl true 1 (((n.aD.take k).map (kyT x)).map AV.str),.v (.int .i64 k)]/\o=[]/\m=n.aD.length - k/\k<=n.aD.length/\∀ y∈n.aD.take k,(!mY x y)=false) n.aD.length [] trivial ⟨0,?_,rfl,rfl,?_,?_⟩ ?_
 ·rfl
 ·omega
 ·simp
 rintro m xs o ⟨k,rfl,rfl,rfl,hk,hR⟩
 have hlen:(List.take k n.aD).length=k:=by rw [List.length_take];omega
 have hi:=iL (p:=ndP (at_ n.aD k)) x.ag
 (refine vU ?_;with_reducible repeat' first|exact Le.l|apply Sw|intro h)
 ·rename_i h2 h1
  rw [(zf h2 (jq h1 (by rw [mY];simpa using h))).1,(zf h2 (jq h1 (by rw [mY];simpa using h))).2];try rfl
 ·rename_i h2 h1
  exact ⟨_,[_,_],[],by omega,⟨k+1,rfl,rfl,rfl,by omega,bD h1 hR (by rw [mY];simpa using h)⟩,by rw [BX h1];try rfl,trivial⟩
 ·rename_i h1
  rw [(rp h1 (eP h hR)).1,(rp h1 (eP h hR)).2,List.take_of_length_le (by omega)]
theorem NP(n:ae)(x:ah):Ctr lim Tryz.prog 177 [] [.agg (cSc n),.agg (cNo x)] (.tup [.sl true 1 ((kyL n x).map AV.str),.v (.bool true)]) [] (kyB n x=true):=by
 refine Ctr.bd Tryz.func177 Tryz.ntmps177 rfl rfl fun hp=>?_
 have gOn:=cY.on
 refine AW.fact 0 fun hf=>?_
 simp (disch:=omega) only [go_sem] at hf
 refine vO ?_;intros;refine AW.c (fun h=>?_) fun h=>?_
 ·(refine vU ?_;with_reducible repeat' first|exact Le.l|apply Sw|intro h)
  rw [(nM h).1];try rfl
 (refine vU ?_;with_reducible repeat' first|exact Le.l|apply Sw|intro h)
 refine AW.aw [6,7] [2,3] (fun m xs o=>∃ k:Nat,xs=[.sl true 1 (((n.aD.take k).map (kyT x)).map AV.str),.v (.int .i64 k)]/\o=[]/\m=n.aD.length - k/\k<=n.aD.length/\∀ y∈n.aD.take k,(!mY x y)=false) n.aD.length [] trivial ⟨0,?_,rfl,rfl,?_,?_⟩ ?_
 ·rfl
 ·omega
 ·simp
 rintro m xs o ⟨k,rfl,rfl,rfl,hk,hR⟩
 have hlen:(List.take k n.aD).length=k:=by rw [List.length_take];omega
 have hi:=iL (p:=ndP (at_ n.aD k)) x.ag
 (refine vU ?_;with_reducible repeat' first|exact Le.l|apply Sw|intro h)
 ·rename_i h2 h1
  exact absurd hp (by rw [(zf h2 (jq h1 (by rw [mY];simpa using h))).2];decide)
 ·rename_i h2 h1
  exact ⟨_,[_,_],[],by omega,⟨k+1,rfl,rfl,rfl,by omega,bD h1 hR (by rw [mY];simpa using h)⟩,by rw [BX h1];try rfl,trivial⟩
 ·rename_i h1
  rw [(rp h1 (eP h hR)).1,List.take_of_length_le (by omega)]
theorem NQ(n:ae)(x:ah):Ctr lim Tryz.prog 177 [] [.agg (cSc n),.agg (cNo x)] (.tup [.v (.slice none 0 0),.v (.bool false)]) [] (kyB n x=false):=by
 refine Ctr.bd Tryz.func177 Tryz.ntmps177 rfl rfl fun hp=>?_
 have gOn:=cY.on
 refine AW.fact 0 fun hf=>?_
 simp (disch:=omega) only [go_sem] at hf
 refine vO ?_;intros;refine AW.c (fun h=>?_) fun h=>?_
 ·(refine vU ?_;with_reducible repeat' first|exact Le.l|apply Sw|intro h)
  exact absurd hp (by rw [(nM h).2];decide)
 (refine vU ?_;with_reducible repeat' first|exact Le.l|apply Sw|intro h)
 refine AW.aw [6,7] [2,3] (fun m xs o=>∃ k:Nat,xs=[.sl true 1 (((n.aD.take k).map (kyT x)).map AV.str),.v (.int .i64 k)]/\o=[]/\m=n.aD.length - k/\k<=n.aD.length/\∀ y∈n.aD.take k,(!mY x y)=false) n.aD.length [] trivial ⟨0,?_,rfl,rfl,?_,?_⟩ ?_
 ·rfl
 ·omega
 ·simp
 rintro m xs o ⟨k,rfl,rfl,rfl,hk,hR⟩
 have hlen:(List.take k n.aD).length=k:=by rw [List.length_take];omega
 have hi:=iL (p:=ndP (at_ n.aD k)) x.ag
 (refine vU ?_;with_reducible repeat' first|exact Le.l|apply Sw|intro h)
 ·rename_i h2 h1
  exact ⟨_,[_,_],[],by omega,⟨k+1,rfl,rfl,rfl,by omega,bD h1 hR (by rw [mY];simpa using h)⟩,by rw [BX h1];try rfl,trivial⟩
 ·rename_i h1
  exact absurd hp (by rw [(rp h1 (eP h hR)).2];decide)
theorem Cg(n:ae)(x:ah):Ctr lim Tryz.prog 177 [] [.agg (cSc n),.agg (cNo x)] (.tup [.sl false 1 ((kyL n x).map AV.str),.v (.bool true)]) [] (kyB n x=true) :=
 Ctr.jH (aW 177) fun h=>by
  have:=((NP n x).pure h).frz
  simpa only [AV.frz,AV.bS,dF,cond_true] using this
instance UL(L:Nat->Nat)(s:Str):Ctr L Tryz.prog 321 [] [.str s] (.v (.bool false)) [] True:=by
 refine Ctr.bd Tryz.func321 Tryz.ntmps321 rfl rfl fun hp=>?_
 (refine vU ?_;with_reducible repeat' first|exact Le.l|apply Sw|intro h)
 all_goals simp
instance Wl(L:Nat->Nat)(a b:Str):Ctr L Tryz.prog 296 [] [.str a,.str b] (.v (.int .i64 (mO a b))) [] True:=by
 refine Ctr.bd Tryz.func296 Tryz.ntmps296 rfl rfl fun hp=>?_
 (refine vU ?_;with_reducible repeat' first|exact Le.l|apply Sw|intro h)
 ·rw [mO,if_pos h]
 ·rename_i h1
  rw [mO,if_neg (by rw [h1];simp),if_neg h.2]
 ·rename_i h1
  rw [mO,if_neg (by rw [h1];simp),if_pos (by rcases h with h|h;rw [h1] at h;exact absurd h (by simp);exact h)]
instance Wu(a b:List Str):Ctr lim Tryz.prog 258 [] [.sl false 1 (a.map AV.str),.sl false 1 (b.map AV.str)] (.v (.int .i64 (cmpL a b))) [] True:=by
 refine Ctr.bd Tryz.func258 Tryz.ntmps258 rfl rfl fun hp=>?_
 have gOn:=cY.on
 refine AW.fact 0 fun hf=>?_
 simp (disch:=omega) only [go_sem] at hf
 (refine vU ?_;with_reducible repeat' first|exact Le.l|apply Sw|intro h)
 refine AW.aw [11] [0,1,9,10] (fun m xs o=>∃ k:Nat,xs=[.v (.int .i64 k)]/\o=[]/\m=a.length - k/\k<=a.length/\k<=b.length/\cmpL (a.drop k) (b.drop k)=cmpL a b) a.length [] trivial ⟨0,?_,rfl,rfl,?_,?_,?_⟩ ?_
 ·rfl
 ·omega
 ·omega
 ·rfl
 rintro m xs o ⟨k,rfl,rfl,rfl,hk,hk2,hR⟩
 have hc:=Kz (at_ a k) (at_ b k)
 (refine vU ?_;with_reducible repeat' first|exact Le.l|apply Sw|intro h)
 ·rename_i h1
  rw [<- hR,Pr h1 (by omega)]
 ·rename_i h1 _
  rw [<- hR,Ft h1 (by omega),if_neg h]
 ·rename_i h1 _
  exact ⟨_,[_],[],by omega,⟨k+1,rfl,rfl,rfl,by omega,by omega,by rw [<- hR,Ft h1 (by omega),if_pos h]⟩,rfl,trivial⟩
 ·rename_i h1
  rw [<- hR,IQ h1,if_pos (by omega)]
 ·rename_i h1
  rw [<- hR,IQ h1,if_neg (by omega)]
instance JZ(n:ae)(x y:ah):Ctr lim Tryz.prog 201 [] [.agg (cSc n),.agg (cNo x),.agg (cNo y)] (.v (.int .i64 (j7 n x y))) [] True:=by
 refine Ctr.bd Tryz.func201 Tryz.ntmps201 rfl rfl fun hp=>?_
 have gOn:=cY.on
 (refine vU ?_;with_reducible repeat' first|exact Le.l|apply Sw|intro h)
 ·rw [j7,if_neg (by rw [kH];simp;exact h)]
 ·rw [j7,if_pos (by rw [kH];simp;grind)]
instance Vg(a b:List Str):Ctr lim Tryz.prog 264 [] [.sl false 1 (a.map AV.str),.sl false 1 (b.map AV.str)] (.v (.bool (dq a b))) [] True:=by
 refine Ctr.bd Tryz.func264 Tryz.ntmps264 rfl rfl fun hp=>?_
 have gOn:=cY.on
 refine AW.fact 0 fun hf=>?_
 simp (disch:=omega) only [go_sem] at hf
 (refine vU ?_;with_reducible repeat' first|exact Le.l|apply Sw|intro h)
 refine AW.aw [5] [0,1] (fun m xs o=>∃ k:Nat,xs=[.v (.int .i64 k)]/\o=[]/\m=a.length - k/\k<=a.length/\k<=b.length/\dq (a.drop k) (b.drop k)=dq a b) a.length [] trivial ⟨0,?_,rfl,rfl,?_,?_,?_⟩ ?_
 ·rfl
 ·omega
 ·omega
 ·rfl
 rintro m xs o ⟨k,rfl,rfl,rfl,hk,hk2,hR⟩
 (refine vU ?_;with_reducible repeat' first|exact Le.l|apply Sw|intro h)
 ·rename_i h1
  rw [<- hR,CP h1.1 h1.2,if_neg h]
 ·rename_i h1
  exact ⟨_,[_],[],by omega,⟨k+1,rfl,rfl,rfl,by omega,by omega,by rw [<- hR,CP h1.1 h1.2,if_pos h]⟩,rfl,trivial⟩
 ·rw [<- hR,Me hk hk2 (fun c=>h c.1 c.2)]
instance Sb(d:List ae)(x y:ah):Ctr lim Tryz.prog 207 [] [.sl false 19 (d.map (aq false)),.agg (cNo x),.agg (cNo y)] (.v (.bool (fq d x y))) [] (0<=idx (nmP x.af) d/\(idx (nmP x.af) d=idx (nmP y.af) d->kyB (at_ d (idx (nmP x.af) d).toNat) x=true/\kyB (at_ d (idx (nmP x.af) d).toNat) y=true)):=by
 refine Ctr.bd Tryz.func207 Tryz.ntmps207 rfl rfl fun hp=>?_
 have gOn:=cY.on
 have hi:=iL (p:=nmP x.af) d
 obtain ⟨hp,hy⟩:=hp
 refine AW.fact 0 fun hf=>?_
 simp (disch:=omega) only [go_sem] at hf
 refine vO ?_;intros;refine AW.c (fun h=>?_) fun h=>?_
 ·(refine vU ?_;with_reducible repeat' first|exact Le.l|apply Sw|intro h)
  rw [fq,if_neg]
  rintro ⟨e1,e2⟩
  rcases h with h|h
  ·exact h e1
  ·rw [e1,e2] at h;exact absurd h (by simp)
 obtain ⟨hy1,hy2⟩:=hy h.1
 haveI hky:=Cg (at_ d (idx (nmP x.af) d).toNat) x
 haveI hkz:=Cg (at_ d (idx (nmP x.af) d).toNat) y
 (refine vU ?_;with_reducible repeat' first|exact Le.l|apply Sw|intro h)
 rw [fq,if_pos ⟨h.1,h.1 ▸ h.2⟩,<- h.1]
end
end Go.Proofs
