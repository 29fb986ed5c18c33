/- Part of a proof. -/
import Derived.Test.YtpelkkfkecfmbaaGreatDoorH22
set_option linter.all false
set_option maxRecDepth 20000
set_option maxHeartbeats 4000000
open Go.Proofs.Tryz
namespace Go.Proofs
open Go.Ab Go.Dt
section
attribute [local go_sem] aM
instance acv(x:Dt.GStep):Ctr lim prog 273 [] [.agg [.str x.ag,.sl false 2 (x.aT.map (ct false))]] (.ac (iS x)) [] True:=by
 refine Ctr.bd func273 ntmps273 fun hp=>?_;have gOn:=aD.on;refine AW.f1 0 fun hf=>?_;refine vU1 ?_;refine AW.aw [3,10] [1,8,9] (fun m xs o=>∃ k:Nat,xs=[.sl true 1 (((x.aT.take k).map cu.ag).map AV.str),.aa k]/\o=[]/\m=x.aT.length - k/\k<=x.aT.length/\∀ y∈x.aT.take k,(!pX y)=false) x.aT.length [] trivial ⟨0,?_,rfl,rfl,?_,?_⟩ ?_
 ·rfl
 ·omega
 ·simp
 rintro m xs o ⟨k,rfl,rfl,rfl,hk,hR⟩;have hlen:(List.take k x.aT).length<=2147483648:=by rw [List.length_take];omega
 (refine vU4 ?_ ?_ ?_ ?_<;>with_reducible repeat intro h)
 ·rw [iS,eQ yG (by rcases h with h|h<;>simp [pX,h])];try rfl
 ·exact ⟨_,[_,_],[],Ir,⟨k+1,rfl,rfl,rfl,Ir,aL yG hR (by simp [pX,h.1,h.2])⟩,by rw [E8 yG];try rfl,trivial⟩
 ·rename_i hz h2;rw [Fa hz,iS,cM hz hR,h2.1,show decide (x.aT.length<=3)=true by simp;omega];try rfl
 ·rw [iS,cM yG hR]
  cases e:isName x.ag with
  | false=>rfl
  | true=>rw [show decide (x.aT.length<=3)=false by have:=h e;simp;omega];try rfl
instance Zy(x:Dt.bP):Ctr lim prog 237 [] [.agg [.ac x.bR,.aa x.bG,.sl false 2 (x.av.map (aA false))]] (.ac (dQ x)) [] True:=by
 refine Ctr.bd func237 ntmps237 fun hp=>?_;have gOn:=aD.on;refine AW.f1 0 fun hf=>?_;refine vU1 ?_;refine AW.aw [8] [1,6,7] (fun m xs o=>∃ k:Nat,xs=[.aa k]/\o=[]/\m=x.av.length - k/\k<=x.av.length/\∀ y∈x.av.take k,(!iS y)=false) x.av.length [] trivial ⟨0,?_,rfl,rfl,?_,?_⟩ ?_
 ·rfl
 ·omega
 ·simp
 rintro m xs o ⟨k,rfl,rfl,rfl,hk,hR⟩
 (refine vU3 ?_ ?_ ?_<;>with_reducible repeat intro h)
 ·rw [dQ,eQ yG h];try rfl
 ·exact ⟨_,[_],[],Ir,⟨k+1,rfl,rfl,rfl,Ir,aL yG hR (by simp [h])⟩,rfl,trivial⟩
 ·rw [dQ,cM h hR,AJ];simp only [Rg,q9,fC,Bool.true_and]
instance Dl(x:Dt.bP):Ctr lim prog 221 [] [.agg [.ac x.bR,.aa x.bG,.sl false 2 (x.av.map (aA false))]] (.ac (dQ x)) [] True:=by
 refine Ctr.bd func221 ntmps221 fun hp=>?_;have gOn:=aD.on;refine AW.f1 0 fun hf=>?_;refine vU1 ?_;refine AW.aw [3] [1] (fun m xs o=>∃ k:Nat,xs=[.aa k]/\o=[]/\m=x.av.length - k/\k<=x.av.length/\∀ y∈x.av.take k,(!iS y)=false) x.av.length [] trivial ⟨0,?_,rfl,rfl,?_,?_⟩ ?_
 ·rfl
 ·omega
 ·simp
 rintro m xs o ⟨k,rfl,rfl,rfl,hk,hR⟩;refine vK1 ?_;refine AW.c (fun h=>?_) fun h=>?_
 ·refine vK1 ?_;refine AW.fact 4 fun hg=>?_;simp (disch:=omega) only [go_sem] at hg;refine AW.aw [5] [1,3,4] (fun m xs o=>∃ j:Nat,xs=[.aa j]/\o=[]/\m=(at_ x.av k).aT.length - j/\j<=(at_ x.av k).aT.length/\(∀ y∈(at_ x.av k).aT.take j,(!pX y)=false)/\cS (fun i=>!cont (((at_ x.av k).aT.map cu.ag).take i) (at_ ((at_ x.av k).aT.map cu.ag) i)) j=true) (at_ x.av k).aT.length [] trivial ⟨0,?_,rfl,rfl,?_,?_,rfl⟩ ?_
  ·rfl
  ·omega
  ·simp
  rintro m xs o ⟨j,rfl,rfl,rfl,hj,hS,hQ⟩;refine vK1 ?_;refine AW.c (fun h=>?_) fun h=>?_
  ·refine vK1 ?_;refine AW.aw [6] [1,3,4,5] (fun m xs o=>∃ i:Nat,xs=[.aa i]/\o=[]/\m=j - i/\i<=j/\∀ y∈(((at_ x.av k).aT.map cu.ag).take j).take i,(y == (at_ (at_ x.av k).aT j).ag)=false) j [] trivial ⟨0,?_,rfl,rfl,?_,?_⟩ ?_
   ·rfl
   ·omega
   ·simp
   rintro m xs o ⟨i,rfl,rfl,rfl,hi,hT⟩
   (refine vU4 ?_ ?_ ?_ ?_<;>with_reducible repeat intro h)
   ·rw [FL yG (RE yG yG h)]
   ·exact ⟨_,[_],[],Ir,⟨i+1,rfl,rfl,rfl,Ir,aL (by rw [List.length_take,List.length_map];omega) hT (by rw [C2 yG,qp Ir];simpa using h)⟩,rfl,trivial⟩
   ·rw [FL yG (RC yG (by rcases h with h|h<;>simp [pX,h]))]
   ·rw [show i=j by omega,List.take_take,Nat.min_self] at hT;exact ⟨_,[_],[],Ir,⟨j+1,rfl,rfl,rfl,Ir,aL yG hS (by simp [pX,h.1,h.2]),dc hQ (by rw [qp yG,rU hT];try rfl)⟩,rfl,trivial⟩
  ·have hst:=RD (s:=at_ x.av k) h hj hS hQ
   (refine vU2 ?_ ?_<;>intro h)
   ·rw [FL yG (by rw [hst];exact Vs h)]
   ·exact ⟨_,[_],[],Ir,⟨k+1,rfl,rfl,rfl,Ir,aL yG hR (by rw [hst];simp [h.1];omega)⟩,rfl,trivial⟩
 refine vU1 ?_
 ·rw [dQ,cM h hR,AJ];simp only [Rg,q9,fC,Bool.true_and];refine congrArg (fun b=>AV.ac b) ?_
  ac_rfl
instance Xp(x:Dt.bP):Ctr lim prog 332 [] [.agg [.ac x.bR,.aa x.bG,.sl false 2 (x.av.map (aA false))]] (.ac (xw x)) [] True:=by refine Ctr.bd func332 ntmps332 fun hp=>?_;have gOn:=aD.on;refine vU1 ?_;rw [xw,jt,fC]
instance aaa(x:Dt.bP):Ctr lim prog 327 [] [.agg [.ac x.bR,.aa x.bG,.sl false 2 (x.av.map (aA false))]] (.ac (xw x)) [] True:=by refine Ctr.bd func327 ntmps327 fun hp=>?_;have gOn:=aD.on;refine vU1 ?_;rw [xw,jt,fC]
instance ac0(L:eaa)(a b:Int):Ctr L prog 326 [] [.aa a,.aa b] (.aa (max a b)) [] True:=by
 refine Ctr.bd func326 ntmps326 fun hp=>?_;have gOn:=aD.on
 (refine vU2 ?_ ?_<;>intro h)
 ·rw [show max a b=b by omega]
 ·rw [show max a b=a by omega]
theorem UT(x:Dt.bP):Ctr lim prog 328 [] [.agg [.ac x.bR,.aa x.bG,.sl false 2 (x.av.map (aA false))]] (.ac (ue x)) [] (dQ x=true):=by
 refine Ctr.bd func328 ntmps328 fun hp=>?_;have gOn:=aD.on
 (refine vU3 ?_ ?_ ?_<;>with_reducible repeat intro h)
 ·rw [XA hp h]
 ·exact (QE hp yG).1
 ·rw [<- (QE hp h).2];try rfl
end
section
theorem JB:∀ (n:Nat),n<=1048576->∀ (x:aB),Ctr lim prog 310 [] [.agg (cEx x)] (.aa (dG x)) [] (dG x<=n)
 | 0,_,x=>⟨(aU 310),fun h=>absurd h (by rw [qo];omega)⟩
 | n+1,hn,x=>by
  have ih:=JB n Ir;refine Ctr.bd func310 ntmps310 fun hp=>?_;have gOn:=aD.on;rw [qo] at hp;refine AW.f1 0 fun hf=>?_;refine vU1 ?_;refine AW.aw [3,9] [1,7,8] (fun m xs o=>∃ k:Nat,xs=[.aa (dw (x.af.take k)),.aa k]/\o=[]/\m=x.af.length - k/\k<=x.af.length) x.af.length [] trivial ⟨0,?_,rfl,rfl,?_⟩ ?_
  ·rfl
  ·omega
  rintro m xs o ⟨k,rfl,rfl,rfl,hk⟩;have hd:=ve x.af k
  have hkk:k<x.af.length->dG (at_ x.af k)<=n:=fun h=>by have:=lP (at_mem h);omega
  (refine vU2 ?_ ?_<;>with_reducible repeat intro h)
  ·exact ⟨_,[_,_],[],Ir,⟨k+1,rfl,rfl,rfl,Ir⟩,by rw [BA yG,VO];try rfl,trivial⟩
  ·rw [qo,show k=x.af.length by omega,List.take_length]
instance acD(x:aB):Ctr lim prog 310 [] [.agg (cEx x)] (.aa (dG x)) [] (dG x<=1048576):=JB 1048576 (Nat.le_refl _) x
theorem IW:∀ (n:Nat),n<=1048576->∀ (x:aB),Ctr lim prog 294 [] [.agg (cEx x)] (.aa (dG x)) [] (dG x<=n)
 | 0,_,x=>⟨(aU 294),fun h=>absurd h (by rw [qo];omega)⟩
 | n+1,hn,x=>by
  have ih:=IW n Ir;refine Ctr.bd func294 ntmps294 fun hp=>?_;have gOn:=aD.on;rw [qo] at hp;refine AW.f1 0 fun hf=>?_;refine vU1 ?_;refine AW.aw [3,4] [1] (fun m xs o=>∃ k:Nat,xs=[.aa (dw (x.af.take k)),.aa k]/\o=[]/\m=x.af.length - k/\k<=x.af.length) x.af.length [] trivial ⟨0,?_,rfl,rfl,?_⟩ ?_
  ·rfl
  ·omega
  rintro m xs o ⟨k,rfl,rfl,rfl,hk⟩;have hd:=ve x.af k
  have hkk:k<x.af.length->dG (at_ x.af k)<=n:=fun h=>by have:=lP (at_mem h);omega
  (refine vU2 ?_ ?_<;>intro h)
  ·exact ⟨_,[_,_],[],Ir,⟨k+1,rfl,rfl,rfl,Ir⟩,by rw [BA yG,S3];try rfl,trivial⟩
  ·rw [qo,show k=x.af.length by omega,List.take_length]
instance aca(x:aB):Ctr lim prog 294 [] [.agg (cEx x)] (.aa (dG x)) [] (dG x<=1048576):=IW 1048576 (Nat.le_refl _) x
theorem Q0:∀ (n:Nat) (x:aB),Ctr lim prog 311 [] [.agg (cEx x)] (.ac (vE x)) [] (SizeOf.sizeOf x<n)
 | 0,x=>⟨(aU 311),fun h=>absurd h (Nat.not_lt_zero _)⟩
 | n+1,x=>by
  have ih:=Q0 n;refine Ctr.bd func311 ntmps311 fun hp=>?_;have gOn:=aD.on
  have hkk:∀ k,k<x.af.length->SizeOf.sizeOf (at_ x.af k)<n:=fun k h=>by have:=aB.Bj (at_mem h);omega
  refine AW.f1 0 fun hf=>?_
  (refine vU ?_;with_reducible repeat' first|exact Le.l|apply Sw|intro h)
  ·rw [pP (by rw [fk,dN,exL,ek];grind)]
  ·refine congrArg (fun b=>AV.ac b) ?_;rw [lW,x4 (by grind),fk,dN,exL,ek];grind
  ·rw [pP (by rw [fk,dN,exL,ek];grind)]
  ·refine congrArg (fun b=>AV.ac b) ?_;rw [lW,x4 (by grind),fk,dN,exL,ek];grind
  ·rw [pP (by rw [fk,dN,exL,ek];grind)]
  ·refine congrArg (fun b=>AV.ac b) ?_;rw [lW,x4 (by grind),fk,dN,exL,ek];simp only [jt];simp only [fC,q9,ue];grind
  ·rw [pP (by rw [fk,dN,exL,ek];grind)]
  ·refine congrArg (fun b=>AV.ac b) ?_;rw [lW,x4 (by grind),fk,dN,exL,ek];grind
  ·rw [pP (by rw [fk,dN,exL,ek];grind)]
  ·refine AW.aw [144] [1,142,143] (fun m xs o=>∃ k:Nat,xs=[.aa k]/\o=[]/\m=x.af.length - k/\k<=x.af.length/\∀ y∈x.af.take k,(!vE y)=false) x.af.length [] trivial ⟨0,?_,rfl,rfl,?_,?_⟩ ?_
   ·rfl
   ·omega
   ·simp
   rintro m xs o ⟨k,rfl,rfl,rfl,hk,hR⟩;have hkk:=hkk k
   (refine vU3 ?_ ?_ ?_<;>with_reducible repeat intro h)
   ·rw [Ep yG h]
   ·exact ⟨_,[_],[],Ir,⟨k+1,rfl,rfl,rfl,Ir,aL yG hR (by simp [h])⟩,rfl,trivial⟩
   ·rw [lW,cM yG hR,fk,dN,exL,ek];congr 2;grind
  ·rw [pP (by rw [fk,dN,exL,ek];grind)]
  ·refine AW.aw [144] [1,142,143] (fun m xs o=>∃ k:Nat,xs=[.aa k]/\o=[]/\m=x.af.length - k/\k<=x.af.length/\∀ y∈x.af.take k,(!vE y)=false) x.af.length [] trivial ⟨0,?_,rfl,rfl,?_,?_⟩ ?_
   ·rfl
   ·omega
   ·simp
   rintro m xs o ⟨k,rfl,rfl,rfl,hk,hR⟩;have hkk:=hkk k
   (refine vU3 ?_ ?_ ?_<;>with_reducible repeat intro h)
   ·rw [Ep yG h]
   ·exact ⟨_,[_],[],Ir,⟨k+1,rfl,rfl,rfl,Ir,aL yG hR (by simp [h])⟩,rfl,trivial⟩
   ·rw [lW,cM yG hR,fk,dN,exL,ek];congr 2;grind
instance ad7(x:aB):Ctr lim prog 311 [] [.agg (cEx x)] (.ac (vE x)) [] True:=⟨(aU 311),fun _=>(Q0 (SizeOf.sizeOf x+1) x).out (Nat.lt_succ_self _)⟩
end
section
theorem QU:∀ (n:Nat) (x:aB),Ctr lim prog 295 [] [.agg (cEx x)] (.ac (vE x)) [] (SizeOf.sizeOf x<n)
 | 0,x=>⟨(aU 295),fun h=>absurd h (Nat.not_lt_zero _)⟩
 | n+1,x=>by
  have ih:=QU n
  haveI hw:=UT x.az;refine Ctr.bd func295 ntmps295 fun hp=>?_;have gOn:=aD.on
  have hkk:∀ k,k<x.af.length->SizeOf.sizeOf (at_ x.af k)<n:=fun k h=>by have:=aB.Bj (at_mem h);omega
  refine AW.f1 0 fun hf=>?_
  (refine vU ?_;with_reducible repeat' first|exact Le.l|apply Sw|intro h)
  ·rw [pP (by rw [fk,dN,exL,ek];grind)]
  ·refine AW.aw [6] [1,3] (fun m xs o=>∃ k:Nat,xs=[.aa k]/\o=[]/\m=x.af.length - k/\k<=x.af.length/\∀ y∈x.af.take k,(!vE y)=false) x.af.length [] trivial ⟨0,?_,rfl,rfl,?_,?_⟩ ?_
   ·rfl
   ·omega
   ·simp
   rintro m xs o ⟨k,rfl,rfl,rfl,hk,hR⟩;have hkk:=hkk k
   (refine vU1 ?_;intro h)
   ·rw [lW,cM (show ¬ k<x.af.length by omega) hR,fk,dN,exL,ek];congr 2;grind
  ·rw [pP (by rw [fk,dN,exL,ek];grind)]
  ·refine AW.aw [6] [1,3] (fun m xs o=>∃ k:Nat,xs=[.aa k]/\o=[]/\m=x.af.length - k/\k<=x.af.length/\∀ y∈x.af.take k,(!vE y)=false) x.af.length [] trivial ⟨0,?_,rfl,rfl,?_,?_⟩ ?_
   ·rfl
   ·omega
   ·simp
   rintro m xs o ⟨k,rfl,rfl,rfl,hk,hR⟩;have hkk:=hkk k
   (refine vU1 ?_;intro h)
   ·rw [lW,cM (show ¬ k<x.af.length by omega) hR,fk,dN,exL,ek];congr 2;grind
  ·rw [pP (by rw [fk,dN,exL,ek];grind)]
  ·refine AW.aw [6] [1,3] (fun m xs o=>∃ k:Nat,xs=[.aa k]/\o=[]/\m=x.af.length - k/\k<=x.af.length/\∀ y∈x.af.take k,(!vE y)=false) x.af.length [] trivial ⟨0,?_,rfl,rfl,?_,?_⟩ ?_
   ·rfl
   ·omega
   ·simp
   rintro m xs o ⟨k,rfl,rfl,rfl,hk,hR⟩;have hkk:=hkk k
   (refine vU1 ?_;intro h)
   ·rw [lW,cM (show ¬ k<x.af.length by omega) hR,fk,dN,exL,ek];congr 2;grind
  ·rw [pP (by rw [fk,dN,exL,ek];grind)]
  ·refine AW.aw [6] [1,3] (fun m xs o=>∃ k:Nat,xs=[.aa k]/\o=[]/\m=x.af.length - k/\k<=x.af.length/\∀ y∈x.af.take k,(!vE y)=false) x.af.length [] trivial ⟨0,?_,rfl,rfl,?_,?_⟩ ?_
   ·rfl
   ·omega
   ·simp
   rintro m xs o ⟨k,rfl,rfl,rfl,hk,hR⟩;have hkk:=hkk k
   (refine vU3 ?_ ?_ ?_<;>with_reducible repeat intro h)
   ·rw [Ep (show k<x.af.length by omega) h]
   ·exact ⟨_,[_],[],Ir,⟨k+1,rfl,rfl,rfl,Ir,aL Ir hR (by simp [h])⟩,rfl,trivial⟩
   ·rw [lW,cM (show ¬ k<x.af.length by omega) hR,fk,dN,exL,ek];congr 2;grind
  ·rw [pP (by rw [fk,dN,exL,ek];grind)]
  ·refine AW.aw [6] [1,3] (fun m xs o=>∃ k:Nat,xs=[.aa k]/\o=[]/\m=x.af.length - k/\k<=x.af.length/\∀ y∈x.af.take k,(!vE y)=false) x.af.length [] trivial ⟨0,?_,rfl,rfl,?_,?_⟩ ?_
   ·rfl
   ·omega
   ·simp
   rintro m xs o ⟨k,rfl,rfl,rfl,hk,hR⟩;have hkk:=hkk k
   (refine vU3 ?_ ?_ ?_<;>with_reducible repeat intro h)
   ·rw [Ep (show k<x.af.length by omega) h]
   ·exact ⟨_,[_],[],Ir,⟨k+1,rfl,rfl,rfl,Ir,aL Ir hR (by simp [h])⟩,rfl,trivial⟩
   ·rw [lW,cM (show ¬ k<x.af.length by omega) hR,fk,dN,exL,ek];congr 2;grind
  ·rw [pP (by rw [fk,dN,exL,ek];grind)]
instance adR(x:aB):Ctr lim prog 295 [] [.agg (cEx x)] (.ac (vE x)) [] True:=⟨(aU 295),fun _=>(QU (SizeOf.sizeOf x+1) x).out (Nat.lt_succ_self _)⟩
instance ZA(x:aB):Ctr lim prog 269 [] [.agg (cEx x)] (.ac (fj x)) [] (dG x<=1048576):=by refine Ctr.bd func269 ntmps269 fun hp=>?_;have gOn:=aD.on;refine vU1 ?_;rw [fj,show decide ((dG x:Int)<=8)=decide (dG x<=8) from decide_eq_decide.2 Ir]
instance Zf(x:aB):Ctr lim prog 253 [] [.agg (cEx x)] (.ac (fj x)) [] (dG x<=1048576):=by refine Ctr.bd func253 ntmps253 fun hp=>?_;have gOn:=aD.on;refine vU1 ?_;rw [fj,show decide ((dG x:Int)<=8)=decide (dG x<=8) from decide_eq_decide.2 Ir]
end
section
attribute [local go_sem] aM aC
def Tc(a b:Nat):(if 1+(b:Int) > (a:Int) then 1+(b:Int) else (a:Int))=((max a (1+b):Nat):Int):=by split<;>omega
instance ZB(L:eaa)(k:Int):Ctr L prog 152 [] [.aa k] (.ac (cg k)) [] (True):=by refine Ctr.bd func152 ntmps152 fun hp=>?_;have gOn:=aD.on;refine vU1 ?_;refine congrArg (fun b=>AV.ac b) ?_;unfold cg;grind
instance Zg(L:eaa)(k:Int):Ctr L prog 135 [] [.aa k] (.ac (cg k)) [] (True):=by refine Ctr.bd func135 ntmps135 fun hp=>?_;have gOn:=aD.on;refine vU1 ?_;refine congrArg (fun b=>AV.ac b) ?_;unfold cg;grind
instance acy(x:cT):Ctr lim prog 232 [] [.agg (cTy x)] (.ac (lD x)) [] (True):=by refine Ctr.bd func232 ntmps232 fun hp=>?_;have gOn:=aD.on;refine vU1 ?_;refine congrArg (fun b=>AV.ac b) ?_;rw [lD];simp only [jt,kU];simp only [fC]
instance ab2(x:cT):Ctr lim prog 217 [] [.agg (cTy x)] (.ac (lD x)) [] (True):=by refine Ctr.bd func217 ntmps217 fun hp=>?_;have gOn:=aD.on;refine vU1 ?_;refine congrArg (fun b=>AV.ac b) ?_;rw [lD];simp only [jt,kU];simp only [fC]
instance acw(x:ae):Ctr lim prog 234 [] [.agg (cSc x)] (.ac (lX x)) [] (True):=by refine Ctr.bd func234 ntmps234 fun hp=>?_;have gOn:=aD.on;refine vU1 ?_;refine congrArg (fun b=>AV.ac b) ?_;rw [lX];grind
instance ab0(x:ae):Ctr lim prog 220 [] [.agg (cSc x)] (.ac (lX x)) [] (True):=by refine Ctr.bd func220 ntmps220 fun hp=>?_;have gOn:=aD.on;refine vU1 ?_;refine congrArg (fun b=>AV.ac b) ?_;rw [lX];grind
instance abc(l:List aB)(q:Int):Ctr lim prog 231 [] [.sl false 7 (l.map (aO false)),.aa q] (.ac (exS l q)) [] (dw l<=1048576):=by
 refine Ctr.bd func231 ntmps231 fun hp=>?_;have gOn:=aD.on;refine AW.f1 0 fun hf=>?_;refine vU1 ?_;refine AW.aw [9] [0,1,7,8] (fun m xs o=>∃ k:Nat,xs=[.aa k]/\o=[]/\m=l.length - k/\k<=l.length/\∀ y∈l.take k,(!fj y)=false) l.length [] trivial ⟨0,?_,rfl,rfl,?_,?_⟩ ?_
 ·rfl
 ·omega
 ·simp
 rintro m xs o ⟨k,rfl,rfl,rfl,hk,hR⟩;have hkk:k<l.length->dG (at_ l k)<=1048576:=fun h=>by have:=lP (at_mem h);omega
 (refine vU3 ?_ ?_ ?_<;>with_reducible repeat intro h)
 ·rw [exS,eQ yG h];try rfl
 ·exact ⟨_,[_],[],Ir,⟨k+1,rfl,rfl,rfl,Ir,aL yG hR (by simp [h])⟩,rfl,trivial⟩
 ·rw [exS,cM yG hR];try rfl
instance aak(l:List aB)(q:Int):Ctr lim prog 216 [] [.sl false 7 (l.map (aO false)),.aa q] (.ac (exS l q)) [] (dw l<=1048576):=by
 refine Ctr.bd func216 ntmps216 fun hp=>?_;have gOn:=aD.on;refine AW.f1 0 fun hf=>?_;refine vU1 ?_;refine AW.aw [5] [0,1] (fun m xs o=>∃ k:Nat,xs=[.aa k]/\o=[]/\m=l.length - k/\k<=l.length/\∀ y∈l.take k,(!fj y)=false) l.length [] trivial ⟨0,?_,rfl,rfl,?_,?_⟩ ?_
 ·rfl
 ·omega
 ·simp
 rintro m xs o ⟨k,rfl,rfl,rfl,hk,hR⟩;have hkk:k<l.length->dG (at_ l k)<=1048576:=fun h=>by have:=lP (at_mem h);omega
 (refine vU3 ?_ ?_ ?_<;>with_reducible repeat intro h)
 ·rw [exS,eQ yG h];try rfl
 ·exact ⟨_,[_],[],Ir,⟨k+1,rfl,rfl,rfl,Ir,aL yG hR (by simp [h])⟩,rfl,trivial⟩
 ·rw [exS,cM yG hR];try rfl
instance Ym(l:List ae):Ctr lim prog 157 [] [.sl false 19 (l.map (aq false))] (.sl true 1 ((nmS l).map AV.str)) [] (True):=by
 refine Ctr.bd func157 ntmps157 fun hp=>?_;have gOn:=aD.on;refine AW.f1 0 fun hf=>?_;refine vU1 ?_;refine AW.aw [3,9] [7,8] (fun m xs o=>∃ k:Nat,xs=[.sl true 1 (((l.take k).map ae.ag).map AV.str),.aa k]/\o=[]/\m=l.length - k/\k<=l.length) l.length [] trivial ⟨0,?_,rfl,rfl,?_⟩ ?_
 ·rfl
 ·omega
 rintro m xs o ⟨k,rfl,rfl,rfl,hk⟩;have hlen:(List.take k l).length<=2147483648:=by rw [List.length_take];omega
 (refine vU2 ?_ ?_<;>with_reducible repeat intro h)
 ·exact ⟨_,[_,_],[],Ir,⟨k+1,rfl,rfl,rfl,Ir⟩,by rw [E8 yG];try rfl,trivial⟩
 ·rw [Fa yG];try rfl
theorem JC:∀ (n:Nat) (l:List ae),Ctr lim prog 149 [] [.sl false 19 (l.map (aq false))] (.aa (aH l)) [] (SizeOf.sizeOf l<n/\aH l<=1048576)
 | 0,l=>⟨(aU 149),fun h=>absurd h.1 (Nat.not_lt_zero _)⟩
 | n+1,l=>by
  have ih:=JC n;refine Ctr.bd func149 ntmps149 fun hp=>?_;have gOn:=aD.on;obtain ⟨hs,hb⟩:=hp;refine AW.f1 0 fun hf=>?_;refine vU1 ?_;refine AW.aw [3,10] [8,9] (fun m xs o=>∃ k:Nat,xs=[.aa ((l.length - k+aH (l.take k):Nat):Int),.aa k]/\o=[]/\m=l.length - k/\k<=l.length) l.length [] trivial ⟨0,?_,rfl,rfl,?_⟩ ?_
  ·rw [show l.length - 0+aH (l.take 0)=l.length by simp [aH]];try rfl
  ·omega
  rintro m xs o ⟨k,rfl,rfl,rfl,hk⟩;have h1:=o4 l k
  have h2:k<l.length->SizeOf.sizeOf (at_ l k).af<n/\aH (at_ l k).af<=1048576:=fun h=>by
   have:=jc (at_mem h);have:=ae.du (at_mem h);omega
  have h3:k<l.length->aH (l.take (k+1))<=aH l:=fun _=>by have:=o4 l (k+1);omega
  (refine vU2 ?_ ?_<;>with_reducible repeat intro h)
  ·exact ⟨_,[_,_],[],Ir,⟨k+1,rfl,rfl,rfl,Ir⟩,by rw [show l.length - (k+1)+aH (l.take (k+1))=l.length - k+aH (l.take k)+aH (at_ l k).af by rw [Ob yG];omega];try rfl,trivial⟩
  ·rw [show l.length - k+aH (l.take k)=aH l by rw [List.take_of_length_le Ir];omega]
theorem JA:∀ (n:Nat) (l:List ae),Ctr lim prog 150 [] [.sl false 19 (l.map (aq false))] (.aa (aW l)) [] (SizeOf.sizeOf l<n/\aW l<=1048576)
 | 0,l=>⟨(aU 150),fun h=>absurd h.1 (Nat.not_lt_zero _)⟩
 | n+1,l=>by
  have ih:=JA n;refine Ctr.bd func150 ntmps150 fun hp=>?_;have gOn:=aD.on;obtain ⟨hs,hb⟩:=hp;refine AW.f1 0 fun hf=>?_;refine vU1 ?_;refine AW.aw [3,8] [6,7] (fun m xs o=>∃ k:Nat,xs=[.aa ((aW (l.take k):Nat):Int),.aa k]/\o=[]/\m=l.length - k/\k<=l.length) l.length [] trivial ⟨0,?_,rfl,rfl,?_⟩ ?_
  ·rw [show aW (l.take 0)=0 by simp [aW]];try rfl
  ·omega
  rintro m xs o ⟨k,rfl,rfl,rfl,hk⟩;have h1:=xg l k
  have h2:k<l.length->SizeOf.sizeOf (at_ l k).af<n/\aW (at_ l k).af<=1048576:=fun h=>by
   have:=zU (at_mem h);have:=ae.du (at_mem h);omega
  have h3:k<l.length->aW (l.take (k+1))<=aW l:=fun _=>by have:=xg l (k+1);omega
  (refine vU2 ?_ ?_<;>with_reducible repeat intro h)
  ·exact ⟨_,[_,_],[],Ir,⟨k+1,rfl,rfl,rfl,Ir⟩,by rw [N8 yG,Tc];try rfl,trivial⟩
  ·rw [List.take_of_length_le Ir]
instance acE(l:List ae):Ctr lim prog 149 [] [.sl false 19 (l.map (aq false))] (.aa (aH l)) [] (aH l<=1048576):=⟨(aU 149),fun h=>(JC (SizeOf.sizeOf l+1) l).out ⟨Nat.lt_succ_self _,h⟩⟩
instance acC(l:List ae):Ctr lim prog 150 [] [.sl false 19 (l.map (aq false))] (.aa (aW l)) [] (aW l<=1048576):=⟨(aU 150),fun h=>(JA (SizeOf.sizeOf l+1) l).out ⟨Nat.lt_succ_self _,h⟩⟩
end
section
def dr(l:List ae):(l.map (aq false)).all (AV.elem 19)=true:=bL (fun x=>by rw [dI];try rfl) l
def dq(l:List ae):((l.map (aq false)).flatMap AV.cells).all AV.one=true:=cf (fun x=>by rw [dI];try rfl) l
def WH(l:List Bool):(l.map fun b=>AV.ac b).all (AV.elem 1)=true:=bL (fun _=>rfl) l
def WG(l:List Bool):((l.map fun b=>AV.ac b).flatMap AV.cells).all AV.one=true:=cf (fun _=>rfl) l
attribute [local go_sem] aM aC dr dq WH WG tT
theorem Gu:∀ (n:Nat) (l:List ae) (h:Bool),Ctr lim prog 194 [] [.sl false 19 (l.map (aq false)),.ac h] (.tup [.sl true 19 ((dk l).map (aq false)),.sl true 1 ((dkF l h).map fun b=>.ac b)]) [] (SizeOf.sizeOf l<n/\aH l<=1048576)
 | 0,l,_=>⟨(aU 194),fun h=>absurd h.1 (Nat.not_lt_zero _)⟩
 | n+1,l,h=>by
  have ih:=Gu n;refine Ctr.bd func194 ntmps194 fun hp=>?_;have gOn:=aD.on;obtain ⟨hs,hb⟩:=hp;refine AW.f1 0 fun hf=>?_;refine vU1 ?_;refine AW.aw [6,7,16] [1,14,15] (fun m xs o=>∃ k:Nat,xs=[.sl true 19 ((dk (l.take k)).map (aq false)),.sl true 1 ((dkF (l.take k) h).map fun b=>.ac b),.aa k]/\o=[]/\m=l.length - k/\k<=l.length) l.length [] trivial ⟨0,?_,rfl,rfl,?_⟩ ?_
  ·rw [List.take_zero,dk,dkF];try rfl
  ·omega
  rintro m xs o ⟨k,rfl,rfl,rfl,hk⟩;have h1:=nQ (l.take k)
  have h3:=J1 (l:=l) (k:=k)
  have h4:k<l.length->SizeOf.sizeOf (at_ l k).af<n/\aH (at_ l k).af<=1048576:=fun h=>by
   have:=jc (at_mem h);have:=ae.du (at_mem h);omega
  have h6:=nQ (at_ l k).af
  have h7:=nQ (l.take (k+1))
  (refine vU4 ?_ ?_ ?_ ?_<;>with_reducible repeat intro h)
  ·rename_i hk1 _;exact ⟨_,[_,_,_],[],Ir,⟨k+1,rfl,rfl,rfl,Ir⟩,by rw [qm hk1,zS hk1,if_pos h,if_pos h,List.map_append,List.map_append,List.map_cons,List.map_nil,dI];try rfl,trivial⟩
  ·rename_i hk1 _ hd;exact ⟨_,[_,_,_],[],Ir,⟨k+1,rfl,rfl,rfl,Ir⟩,by rw [qm hk1,zS hk1,if_neg (by rw [hd];simp),if_pos h,if_neg (by rw [hd];simp),if_pos h,List.map_append,List.map_append];try rfl,trivial⟩
  ·rename_i hk1 _ hd;exact ⟨_,[_,_,_],[],Ir,⟨k+1,rfl,rfl,rfl,Ir⟩,by rw [qm hk1,zS hk1,if_neg (by rw [hd];simp),if_neg Ir,if_neg (by rw [hd];simp),if_neg Ir,List.append_nil,List.append_nil];try rfl,trivial⟩
  ·rw [List.take_of_length_le Ir]
instance aa5(l:List ae)(h:Bool):Ctr lim prog 194 [] [.sl false 19 (l.map (aq false)),.ac h] (.tup [.sl true 19 ((dk l).map (aq false)),.sl true 1 ((dkF l h).map fun b=>.ac b)]) [] (aH l<=1048576):=⟨(aU 194),fun c=>(Gu (SizeOf.sizeOf l+1) l h).out ⟨Nat.lt_succ_self _,c⟩⟩
instance mD(l:List ae):Ctr lim prog 156 [] [.sl false 19 (l.map (aq false))] (.sl true 19 ((dk l).map (aq false))) [] (aH l<=1048576):=by
 refine Ctr.bd func156 ntmps156 fun hp=>?_;have gOn:=aD.on;exact vU0
 all_goals skip
instance aaG(L:eaa)[hL:Lok L](l:List ae)(n:Str):Ctr L prog 117 [] [.sl false 19 (l.map (aq false)),.str n] (.aa (idx (nmP n) l)) [] True:=by
 refine Ctr.bd func117 ntmps117 fun hp=>?_;have gOn:=aD.on;refine AW.f1 0 fun hf=>?_;have hf:=Nat.le_trans hf (hL.le 19);refine vU1 ?_;refine AW.aw [5] [0,1] (fun m xs o=>∃ k:Nat,xs=[.aa k]/\o=[]/\m=l.length - k/\k<=l.length/\∀ x∈l.take k,nmP n x=false) l.length [] trivial ⟨0,?_,rfl,rfl,?_,?_⟩ ?_
 ·rfl
 ·omega
 ·simp
 rintro m xs o ⟨k,rfl,rfl,rfl,hk,hR⟩
 (refine vU3 ?_ ?_ ?_<;>with_reducible repeat intro h)
 ·rw [gV (p:=nmP n) yG hR (by simpa [nmP] using h)]
 ·exact ⟨_,[_],[],Ir,⟨k+1,rfl,rfl,rfl,Ir,aL (p:=nmP n) yG hR (by simpa [nmP] using h)⟩,rfl,trivial⟩
 ·rw [jo (p:=nmP n) h hR]
end
section
attribute [local go_sem] aM aC aR
instance ads(n:ae)(x:ah):Ctr lim prog 196 [] [.agg (cSc n),.agg (cNo x)] (.tup [.sl true 1 ((kyL n x).map AV.str),.ac (kyB n x)]) [] (True):=by
 refine Ctr.bd func196 ntmps196 fun hp=>?_;have gOn:=aD.on;refine AW.f1 0 fun hf=>?_;refine vK1 ?_;refine AW.c (fun h=>?_) fun h=>?_
 ·refine vU1 ?_;rw [(oW h).1,(oW h).2];try rfl
 refine vU1 ?_;refine AW.aw [6,20] [2,3,18,19] (fun m xs o=>∃ k:Nat,xs=[.sl true 1 (((n.aE.take k).map (kyT x)).map AV.str),.aa k]/\o=[]/\m=n.aE.length - k/\k<=n.aE.length/\∀ y∈n.aE.take k,(!ox x y)=false) n.aE.length [] trivial ⟨0,?_,rfl,rfl,?_,?_⟩ ?_
 ·rfl
 ·omega
 ·simp
 rintro m xs o ⟨k,rfl,rfl,rfl,hk,hR⟩;have hlen:(List.take k n.aE).length=k:=by rw [List.length_take];omega
 have hi:=eO (p:=ndP (at_ n.aE k)) x.af
 (refine vU3 ?_ ?_ ?_<;>with_reducible repeat intro h)
 ·rename_i h2 h1;rw [(Cr h2 (eQ h1 (by rw [ox];simpa using h))).1,(Cr h2 (eQ h1 (by rw [ox];simpa using h))).2];try rfl
 ·rename_i h2 h1;exact ⟨_,[_,_],[],Ir,⟨k+1,rfl,rfl,rfl,Ir,aL h1 hR (by rw [ox];simpa using h)⟩,by rw [E8 h1];try rfl,trivial⟩
 ·rename_i h1;rw [(tE h1 (cM h hR)).1,(tE h1 (cM h hR)).2,List.take_of_length_le Ir]
theorem Mn(n:ae)(x:ah):Ctr lim prog 164 [] [.agg (cSc n),.agg (cNo x)] (.tup [.sl true 1 ((kyL n x).map AV.str),.ac true]) [] (kyB n x=true):=by
 refine Ctr.bd func164 ntmps164 fun hp=>?_;have gOn:=aD.on;refine AW.f1 0 fun hf=>?_;refine vK1 ?_;refine AW.c (fun h=>?_) fun h=>?_
 ·refine vU1 ?_;rw [(oW h).1];try rfl
 refine vU1 ?_;refine AW.aw [6,7] [2,3] (fun m xs o=>∃ k:Nat,xs=[.sl true 1 (((n.aE.take k).map (kyT x)).map AV.str),.aa k]/\o=[]/\m=n.aE.length - k/\k<=n.aE.length/\∀ y∈n.aE.take k,(!ox x y)=false) n.aE.length [] trivial ⟨0,?_,rfl,rfl,?_,?_⟩ ?_
 ·rfl
 ·omega
 ·simp
 rintro m xs o ⟨k,rfl,rfl,rfl,hk,hR⟩;have hlen:(List.take k n.aE).length=k:=by rw [List.length_take];omega
 have hi:=eO (p:=ndP (at_ n.aE k)) x.af
 (refine vU3 ?_ ?_ ?_<;>with_reducible repeat intro h)
 ·rename_i h2 h1;exact absurd hp (by rw [(Cr h2 (eQ h1 (by rw [ox];simpa using h))).2];decide)
 ·rename_i h2 h1;exact ⟨_,[_,_],[],Ir,⟨k+1,rfl,rfl,rfl,Ir,aL h1 hR (by rw [ox];simpa using h)⟩,by rw [E8 h1];try rfl,trivial⟩
 ·rename_i h1;rw [(tE h1 (cM h hR)).1,List.take_of_length_le Ir]
theorem UY(n:ae)(x:ah):Ctr lim prog 164 [] [.agg (cSc n),.agg (cNo x)] (.tup [.v (.slice none 0 0),.ac false]) [] (kyB n x=false):=by
 refine Ctr.bd func164 ntmps164 fun hp=>?_;have gOn:=aD.on;refine AW.f1 0 fun hf=>?_;refine vK1 ?_;refine AW.c (fun h=>?_) fun h=>?_
 ·refine vU1 ?_;exact absurd hp (by rw [(oW h).2];decide)
 refine vU1 ?_;refine AW.aw [6,7] [2,3] (fun m xs o=>∃ k:Nat,xs=[.sl true 1 (((n.aE.take k).map (kyT x)).map AV.str),.aa k]/\o=[]/\m=n.aE.length - k/\k<=n.aE.length/\∀ y∈n.aE.take k,(!ox x y)=false) n.aE.length [] trivial ⟨0,?_,rfl,rfl,?_,?_⟩ ?_
 ·rfl
 ·omega
 ·simp
 rintro m xs o ⟨k,rfl,rfl,rfl,hk,hR⟩;have hlen:(List.take k n.aE).length=k:=by rw [List.length_take];omega
 have hi:=eO (p:=ndP (at_ n.aE k)) x.af
 (refine vU2 ?_ ?_<;>with_reducible repeat intro h)
 ·rename_i h2 h1;exact ⟨_,[_,_],[],Ir,⟨k+1,rfl,rfl,rfl,Ir,aL h1 hR (by rw [ox];simpa using h)⟩,by rw [E8 h1];try rfl,trivial⟩
 ·rename_i h1;exact absurd hp (by rw [(tE h1 (cM h hR)).2];decide)
theorem Ax(n:ae)(x:ah):Ctr lim prog 164 [] [.agg (cSc n),.agg (cNo x)] (.tup [.sl false 1 ((kyL n x).map AV.str),.ac true]) [] (kyB n x=true) :=
 Ctr.kQ (aU 164) fun h=>by
  have:=((Mn n x).pure h).frz;simpa only [AV.frz,AV.bg,aM,cond_true] using this
instance abO(L:eaa)(s:Str):Ctr L prog 286 [] [.str s] (.ac false) [] True:=by
 refine Ctr.bd func286 ntmps286 fun hp=>?_;exact vU0
 all_goals simp
instance adC(L:eaa)(a b:Str):Ctr L prog 243 [] [.str a,.str b] (.aa (nR a b)) [] True:=by
 refine Ctr.bd func243 ntmps243 fun hp=>?_
 (refine vU3 ?_ ?_ ?_<;>with_reducible repeat intro h)
 ·rw [nR,if_pos h]
 ·rename_i h1;rw [nR,if_neg (by rw [h1];simp),if_neg h.2]
 ·rename_i h1;rw [nR,if_neg (by rw [h1];simp),if_pos (by rcases h with h|h;rw [h1] at h;exact absurd h QC;exact h)]
instance adM(a b:List Str):Ctr lim prog 197 [] [.sl false 1 (a.map AV.str),.sl false 1 (b.map AV.str)] (.aa (cmpL a b)) [] True:=by
 refine Ctr.bd func197 ntmps197 fun hp=>?_;have gOn:=aD.on;refine AW.f1 0 fun hf=>?_;refine vU1 ?_;refine AW.aw [11] [0,1,9,10] (fun m xs o=>∃ k:Nat,xs=[.aa k]/\o=[]/\m=a.length - k/\k<=a.length/\k<=b.length/\cmpL (a.drop k) (b.drop k)=cmpL a b) a.length [] trivial ⟨0,?_,rfl,rfl,?_,?_,?_⟩ ?_
 ·rfl
 ·omega
 ·omega
 ·rfl
 rintro m xs o ⟨k,rfl,rfl,rfl,hk,hk2,hR⟩;have hc:=Qp (at_ a k) (at_ b k)
 (refine vU5 ?_ ?_ ?_ ?_ ?_<;>with_reducible repeat intro h)
 ·rename_i h1;rw [<- hR,WE h1 Ir]
 ·rename_i h1 _;rw [<- hR,J3 h1 Ir,if_neg h]
 ·rename_i h1 _;exact ⟨_,[_],[],Ir,⟨k+1,rfl,rfl,rfl,Ir,Ir,by rw [<- hR,J3 h1 Ir,if_pos h]⟩,rfl,trivial⟩
 ·rename_i h1;rw [<- hR,Od h1,if_pos Ir]
 ·rename_i h1;rw [<- hR,Od h1,if_neg Ir]
instance aa3(n:ae)(x y:ah):Ctr lim prog 160 [] [.agg (cSc n),.agg (cNo x),.agg (cNo y)] (.aa (oh n x y)) [] True:=by
 refine Ctr.bd func160 ntmps160 fun hp=>?_;have gOn:=aD.on
 (refine vU2 ?_ ?_<;>intro h)
 ·rw [oh,if_neg (by rw [fG];simp;exact h)]
 ·rw [oh,if_pos (by rw [fG];simp;grind)]
instance ab4(a b:List Str):Ctr lim prog 182 [] [.sl false 1 (a.map AV.str),.sl false 1 (b.map AV.str)] (.ac (ed a b)) [] True:=by
 refine Ctr.bd func182 ntmps182 fun hp=>?_;have gOn:=aD.on;refine AW.f1 0 fun hf=>?_;refine vU1 ?_;refine AW.aw [5] [0,1] (fun m xs o=>∃ k:Nat,xs=[.aa k]/\o=[]/\m=a.length - k/\k<=a.length/\k<=b.length/\ed (a.drop k) (b.drop k)=ed a b) a.length [] trivial ⟨0,?_,rfl,rfl,?_,?_,?_⟩ ?_
 ·rfl
 ·omega
 ·omega
 ·rfl
 rintro m xs o ⟨k,rfl,rfl,rfl,hk,hk2,hR⟩
 (refine vU3 ?_ ?_ ?_<;>with_reducible repeat intro h)
 ·rename_i h1;rw [<- hR,Gh h1.1 h1.2,if_neg h]
 ·rename_i h1;exact ⟨_,[_],[],Ir,⟨k+1,rfl,rfl,rfl,Ir,Ir,by rw [<- hR,Gh h1.1 h1.2,if_pos h]⟩,rfl,trivial⟩
 ·rw [<- hR,SP hk hk2 (fun c=>h c.1 c.2)]
instance Zj(d:List ae)(x y:ah):Ctr lim prog 139 [] [.sl false 19 (d.map (aq false)),.agg (cNo x),.agg (cNo y)] (.ac (lR d x y)) [] (0<=idx (nmP x.ag) d/\(idx (nmP x.ag) d=idx (nmP y.ag) d->kyB (at_ d (idx (nmP x.ag) d).toNat) x=true/\kyB (at_ d (idx (nmP x.ag) d).toNat) y=true)):=by
 refine Ctr.bd func139 ntmps139 fun hp=>?_;have gOn:=aD.on
 have hi:=eO (p:=nmP x.ag) d;obtain ⟨hp,hy⟩:=hp;refine AW.f1 0 fun hf=>?_;refine vK1 ?_;refine AW.c (fun h=>?_) fun h=>?_
 ·refine vU1 ?_;rw [lR,if_neg];rintro ⟨e1,e2⟩;rcases h with h|h
  ·exact h e1
  ·rw [e1,e2] at h;exact absurd h QC
 obtain ⟨hy1,hy2⟩:=hy h.1;haveI hky:=Ax (at_ d (idx (nmP x.ag) d).toNat) x
 haveI hkz:=Ax (at_ d (idx (nmP x.ag) d).toNat) y;refine vU1 ?_;rw [lR,if_pos ⟨h.1,h.1 ▸ h.2⟩,<- h.1]
end
section
end
end Go.Proofs
