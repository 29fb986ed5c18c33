/- Part of a proof. -/
import Derived.Test.YtpelkkfkecfmbaaGreatDoorH43
set_option linter.all false
set_option maxRecDepth 20000
set_option maxHeartbeats 4000000
open Go.Proofs.Tryz
namespace Go.Dt
open Go Go.Ab
def dvQ(n:Str)(x:bJ):Bool:=x.ag == n
end Go.Dt
namespace Go.Proofs
open Go.Ab Go.Dt
attribute [-instance] cK dh cPf
instance abI(L:eaa)(x:bJ)(n:Str):Ctr L prog 82 [] [.agg (cDe x),.vp [.str n]] (.ac (x.ag == n)) [] True:=by
 refine Ctr.bd func82 ntmps82 fun hp=>?_
 all_goals exact uU
instance aaU(L:eaa)[hL:Lok L](l:List bJ)(n:Str):Ctr L prog 81 [] [.sl false 15 (l.map (cq false)),.fn 82 [.vp [.str n]]] (.aa (idx (dvQ n) l)) [] True:=by
 refine Ctr.bd func81 ntmps81 fun hp=>?_;refine AW.f1 0 fun hf=>?_;have hf:=Nat.le_trans hf (hL.le 15);refine vU1 ?_;refine AW.aw [8] [0,1,7] (fun m xs o=>∃ k:Nat,xs=[.aa k]/\o=[]/\m=l.length - k/\k<=l.length/\∀ x∈l.take k,dvQ n x=false) l.length [] trivial ⟨0,?_,rfl,rfl,?_,?_⟩ ?_
 ·rfl
 ·omega
 ·simp
 rintro m xs o ⟨k,rfl,rfl,rfl,hk,hR⟩
 (refine vU3 ?_ ?_ ?_<;>with_reducible repeat intro h)
 ·rw [gV (p:=dvQ n) yG hR (by simpa [dvQ] using h)]
 ·exact ⟨_,[_],[],Ir,⟨k+1,rfl,rfl,rfl,Ir,aL (p:=dvQ n) yG hR (by simpa [dvQ] using h)⟩,rfl,trivial⟩
 ·rw [jo (p:=dvQ n) h hR]
instance aa8(L:eaa)[hL:Lok L](l:List bJ)(n:Str):Ctr L prog 47 [] [.sl false 15 (l.map (cq false)),.str n] (.aa (idx (dvQ n) l)) [] True:=by
 refine Ctr.bd func47 ntmps47 fun hp=>?_
 all_goals exact uU
instance aai(L:eaa)[hL:Lok L](l:List bJ)(n:Str):Ctr L prog 46 [] [.sl false 15 (l.map (cq false)),.str n] (.aa (idx (dvQ n) l)) [] True:=by
 refine Ctr.bd func46 ntmps46 fun hp=>?_;refine AW.f1 0 fun hf=>?_;have hf:=Nat.le_trans hf (hL.le 15);refine vU1 ?_;refine AW.aw [5] [0,1] (fun m xs o=>∃ k:Nat,xs=[.aa k]/\o=[]/\m=l.length - k/\k<=l.length/\∀ x∈l.take k,dvQ n x=false) l.length [] trivial ⟨0,?_,rfl,rfl,?_,?_⟩ ?_
 ·rfl
 ·omega
 ·simp
 rintro m xs o ⟨k,rfl,rfl,rfl,hk,hR⟩
 (refine vU3 ?_ ?_ ?_<;>with_reducible repeat intro h)
 ·rw [gV (p:=dvQ n) yG hR (by simpa [dvQ] using h)]
 ·exact ⟨_,[_],[],Ir,⟨k+1,rfl,rfl,rfl,Ir,aL (p:=dvQ n) yG hR (by simpa [dvQ] using h)⟩,rfl,trivial⟩
 ·rw [jo (p:=dvQ n) h hR]
end Go.Proofs
namespace Go.Dt
open Go Go.Ab
def okD(fmt:Int->Str)(l:List bJ)(i:Nat):Bool:=Qm fmt (at_ l i) && decide (idx (dvQ (at_ l i).ag) l=i)
def x7(fmt:Int->Str)(l:List bJ):Bool:=(List.range l.length).all (okD fmt l) && decide (l.length<=6)
def Hn{fmt:Int->Str}{l:List bJ}{k:Nat}(hk:k<l.length)(h:okD fmt l k=false):x7 fmt l=false:=by
 have:(List.range l.length).all (okD fmt l)=false:=by
  rw [List.all_eq_false];exact ⟨k,List.mem_range.2 hk,by rw [h];simp⟩
 rw [x7,this];rfl
def DR{fmt:Int->Str}{l:List bJ}{k:Nat}(hk:k=l.length)(h:∀ i,i<k->okD fmt l i=true):x7 fmt l=decide (l.length<=6):=by
 have:(List.range l.length).all (okD fmt l)=true:=by
  rw [List.all_eq_true];exact fun i hi=>h i (by have:=List.mem_range.1 hi;omega)
 rw [x7,this];rfl
def N7{l:List bJ}{r:Int}(h0:0<=r)(h1:r<=1048576)(h:0<=aQ cD l r):∀ d∈l,q4 d:=by intro d hd;obtain ⟨r',p,q,s⟩:=(yY cD gA l r h0 h).2 d hd;exact zT p Ir s
end Go.Dt
namespace Go.Proofs
open Go.Ab Go.Dt
set_option maxHeartbeats 1000000
attribute [local go_sem] aM aC aR
attribute [-instance] cK dh
instance acG(l:List bJ):Ctr lim prog 20 [] [.sl false 15 (l.map (cq false))] (.ac (x7 Lib.itoa l)) [] (∀ x∈l,q4 x):=by
 refine Ctr.bd func20 ntmps20 fun hp=>?_;have gOn:=aD.on;refine AW.f1 0 fun hf=>?_;refine vK1 ?_;refine AW.aw [7] [0,5,6] (fun m xs o=>∃ k:Nat,xs=[.aa k]/\o=[]/\m=l.length - k/\k<=l.length/\∀ i,i<k->okD Lib.itoa l i=true) l.length [] trivial ⟨0,rfl,rfl,rfl,Nat.zero_le _,fun i hi=>absurd hi (Nat.not_lt_zero _)⟩ ?_;rintro m xs o ⟨k,rfl,rfl,rfl,hk,hR⟩;have hw:k<l.length->q4 (at_ l k):=fun h=>hp _ (at_mem h);refine vK1 ?_;refine AW.c (fun h=>?_) fun h=>?_
 ·have hk1:k<l.length:=by simpa using h
  have hw1:=hw hk1;clear h hw
  (refine vU2 ?_ ?_<;>with_reducible repeat intro h)
  ·rw [Hn hk1 (by rw [okD,Bool.eq_false_iff];simp only [ne_eq,Bool.and_eq_true,decide_eq_true_eq];grind)]
  ·exact ⟨_,[_],[],Ir,⟨k+1,rfl,rfl,rfl,Ir,fun i hi=>by
    by_cases e:i=k
    ·rw [e,okD];simp only [Bool.and_eq_true,decide_eq_true_eq];grind
    ·exact hR i Ir⟩,rfl,trivial⟩
 ·rw [DR (by have:¬ k<l.length:=(by simpa using h);omega) hR];clear hw;refine vU1 ?_;exact congrArg (fun b=>AV.ac b) (decide_eq_decide.2 Ir)
instance acb(l:List bJ):Ctr lim prog 18 [] [.sl false 15 (l.map (cq false))] (.ac (x7 Lib.itoa l)) [] (∀ x∈l,q4 x):=by
 refine Ctr.bd func18 ntmps18 fun hp=>?_;have gOn:=aD.on;refine AW.f1 0 fun hf=>?_;refine vK1 ?_;refine AW.aw [3] [0] (fun m xs o=>∃ k:Nat,xs=[.aa k]/\o=[]/\m=l.length - k/\k<=l.length/\∀ i,i<k->okD Lib.itoa l i=true) l.length [] trivial ⟨0,rfl,rfl,rfl,Nat.zero_le _,fun i hi=>absurd hi (Nat.not_lt_zero _)⟩ ?_;rintro m xs o ⟨k,rfl,rfl,rfl,hk,hR⟩;have hw:k<l.length->q4 (at_ l k):=fun h=>hp _ (at_mem h);refine vK1 ?_;refine AW.c (fun h=>?_) fun h=>?_
 ·have hk1:k<l.length:=by simpa using h
  have hw1:=hw hk1;clear h hw
  (refine vU2 ?_ ?_<;>with_reducible repeat intro h)
  ·rw [Hn hk1 (by rw [okD,Bool.eq_false_iff];simp only [ne_eq,Bool.and_eq_true,decide_eq_true_eq];grind)]
  ·exact ⟨_,[_],[],Ir,⟨k+1,rfl,rfl,rfl,Ir,fun i hi=>by
    by_cases e:i=k
    ·rw [e,okD];simp only [Bool.and_eq_true,decide_eq_true_eq];grind
    ·exact hR i Ir⟩,rfl,trivial⟩
 ·rw [DR (by have:¬ k<l.length:=(by simpa using h);omega) hR];clear hw;refine vU1 ?_;exact congrArg (fun b=>AV.ac b) (decide_eq_decide.2 Ir)
end Go.Proofs
