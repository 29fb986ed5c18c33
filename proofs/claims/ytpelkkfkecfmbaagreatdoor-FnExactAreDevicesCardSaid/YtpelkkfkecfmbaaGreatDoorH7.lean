/- Part of a proof. -/
import Derived.Test.YtpelkkfkecfmbaaGreatDoorH6
set_option linter.all false
set_option maxRecDepth 20000
set_option maxHeartbeats 4000000
open Go.Proofs.Tryz
namespace Go.Dt
open Go.Ab
def cS(p:Nat->Bool):Nat->Bool
 | 0=>true
 | k+1=>cS p k && p k
def dL{p:Nat->Bool}:∀ {n j:Nat},j<n->p j=false->cS p n=false
 | 0,_,h,_=>by omega
 | n+1,j,h,e=>by
  simp only [cS];by_cases hj:j=n
  ·subst hj;simp [e]
  ·rw [dL (n:=n) Ir e];rfl
def dc{p:Nat->Bool}{k:Nat}(h:cS p k=true)(e:p k=true):cS p (k+1)=true:=by simp [cS,h,e]
def o5{p:Nat->Bool}:∀ {n j:Nat},cS p n=true->j<n->p j=true
 | 0,_,_,h=>by omega
 | n+1,j,h,hj=>by
  simp only [cS,Bool.and_eq_true] at h;by_cases e:j=n
  ·subst e;exact h.2
  ·exact o5 h.1 Ir
theorem BH{α:Type}[Inhabited α](q:α->Bool)(l:List α):cS (fun j=>q (at_ l j)) l.length=l.all q:=by
 have key:∀ n,n<=l.length->cS (fun j=>q (at_ l j)) n=(l.take n).all q:=by
  intro n
  induction n with
  | zero=>intro _;simp [cS]
  | succ n ih =>
   intro h;rw [cS,ih Ir]
   have:l.take (n+1)=l.take n++[at_ l n]:=by
    rw [List.take_succ_eq_append_getElem Ir];unfold at_;rw [List.getElem?_eq_getElem Ir];rfl
   rw [this];simp
 have:=key l.length (Nat.le_refl _)
 rwa [List.take_length] at this
def iy{α:Type}{f:α->Int->Int}{l:List α}{r:Int}(h:r - l.length<0):aQ f l r = -1:=by unfold aQ thn;rw [if_pos h]
def iw{α:Type}{f:α->Int->Int}{l:List α}{r:Int}(h:0<=r - l.length):aQ f l r=fu f l (r - l.length):=by unfold aQ thn;rw [if_neg Ir]
theorem gK{α:Type}[Inhabited α]{f:α->Int->Int}{l:List α}{k:Nat}{r:Int}(h:k<l.length):fu f (l.drop k) r=if f (at_ l k) r<0 then -1 else fu f (l.drop (k+1)) (f (at_ l k) r):=by rw [bq h,fu,thn]
def lr{α:Type}{f:α->Int->Int}{l:List α}{k:Nat}{r:Int}(h:¬ k<l.length):fu f (l.drop k) r=r:=by rw [List.drop_eq_nil_of_le Ir,fu]
def Va(n:Nat):gE n=140737488355328:=rfl
attribute [go_sem] Va
class Lok(L:eaa):Prop where
 le:∀ z,L z<=4611686018427387904
def Vz(z:Nat):lim z<=4611686018427387904:=by
 have:=M4 (z - 1000000000);unfold lim;split
 ·omega
 ·split<;>omega
instance:Lok lim:=⟨Vz⟩
instance:Lok gE:=⟨fun z=>by unfold gE;omega⟩
def chN(s:Str)(j:Nat):Bool:=ltI (at8 s j) || (!(j == 0) && nmI (at8 s j))
def isName(s:Str):Bool:=cS (chN s) s.length && (decide (1<=s.length) && decide (s.length<=16) && !(at8 s (s.length - 1:Nat) == 45))
def chT(s:Str)(j:Nat):Bool:=decide (32<=at8 s j) && decide (at8 s j<=126)
def isText(s:Str):Bool:=cS (chT s) s.length && decide (s.length<=40)
end Go.Dt
namespace Go.Proofs
open Go.Ab Go.Dt
set_option maxHeartbeats 1000000
instance Zb(L:eaa)(s:Str):Ctr L prog 66 [] [.str s] (.ac (isText s)) [] True:=by
 refine Ctr.bd func66 ntmps66 fun hp=>?_;refine AW.f0 0 fun hf=>?_;refine vU1 ?_;refine AW.aw [3] [0] (fun m xs o=>∃ k:Nat,xs=[.aa k]/\o=[]/\m=s.length - k/\k<=s.length/\cS (chT s) k=true) s.length [] trivial ⟨0,?_,rfl,rfl,?_,rfl⟩ ?_
 ·rfl
 ·omega
 rintro m xs o ⟨k,rfl,rfl,rfl,hk,hR⟩
 (refine vU3 ?_ ?_ ?_<;>with_reducible repeat intro h)
 ·rw [isText,dL yG (by simp [chT];omega)];rfl
 ·exact ⟨_,[_],[],Ir,⟨k+1,rfl,rfl,rfl,Ir,dc hR (by simp [chT];omega)⟩,rfl,trivial⟩
 ·rw [show k=s.length by omega] at hR;rw [isText,hR];simp;omega
instance Zx(L:eaa)(s:Str):Ctr L prog 75 [] [.str s] (.ac (isText s)) [] True:=by
 refine Ctr.bd func75 ntmps75 fun hp=>?_;refine AW.f0 0 fun hf=>?_;refine vU1 ?_;refine AW.aw [3] [0] (fun m xs o=>∃ k:Nat,xs=[.aa k]/\o=[]/\m=s.length - k/\k<=s.length/\cS (chT s) k=true) s.length [] trivial ⟨0,?_,rfl,rfl,?_,rfl⟩ ?_
 ·rfl
 ·omega
 rintro m xs o ⟨k,rfl,rfl,rfl,hk,hR⟩
 (refine vU3 ?_ ?_ ?_<;>with_reducible repeat intro h)
 ·rw [isText,dL yG (by simp [chT];omega)];rfl
 ·exact ⟨_,[_],[],Ir,⟨k+1,rfl,rfl,rfl,Ir,dc hR (by simp [chT];omega)⟩,rfl,trivial⟩
 ·rw [show k=s.length by omega] at hR;rw [isText,hR];simp;omega
instance Ze(L:eaa)(s:Str):Ctr L prog 32 [] [.str s] (.ac (isName s)) [] True:=by
 refine Ctr.bd func32 ntmps32 fun hp=>?_;refine AW.f0 0 fun hf=>?_;refine vU1 ?_;refine AW.aw [3] [0] (fun m xs o=>∃ k:Nat,xs=[.aa k]/\o=[]/\m=s.length - k/\k<=s.length/\cS (chN s) k=true) s.length [] trivial ⟨0,?_,rfl,rfl,?_,rfl⟩ ?_
 ·rfl
 ·omega
 rintro m xs o ⟨k,rfl,rfl,rfl,hk,hR⟩
 (refine vU3 ?_ ?_ ?_<;>with_reducible repeat intro h)
 ·rw [isName,dL yG ?_];rfl;simp only [chN,nmI,ltI,gG];obtain ⟨h1,h2⟩:=h;have e1:(decide (97<=at8 s k) && decide (at8 s k<=122))=false:=by simp;omega
  rw [e1];rcases h2 with h2|h2
  ·have:k=0:=by omega
   simp [this]
  ·have e2:(decide (48<=at8 s k) && decide (at8 s k<=57))=false:=by simp;omega
   rw [e2];simp [h2.2]
 ·refine ⟨_,[_],[],Ir,⟨k+1,rfl,rfl,rfl,Ir,dc hR ?_⟩,rfl,trivial⟩;simp only [chN,nmI,ltI,gG]
  cases e1:(decide (97<=at8 s k) && decide (at8 s k<=122)) with
  | true=>rfl
  | false =>
   simp only [Bool.and_eq_false_imp,decide_eq_true_eq,decide_eq_false_iff_not,Int.not_le] at e1;obtain ⟨h1,h2⟩:=h e1;have h3:(k == 0)=false:=by simp;omega
   rw [h3]
   cases e2:(decide (48<=at8 s k) && decide (at8 s k<=57)) with
   | true=>rfl
   | false =>
    simp only [Bool.and_eq_false_imp,decide_eq_true_eq,decide_eq_false_iff_not,Int.not_le] at e2;simp [h2 e2]
 ·rw [show k=s.length by omega] at hR;rw [isName,hR];by_cases h0:s.length=0
  ·simp [h0]
  ·rw [Ri Ir];rw [show decide ((1:Int)<=(s.length:Int))=decide (1<=s.length) from decide_eq_decide.2 Ir,show decide ((s.length:Int)<=16)=decide (s.length<=16) from decide_eq_decide.2 Ir];simp only [Bool.true_and,bne]
instance Zz(L:eaa)(s:Str):Ctr L prog 36 [] [.str s] (.ac (isName s)) [] True:=by
 refine Ctr.bd func36 ntmps36 fun hp=>?_;refine AW.f0 0 fun hf=>?_
 (refine vU2 ?_ ?_<;>intro h)
 ·have:isName s=false:=by
   rcases h with (h|h)|h
   ·simp [isName];intro _ _;omega
   ·simp [isName];intro _ _ _;omega
   ·by_cases h0:s.length=0
    ·simp [isName,h0]
    ·rw [isName,dL (j:=0) Ir (by simp [chN,h])];rfl
  rw [this]
 refine AW.aw [3] [0] (fun m xs o=>∃ k:Nat,xs=[.aa k]/\o=[]/\m=s.length - k/\1<=k/\k<=s.length/\cS (chN s) k=true) (s.length - 1) [] trivial ⟨1,?_,rfl,rfl,?_,?_,?_⟩ ?_
 ·rfl
 ·omega
 ·omega
 ·simp [cS,chN,h.2]
 rintro m xs o ⟨k,rfl,rfl,rfl,hk0,hk,hR⟩
 (refine vU3 ?_ ?_ ?_<;>with_reducible repeat intro h)
 ·have h2:ltI (at8 s k)=false:=by
   simp only [nmI,Bool.or_eq_false_iff] at h;exact h.1.1
  rw [isName,dL yG (by simp [chN,h,h2])];rfl
 ·exact ⟨_,[_],[],Ir,⟨k+1,rfl,rfl,rfl,Ir,Ir,dc hR (by simp [chN,h];omega)⟩,rfl,trivial⟩
 ·rw [show k=s.length by omega] at hR;rw [isName,hR];rename_i hh;have e1:decide (1<=s.length)=true:=by simp;omega
  have e2:decide (s.length<=16)=true:=by simp;omega
  rw [e1,e2];simp [bne]
end Go.Proofs
namespace Go.Dt
open Go.Ab
def qA(l:List da):Nat->Bool
 | 0=>decide ((at_ l 0).fLo<=(at_ l 0).fHi) && decide (-1000000000<=(at_ l 0).fLo) && decide ((at_ l 0).fHi<=1000000000)
 | j+1=>decide ((at_ l (j+1)).fLo<=(at_ l (j+1)).fHi) && decide (-1000000000<=(at_ l (j+1)).fLo) && decide ((at_ l (j+1)).fHi<=1000000000) && decide ((at_ l j).fHi+2<=(at_ l (j+1)).fLo)
def I1{l:List da}{j:Nat}(h:qA l j=true):(at_ l j).fLo<=(at_ l j).fHi/\-1000000000<=(at_ l j).fLo/\(at_ l j).fHi<=1000000000:=by cases j<;>simp [qA] at h<;>omega
def rg0(l:List da):qA l 0=true↔(at_ l 0).fLo<=(at_ l 0).fHi/\-1000000000<=(at_ l 0).fLo/\(at_ l 0).fHi<=1000000000:=by simp [qA,and_assoc]
def rgS(l:List da)(j:Nat):qA l (j+1)=true↔(at_ l (j+1)).fLo<=(at_ l (j+1)).fHi/\-1000000000<=(at_ l (j+1)).fLo/\(at_ l (j+1)).fHi<=1000000000/\(at_ l j).fHi+2<=(at_ l (j+1)).fLo:=by simp [qA,and_assoc]
def fO(l:List da):Bool:=cS (qA l) l.length && decide (l.length<=6)
def nS{l:List da}{j:Nat}(hj:j<l.length)(h:qA l j=false):fO l=false:=by rw [fO,dL hj h];rfl
def mL{l:List da}{k:Nat}(h:cS (qA l) k=true)(e:k=l.length):fO l=decide ((l.length:Int)<=6):=by subst e;rw [fO,h,Bool.true_and];exact decide_eq_decide.2 Ir
def cont(l:List Str)(s:Str):Bool:=decide (0<=idx (fun x=>x == s) l)
def bT(l:List Str):Bool:=cS (fun j=>!cont (l.take j) (at_ l j)) l.length
def aeA(l:List jd)(n:Str):Int:=idx (fun x=>x.ag == n) l
def names(l:List Str):Bool:=cS (fun j=>isName (at_ l j)) l.length
end Go.Dt
namespace Go.Proofs
open Go.Ab Go.Dt
set_option maxHeartbeats 1000000
section
instance Xo(L:eaa)(n:Int):Ctr L prog 312 [] [.aa n] (.ac (decide (-1000000000<=n) && decide (n<=1000000000))) [] True:=by
 refine Ctr.bd func312 ntmps312 fun hp=>?_
 all_goals exact uU
instance U3(L:eaa)[hL:Lok L](l:List da):Ctr L prog 255 [] [.sl false 2 (l.map (bh false))] (.ac (fO l)) [] True:=by
 refine Ctr.bd func255 ntmps255 fun hp=>?_;refine AW.f0 0 fun hf=>?_;have hf:=Nat.le_trans hf (hL.le 2);refine vU1 ?_;refine AW.aw [3] [0] (fun m xs o=>∃ k:Nat,xs=[.aa k]/\o=[]/\m=l.length - k/\k<=l.length/\cS (qA l) k=true) l.length [] trivial ⟨0,?_,rfl,rfl,?_,rfl⟩ ?_
 ·rfl
 ·omega
 rintro m xs o ⟨k,rfl,rfl,rfl,hk,hR⟩;rcases k with _|k
 ·(refine vU3 ?_ ?_ ?_<;>with_reducible repeat intro h)
  ·rw [nS yG (Bool.eq_false_iff.2 fun hc=>by have:=(rg0 l).1 hc;omega)]
  ·exact ⟨_,[_],[],Ir,⟨0+1,rfl,rfl,rfl,Ir,dc hR ((rg0 l).2 Ir)⟩,rfl,trivial⟩
  ·rw [mL hR Ir]
 ·have hh:=I1 (o5 hR (Nat.lt_succ_self k))
  (refine vU3 ?_ ?_ ?_<;>with_reducible repeat intro h)
  ·rw [nS yG (Bool.eq_false_iff.2 fun hc=>by have:=(rgS l k).1 hc;omega)]
  ·exact ⟨_,[_],[],Ir,⟨k+1+1,rfl,rfl,rfl,Ir,dc hR ((rgS l k).2 Ir)⟩,rfl,trivial⟩
  ·rw [mL hR Ir]
instance V1(L:eaa)[hL:Lok L](l:List da):Ctr L prog 270 [] [.sl false 2 (l.map (bh false))] (.ac (fO l)) [] True:=by
 refine Ctr.bd func270 ntmps270 fun hp=>?_;refine AW.f0 0 fun hf=>?_;have hf:=Nat.le_trans hf (hL.le 2);refine vU1 ?_;refine AW.aw [7] [0,5,6] (fun m xs o=>∃ k:Nat,xs=[.aa k]/\o=[]/\m=l.length - k/\k<=l.length/\cS (qA l) k=true) l.length [] trivial ⟨0,?_,rfl,rfl,?_,rfl⟩ ?_
 ·rfl
 ·omega
 rintro m xs o ⟨k,rfl,rfl,rfl,hk,hR⟩;rcases k with _|k
 ·(refine vU3 ?_ ?_ ?_<;>with_reducible repeat intro h)
  ·rw [nS yG (Bool.eq_false_iff.2 fun hc=>by have:=(rg0 l).1 hc;omega)]
  ·exact ⟨_,[_],[],Ir,⟨0+1,rfl,rfl,rfl,Ir,dc hR ((rg0 l).2 Ir)⟩,rfl,trivial⟩
  ·rw [mL hR Ir]
 ·have hh:=I1 (o5 hR (Nat.lt_succ_self k))
  (refine vU3 ?_ ?_ ?_<;>with_reducible repeat intro h)
  ·rw [nS yG (Bool.eq_false_iff.2 fun hc=>by have:=(rgS l k).1 hc;omega)]
  ·exact ⟨_,[_],[],Ir,⟨k+1+1,rfl,rfl,rfl,Ir,dc hR ((rgS l k).2 Ir)⟩,rfl,trivial⟩
  ·rw [mL hR Ir]
end
section
instance acs(L:eaa)[hL:Lok L](l:List Str)(n:Str):Ctr L prog 158 [] [.sl false 1 (l.map AV.str),.str n] (.aa (idx (fun x=>x == n) l)) [] True:=by
 refine Ctr.bd func158 ntmps158 fun hp=>?_;refine AW.f0 0 fun hf=>?_;have hf:=Nat.le_trans hf (hL.le 1);refine vU1 ?_;refine AW.aw [8] [0,1,6,7] (fun m xs o=>∃ k:Nat,xs=[.aa k]/\o=[]/\m=l.length - k/\k<=l.length/\∀ x∈l.take k,(fun x:Str=>x == n) x=false) l.length [] trivial ⟨0,?_,rfl,rfl,?_,?_⟩ ?_
 ·rfl
 ·omega
 ·simp
 rintro m xs o ⟨k,rfl,rfl,rfl,hk,hR⟩
 (refine vU3 ?_ ?_ ?_<;>with_reducible repeat intro h)
 ·rw [gV yG hR (by simpa using eq_comm.1 h)]
 ·exact ⟨_,[_],[],Ir,⟨k+1,rfl,rfl,rfl,Ir,aL yG hR (by simpa using fun e=>h (Eq.symm e))⟩,rfl,trivial⟩
 ·rw [jo h hR]
instance ZQ(L:eaa)[hL:Lok L](l:List Str)(n:Str):Ctr L prog 230 [] [.sl false 1 (l.map AV.str),.str n] (.ac (cont l n)) [] True:=by refine Ctr.bd func230 ntmps230 fun hp=>?_;refine vU1 ?_;rfl
instance Ql(L:eaa)[hL:Lok L](l:List Str):Ctr L prog 188 [] [.sl false 1 (l.map AV.str)] (.ac (bT l)) [] True:=by
 refine Ctr.bd func188 ntmps188 fun hp=>?_;refine AW.f0 0 fun hf=>?_;have hf:=Nat.le_trans hf (hL.le 1);refine vU1 ?_;refine AW.aw [6] [0,4,5] (fun m xs o=>∃ k:Nat,xs=[.aa k]/\o=[]/\m=l.length - k/\k<=l.length/\cS (fun j=>!cont (l.take j) (at_ l j)) k=true) l.length [] trivial ⟨0,?_,rfl,rfl,?_,rfl⟩ ?_
 ·rfl
 ·omega
 rintro m xs o ⟨k,rfl,rfl,rfl,hk,hR⟩
 (repeat' first|(with_reducible first|refine Z ?_|refine Y ?_|(refine hK _ _ ?_;clear hK K)|refine And.intro ?_ ?_|exact Ct|intro (K:_->_->Prop) hK|(refine gI fun hg=>?_;try simp only [hC,reduceCtorEq] at hg;try simp only [hg]))|(refine AW.i rfl (fun h=>?_) (fun h=>?_)<;>try simp only [hC,reduceCtorEq] at h)|((with_reducible refine E ?_;repeat refine Y ?_);refine eF rfl ?_)|simp (disch:=omega) only [go_sem,<- List.map_take,Int.toNat_zero,List.drop_zero]|(with_reducible intro hg;try simp only [hC,reduceCtorEq] at hg)|exact Cl|fail)
 ·rw [bT,dL yG (by simp [h])]
 ·exact ⟨_,[_],[],Ir,⟨k+1,rfl,rfl,rfl,Ir,dc hR (by simp [h])⟩,rfl,trivial⟩
 ·rw [show k=l.length by omega] at hR;rw [bT,hR]
instance YK(L:eaa)[hL:Lok L](l:List Str):Ctr L prog 233 [] [.sl false 1 (l.map AV.str)] (.ac (names l)) [] True:=by
 refine Ctr.bd func233 ntmps233 fun hp=>?_;refine AW.f0 0 fun hf=>?_;have hf:=Nat.le_trans hf (hL.le 1);refine vU1 ?_;refine AW.aw [7] [0,5,6] (fun m xs o=>∃ k:Nat,xs=[.aa k]/\o=[]/\m=l.length - k/\k<=l.length/\cS (fun j=>isName (at_ l j)) k=true) l.length [] trivial ⟨0,?_,rfl,rfl,?_,rfl⟩ ?_
 ·rfl
 ·omega
 rintro m xs o ⟨k,rfl,rfl,rfl,hk,hR⟩
 (refine vU3 ?_ ?_ ?_<;>with_reducible repeat intro h)
 ·rw [names,dL yG (by simp [h])]
 ·exact ⟨_,[_],[],Ir,⟨k+1,rfl,rfl,rfl,Ir,dc hR (by simp [h])⟩,rfl,trivial⟩
 ·rw [show k=l.length by omega] at hR;rw [names,hR]
end
end Go.Proofs
