/- Part of a proof. -/
import Derived.Test.YtbiikafnjialjaaGreatDoorG6
set_option linter.all false
set_option maxRecDepth 20000
set_option maxHeartbeats 4000000
namespace Go.Dt
open Go.Ab
def bL(p:Nat->Bool):Nat->Bool
 | 0=>true
 | k+1=>bL p k && p k
theorem cW{p:Nat->Bool}:∀ {n j:Nat},j<n->p j=false->bL p n=false
 | 0,_,h,_=>by omega
 | n+1,j,h,e=>by
  simp only [bL]
  by_cases hj:j=n
  ·subst hj;simp [e]
  ·rw [cW (n:=n) (by omega) e];rfl
theorem cj{p:Nat->Bool}{k:Nat}(h:bL p k=true)(e:p k=true):bL p (k+1)=true:=by simp [bL,h,e]
theorem mA{p:Nat->Bool}:∀ {n j:Nat},bL p n=true->j<n->p j=true
 | 0,_,_,h=>by omega
 | n+1,j,h,hj=>by
  simp only [bL,Bool.and_eq_true] at h
  by_cases e:j=n
  ·subst e;exact h.2
  ·exact mA h.1 (by omega)
theorem oL{α:Type}[Inhabited α](q:α->Bool)(l:List α):bL (fun j=>q (at_ l j)) l.length=l.all q:=by
 have key:∀ n,n<=l.length->bL (fun j=>q (at_ l j)) n=(l.take n).all q:=by
  intro n
  induction n with
  | zero=>intro _;simp [bL]
  | succ n ih =>
   intro h
   rw [bL,ih (by omega)]
   have:l.take (n+1)=l.take n++[at_ l n]:=by
    rw [List.take_succ_eq_append_getElem (by omega)]
    unfold at_;rw [List.getElem?_eq_getElem (by omega)];rfl
   rw [this];simp
 have:=key l.length (Nat.le_refl _)
 rwa [List.take_length] at this
theorem fe{α:Type}{f:α->Int->Int}{l:List α}{r:Int}(h:r - l.length<0):aM f l r = -1:=by unfold aM thn;rw [if_pos h]
theorem fC{α:Type}{f:α->Int->Int}{l:List α}{r:Int}(h:0<=r - l.length):aM f l r=dP f l (r - l.length):=by unfold aM thn;rw [if_neg (by omega)]
theorem fw{α:Type}[Inhabited α]{f:α->Int->Int}{l:List α}{k:Nat}{r:Int}(h:k<l.length):dP f (l.drop k) r=if f (at_ l k) r<0 then -1 else dP f (l.drop (k+1)) (f (at_ l k) r):=by
 rw [ct h,dP,thn]
theorem jv{α:Type}{f:α->Int->Int}{l:List α}{k:Nat}{r:Int}(h:¬ k<l.length):dP f (l.drop k) r=r:=by
 rw [List.drop_eq_nil_of_le (by omega),dP]
theorem N7(n:Nat):gD n=140737488355328:=rfl
attribute [go_sem] N7
class Lok(L:Nat->Nat):Prop where
 le:∀ z,L z<=4611686018427387904
theorem Ov(z:Nat):lim z<=4611686018427387904:=by
 have:=HV (z - 1000000000)
 unfold lim;split
 ·omega
 ·split<;>omega
instance:Lok lim:=⟨Ov⟩
instance:Lok gD:=⟨fun z=>by unfold gD;omega⟩
def chN(s:Str)(j:Nat):Bool:=ltI (at8 s j) || (!(j == 0) && nmI (at8 s j))
def isName(s:Str):Bool:=bL (chN s) s.length && (decide (1<=s.length) && decide (s.length<=16) && !(at8 s (s.length - 1:Nat) == 45))
def chT(s:Str)(j:Nat):Bool:=decide (32<=at8 s j) && decide (at8 s j<=126)
def isText(s:Str):Bool:=bL (chT s) s.length && decide (s.length<=40)
end Go.Dt
namespace Go.Proofs
open Go.Ab Go.Dt
set_option maxHeartbeats 1000000
instance R5(L:Nat->Nat)(s:Str):Ctr L Tryz.prog 171 [] [.str s] (.v (.bool (isText s))) [] True:=by
 refine Ctr.bd Tryz.func171 Tryz.ntmps171 rfl rfl fun hp=>?_
 refine AW.fact 0 fun hf=>?_
 simp (disch:=omega) only [go_sem,Nat.reduceBEq] at hf
 (refine vU ?_;with_reducible repeat' first|exact Le.l|apply Sw|intro h)
 refine AW.aw [3] [0] (fun m xs o=>∃ k:Nat,xs=[.v (.int .i64 k)]/\o=[]/\m=s.length - k/\k<=s.length/\bL (chT s) k=true) s.length [] trivial ⟨0,?_,rfl,rfl,?_,rfl⟩ ?_
 ·rfl
 ·omega
 rintro m xs o ⟨k,rfl,rfl,rfl,hk,hR⟩
 (refine vU ?_;with_reducible repeat' first|exact Le.l|apply Sw|intro h)
 ·rw [isText,cW (by assumption) (by simp [chT];omega)];rfl
 ·exact ⟨_,[_],[],by omega,⟨k+1,rfl,rfl,rfl,by omega,cj hR (by simp [chT];omega)⟩,rfl,trivial⟩
 ·rw [show k=s.length by omega] at hR
  rw [isText,hR];simp;omega
instance Sq(L:Nat->Nat)(s:Str):Ctr L Tryz.prog 190 [] [.str s] (.v (.bool (isText s))) [] True:=by
 refine Ctr.bd Tryz.func190 Tryz.ntmps190 rfl rfl fun hp=>?_
 refine AW.fact 0 fun hf=>?_
 simp (disch:=omega) only [go_sem,Nat.reduceBEq] at hf
 (refine vU ?_;with_reducible repeat' first|exact Le.l|apply Sw|intro h)
 refine AW.aw [3] [0] (fun m xs o=>∃ k:Nat,xs=[.v (.int .i64 k)]/\o=[]/\m=s.length - k/\k<=s.length/\bL (chT s) k=true) s.length [] trivial ⟨0,?_,rfl,rfl,?_,rfl⟩ ?_
 ·rfl
 ·omega
 rintro m xs o ⟨k,rfl,rfl,rfl,hk,hR⟩
 (refine vU ?_;with_reducible repeat' first|exact Le.l|apply Sw|intro h)
 ·rw [isText,cW (by assumption) (by simp [chT];omega)];rfl
 ·exact ⟨_,[_],[],by omega,⟨k+1,rfl,rfl,rfl,by omega,cj hR (by simp [chT];omega)⟩,rfl,trivial⟩
 ·rw [show k=s.length by omega] at hR
  rw [isText,hR];simp;omega
instance R7(L:Nat->Nat)(s:Str):Ctr L Tryz.prog 164 [] [.str s] (.v (.bool (isName s))) [] True:=by
 refine Ctr.bd Tryz.func164 Tryz.ntmps164 rfl rfl fun hp=>?_
 refine AW.fact 0 fun hf=>?_
 simp (disch:=omega) only [go_sem,Nat.reduceBEq] at hf
 (refine vU ?_;with_reducible repeat' first|exact Le.l|apply Sw|intro h)
 refine AW.aw [3] [0] (fun m xs o=>∃ k:Nat,xs=[.v (.int .i64 k)]/\o=[]/\m=s.length - k/\k<=s.length/\bL (chN s) k=true) s.length [] trivial ⟨0,?_,rfl,rfl,?_,rfl⟩ ?_
 ·rfl
 ·omega
 rintro m xs o ⟨k,rfl,rfl,rfl,hk,hR⟩
 (refine vU ?_;with_reducible repeat' first|exact Le.l|apply Sw|intro h)
 ·rw [isName,cW (by assumption) ?_];rfl
  simp only [chN,nmI,ltI,l8]
  obtain ⟨h1,h2⟩:=h
  have e1:(decide (97<=at8 s k) && decide (at8 s k<=122))=false:=by simp;omega
  rw [e1]
  rcases h2 with h2|h2
  ·have:k=0:=by omega
   simp [this]
  ·have e2:(decide (48<=at8 s k) && decide (at8 s k<=57))=false:=by simp;omega
   rw [e2];simp [h2.2]
 ·refine ⟨_,[_],[],by omega,⟨k+1,rfl,rfl,rfl,by omega,cj hR ?_⟩,rfl,trivial⟩
  simp only [chN,nmI,ltI,l8]
  cases e1:(decide (97<=at8 s k) && decide (at8 s k<=122)) with
  | true=>rfl
  | false =>
   simp only [Bool.and_eq_false_imp,decide_eq_true_eq,decide_eq_false_iff_not,Int.not_le] at e1
   obtain ⟨h1,h2⟩:=h e1
   have h3:(k == 0)=false:=by simp;omega
   rw [h3]
   cases e2:(decide (48<=at8 s k) && decide (at8 s k<=57)) with
   | true=>rfl
   | false =>
    simp only [Bool.and_eq_false_imp,decide_eq_true_eq,decide_eq_false_iff_not,Int.not_le] at e2
    simp [h2 e2]
 ·rw [show k=s.length by omega] at hR
  rw [isName,hR]
  by_cases h0:s.length=0
  ·simp [h0]
  ·rw [K9 (by omega)]
   rw [show decide ((1:Int)<=(s.length:Int))=decide (1<=s.length) from decide_eq_decide.2 (by omega),show decide ((s.length:Int)<=16)=decide (s.length<=16) from decide_eq_decide.2 (by omega)]
   simp only [Bool.true_and,bne]
instance Ss(L:Nat->Nat)(s:Str):Ctr L Tryz.prog 145 [] [.str s] (.v (.bool (isName s))) [] True:=by
 refine Ctr.bd Tryz.func145 Tryz.ntmps145 rfl rfl fun hp=>?_
 refine AW.fact 0 fun hf=>?_
 simp (disch:=omega) only [go_sem,Nat.reduceBEq] at hf
 (refine vU ?_;with_reducible repeat' first|exact Le.l|apply Sw|intro h)
 ·have:isName s=false:=by
   rcases h with (h|h)|h
   ·simp [isName];intro _ _;omega
   ·simp [isName];intro _ _ _;omega
   ·by_cases h0:s.length=0
    ·simp [isName,h0]
    ·rw [isName,cW (j:=0) (by omega) (by simp [chN,h])];rfl
  rw [this]
 refine AW.aw [3] [0] (fun m xs o=>∃ k:Nat,xs=[.v (.int .i64 k)]/\o=[]/\m=s.length - k/\1<=k/\k<=s.length/\bL (chN s) k=true) (s.length - 1) [] trivial ⟨1,?_,rfl,rfl,?_,?_,?_⟩ ?_
 ·rfl
 ·omega
 ·omega
 ·simp [bL,chN,h.2]
 rintro m xs o ⟨k,rfl,rfl,rfl,hk0,hk,hR⟩
 (refine vU ?_;with_reducible repeat' first|exact Le.l|apply Sw|intro h)
 ·have h2:ltI (at8 s k)=false:=by
   simp only [nmI,Bool.or_eq_false_iff] at h;exact h.1.1
  rw [isName,cW (by assumption) (by simp [chN,h,h2])];rfl
 ·exact ⟨_,[_],[],by omega,⟨k+1,rfl,rfl,rfl,by omega,by omega,cj hR (by simp [chN,h];omega)⟩,rfl,trivial⟩
 ·rw [show k=s.length by omega] at hR
  rw [isName,hR]
  rename_i hh
  have e1:decide (1<=s.length)=true:=by simp;omega
  have e2:decide (s.length<=16)=true:=by simp;omega
  rw [e1,e2];simp [bne]
end Go.Proofs
namespace Go.Dt
open Go.Ab
def pg(l:List df):Nat->Bool
 | 0=>decide ((at_ l 0).fLo<=(at_ l 0).fHi) && decide (-1000000000<=(at_ l 0).fLo) && decide ((at_ l 0).fHi<=1000000000)
 | j+1=>decide ((at_ l (j+1)).fLo<=(at_ l (j+1)).fHi) && decide (-1000000000<=(at_ l (j+1)).fLo) && decide ((at_ l (j+1)).fHi<=1000000000) && decide ((at_ l j).fHi+2<=(at_ l (j+1)).fLo)
theorem EJ{l:List df}{j:Nat}(h:pg l j=true):(at_ l j).fLo<=(at_ l j).fHi/\-1000000000<=(at_ l j).fLo/\(at_ l j).fHi<=1000000000:=by
 cases j<;>simp [pg] at h<;>omega
theorem rg0(l:List df):pg l 0=true↔(at_ l 0).fLo<=(at_ l 0).fHi/\-1000000000<=(at_ l 0).fLo/\(at_ l 0).fHi<=1000000000:=by simp [pg,and_assoc]
theorem rgS(l:List df)(j:Nat):pg l (j+1)=true↔(at_ l (j+1)).fLo<=(at_ l (j+1)).fHi/\-1000000000<=(at_ l (j+1)).fLo/\(at_ l (j+1)).fHi<=1000000000/\(at_ l j).fHi+2<=(at_ l (j+1)).fLo:=by simp [pg,and_assoc]
def fN(l:List df):Bool:=bL (pg l) l.length && decide (l.length<=6)
theorem mS{l:List df}{j:Nat}(hj:j<l.length)(h:pg l j=false):fN l=false:=by
 rw [fN,cW hj h];rfl
theorem lU{l:List df}{k:Nat}(h:bL (pg l) k=true)(e:k=l.length):fN l=decide ((l.length:Int)<=6):=by
 subst e;rw [fN,h,Bool.true_and];exact decide_eq_decide.2 (by omega)
def cont(l:List Str)(s:Str):Bool:=decide (0<=idx (fun x=>x == s) l)
def cl(l:List Str):Bool:=bL (fun j=>!cont (l.take j) (at_ l j)) l.length
def iA(l:List bh)(n:Str):Int:=idx (fun x=>x.af == n) l
def names(l:List Str):Bool:=bL (fun j=>isName (at_ l j)) l.length
end Go.Dt
namespace Go.Proofs
open Go.Ab Go.Dt
set_option maxHeartbeats 1000000
section
instance P2(L:Nat->Nat)(n:Int):Ctr L Tryz.prog 282 [] [.v (.int .i64 n)] (.v (.bool (decide (-1000000000<=n) && decide (n<=1000000000)))) [] True:=by
 refine Ctr.bd Tryz.func282 Tryz.ntmps282 rfl rfl fun hp=>?_
 all_goals exact uU
instance NT(L:Nat->Nat)[hL:Lok L](l:List df):Ctr L Tryz.prog 224 [] [.sl false 2 (l.map (aI false))] (.v (.bool (fN l))) [] True:=by
 refine Ctr.bd Tryz.func224 Tryz.ntmps224 rfl rfl fun hp=>?_
 refine AW.fact 0 fun hf=>?_
 simp (disch:=omega) only [go_sem,Nat.reduceBEq] at hf
 have hf:=Nat.le_trans hf (hL.le 2)
 (refine vU ?_;with_reducible repeat' first|exact Le.l|apply Sw|intro h)
 refine AW.aw [3] [0] (fun m xs o=>∃ k:Nat,xs=[.v (.int .i64 k)]/\o=[]/\m=l.length - k/\k<=l.length/\bL (pg l) k=true) l.length [] trivial ⟨0,?_,rfl,rfl,?_,rfl⟩ ?_
 ·rfl
 ·omega
 rintro m xs o ⟨k,rfl,rfl,rfl,hk,hR⟩
 rcases k with _|k
 ·(refine vU ?_;with_reducible repeat' first|exact Le.l|apply Sw|intro h)
  ·rw [mS (by assumption) (Bool.eq_false_iff.2 fun hc=>by have:=(rg0 l).1 hc;omega)]
  ·exact ⟨_,[_],[],by omega,⟨0+1,rfl,rfl,rfl,by omega,cj hR ((rg0 l).2 (by omega))⟩,rfl,trivial⟩
  ·rw [lU hR (by omega)]
 ·have hh:=EJ (mA hR (Nat.lt_succ_self k))
  (refine vU ?_;with_reducible repeat' first|exact Le.l|apply Sw|intro h)
  ·rw [mS (by assumption) (Bool.eq_false_iff.2 fun hc=>by have:=(rgS l k).1 hc;omega)]
  ·exact ⟨_,[_],[],by omega,⟨k+1+1,rfl,rfl,rfl,by omega,cj hR ((rgS l k).2 (by omega))⟩,rfl,trivial⟩
  ·rw [lU hR (by omega)]
instance OU(L:Nat->Nat)[hL:Lok L](l:List df):Ctr L Tryz.prog 240 [] [.sl false 2 (l.map (aI false))] (.v (.bool (fN l))) [] True:=by
 refine Ctr.bd Tryz.func240 Tryz.ntmps240 rfl rfl fun hp=>?_
 refine AW.fact 0 fun hf=>?_
 simp (disch:=omega) only [go_sem,Nat.reduceBEq] at hf
 have hf:=Nat.le_trans hf (hL.le 2)
 (refine vU ?_;with_reducible repeat' first|exact Le.l|apply Sw|intro h)
 refine AW.aw [7] [0,5,6] (fun m xs o=>∃ k:Nat,xs=[.v (.int .i64 k)]/\o=[]/\m=l.length - k/\k<=l.length/\bL (pg l) k=true) l.length [] trivial ⟨0,?_,rfl,rfl,?_,rfl⟩ ?_
 ·rfl
 ·omega
 rintro m xs o ⟨k,rfl,rfl,rfl,hk,hR⟩
 rcases k with _|k
 ·(refine vU ?_;with_reducible repeat' first|exact Le.l|apply Sw|intro h)
  ·rw [mS (by assumption) (Bool.eq_false_iff.2 fun hc=>by have:=(rg0 l).1 hc;omega)]
  ·exact ⟨_,[_],[],by omega,⟨0+1,rfl,rfl,rfl,by omega,cj hR ((rg0 l).2 (by omega))⟩,rfl,trivial⟩
  ·rw [lU hR (by omega)]
 ·have hh:=EJ (mA hR (Nat.lt_succ_self k))
  (refine vU ?_;with_reducible repeat' first|exact Le.l|apply Sw|intro h)
  ·rw [mS (by assumption) (Bool.eq_false_iff.2 fun hc=>by have:=(rgS l k).1 hc;omega)]
  ·exact ⟨_,[_],[],by omega,⟨k+1+1,rfl,rfl,rfl,by omega,cj hR ((rgS l k).2 (by omega))⟩,rfl,trivial⟩
  ·rw [lU hR (by omega)]
end
section
instance Vv(L:Nat->Nat)[hL:Lok L](l:List Str)(n:Str):Ctr L Tryz.prog 148 [] [.sl false 1 (l.map AV.str),.str n] (.v (.int .i64 (idx (fun x=>x == n) l))) [] True:=by
 refine Ctr.bd Tryz.func148 Tryz.ntmps148 rfl rfl fun hp=>?_
 refine AW.fact 0 fun hf=>?_
 simp (disch:=omega) only [go_sem,Nat.reduceBEq] at hf
 have hf:=Nat.le_trans hf (hL.le 1)
 (refine vU ?_;with_reducible repeat' first|exact Le.l|apply Sw|intro h)
 refine AW.aw [8] [0,1,6,7] (fun m xs o=>∃ k:Nat,xs=[.v (.int .i64 k)]/\o=[]/\m=l.length - k/\k<=l.length/\∀ x∈l.take k,(fun x:Str=>x == n) x=false) l.length [] trivial ⟨0,?_,rfl,rfl,?_,?_⟩ ?_
 ·rfl
 ·omega
 ·simp
 rintro m xs o ⟨k,rfl,rfl,rfl,hk,hR⟩
 (refine vU ?_;with_reducible repeat' first|exact Le.l|apply Sw|intro h)
 ·rw [gB (by assumption) hR (by simpa using eq_comm.1 h)]
 ·exact ⟨_,[_],[],by omega,⟨k+1,rfl,rfl,rfl,by omega,bD (by assumption) hR (by simpa using fun e=>h (Eq.symm e))⟩,rfl,trivial⟩
 ·rw [jb h hR]
instance PM(L:Nat->Nat)[hL:Lok L](l:List bh)(n:Str):Ctr L Tryz.prog 109 [] [.sl false 6 (l.map (aV false)),.str n] (.v (.int .i64 (iA l n))) [] True:=by
 refine Ctr.bd Tryz.func109 Tryz.ntmps109 rfl rfl fun hp=>?_
 refine AW.fact 0 fun hf=>?_
 simp (disch:=omega) only [go_sem,Nat.reduceBEq] at hf
 have hf:=Nat.le_trans hf (hL.le 6)
 (refine vU ?_;with_reducible repeat' first|exact Le.l|apply Sw|intro h)
 refine AW.aw [5] [0,1] (fun m xs o=>∃ k:Nat,xs=[.v (.int .i64 k)]/\o=[]/\m=l.length - k/\k<=l.length/\∀ x∈l.take k,(fun x:bh=>x.af == n) x=false) l.length [] trivial ⟨0,?_,rfl,rfl,?_,?_⟩ ?_
 ·rfl
 ·omega
 ·simp
 rintro m xs o ⟨k,rfl,rfl,rfl,hk,hR⟩
 (refine vU ?_;with_reducible repeat' first|exact Le.l|apply Sw|intro h)
 ·rw [iA,gB (by assumption) hR (by simpa using h)]
 ·exact ⟨_,[_],[],by omega,⟨k+1,rfl,rfl,rfl,by omega,bD (by assumption) hR (by simpa using h)⟩,rfl,trivial⟩
 ·rw [iA,jb h hR]
instance SK(L:Nat->Nat)[hL:Lok L](l:List Str)(n:Str):Ctr L Tryz.prog 90 [] [.sl false 1 (l.map AV.str),.str n] (.v (.bool (cont l n))) [] True:=by
 refine Ctr.bd Tryz.func90 Tryz.ntmps90 rfl rfl fun hp=>?_
 (refine vU ?_;with_reducible repeat' first|exact Le.l|apply Sw|intro h)
 rfl
instance Kv(L:Nat->Nat)[hL:Lok L](l:List Str):Ctr L Tryz.prog 144 [] [.sl false 1 (l.map AV.str)] (.v (.bool (cl l))) [] True:=by
 refine Ctr.bd Tryz.func144 Tryz.ntmps144 rfl rfl fun hp=>?_
 refine AW.fact 0 fun hf=>?_
 simp (disch:=omega) only [go_sem,Nat.reduceBEq] at hf
 have hf:=Nat.le_trans hf (hL.le 1)
 (refine vU ?_;with_reducible repeat' first|exact Le.l|apply Sw|intro h)
 refine AW.aw [6] [0,4,5] (fun m xs o=>∃ k:Nat,xs=[.v (.int .i64 k)]/\o=[]/\m=l.length - k/\k<=l.length/\bL (fun j=>!cont (l.take j) (at_ l j)) k=true) l.length [] trivial ⟨0,?_,rfl,rfl,?_,rfl⟩ ?_
 ·rfl
 ·omega
 rintro m xs o ⟨k,rfl,rfl,rfl,hk,hR⟩
 (repeat' first|(with_reducible first|refine Z ?_|refine Y ?_|(refine hK _ _ ?_;clear hK K)|refine And.intro ?_ ?_|exact Ct|intro (K:_->_->Prop) hK|(refine gI fun hg=>?_;try simp only [hC,reduceCtorEq] at hg;try simp only [hg]))|(refine AW.i rfl (fun h=>?_) (fun h=>?_)<;>try simp only [hC,reduceCtorEq] at h)|((with_reducible refine E ?_;repeat refine Y ?_);refine eF rfl ?_)|simp (disch:=omega) only [go_sem,<- List.map_take,Int.toNat_zero,List.drop_zero]|(with_reducible intro hg;try simp only [hC,reduceCtorEq] at hg)|exact Cl|fail)
 ·rw [cl,cW (by assumption) (by simp [h])]
 ·exact ⟨_,[_],[],by omega,⟨k+1,rfl,rfl,rfl,by omega,cj hR (by simp [h])⟩,rfl,trivial⟩
 ·rw [show k=l.length by omega] at hR
  rw [cl,hR]
instance RH(L:Nat->Nat)[hL:Lok L](l:List Str):Ctr L Tryz.prog 146 [] [.sl false 1 (l.map AV.str)] (.v (.bool (names l))) [] True:=by
 refine Ctr.bd Tryz.func146 Tryz.ntmps146 rfl rfl fun hp=>?_
 refine AW.fact 0 fun hf=>?_
 simp (disch:=omega) only [go_sem,Nat.reduceBEq] at hf
 have hf:=Nat.le_trans hf (hL.le 1)
 (refine vU ?_;with_reducible repeat' first|exact Le.l|apply Sw|intro h)
 refine AW.aw [7] [0,5,6] (fun m xs o=>∃ k:Nat,xs=[.v (.int .i64 k)]/\o=[]/\m=l.length - k/\k<=l.length/\bL (fun j=>isName (at_ l j)) k=true) l.length [] trivial ⟨0,?_,rfl,rfl,?_,rfl⟩ ?_
 ·rfl
 ·omega
 rintro m xs o ⟨k,rfl,rfl,rfl,hk,hR⟩
 (refine vU ?_;with_reducible repeat' first|exact Le.l|apply Sw|intro h)
 ·rw [names,cW (by assumption) (by simp [h])]
 ·exact ⟨_,[_],[],by omega,⟨k+1,rfl,rfl,rfl,by omega,cj hR (by simp [h])⟩,rfl,trivial⟩
 ·rw [show k=l.length by omega] at hR
  rw [names,hR]
end
end Go.Proofs
