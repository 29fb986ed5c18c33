/- Part of a proof. -/
import Derived.Test.YtbiikafnjialjaaGreatDoorQ7
set_option linter.all false
set_option maxRecDepth 20000
set_option maxHeartbeats 4000000
open Go.Proofs.Tryz
open List
namespace Go.Dt
open Go.Ab
def cz(p:Nat->Bool):Nat->Bool
 | 0=>true
 | k+1=>cz p k && p k
def cV{p:Nat->Bool}:∀ {n j:Nat},j<n->p j=false->cz p n=false
 | 0,_,h,_=>by omega
 | n+1,j,h,e=>by
  simp only[cz];by_cases hj:j=n
  ·subst hj;simp[e]
  ·rw[cV (n:=n) Yt e];rfl
def cy{p:Nat->Bool}{k:Nat}(h:cz p k=true)(e:p k=true):cz p (k+1)=true:=by simp[cz,h,e]
def o5{p:Nat->Bool}:∀ {n j:Nat},cz p n=true->j<n->p j=true
 | 0,_,_,h=>by omega
 | n+1,j,h,hj=>by
  simp only[cz,Bool.and_eq_true]at h;by_cases e:j=n
  ·subst e;exact h.2
  ·exact o5 h.1 Yt
theorem rG{α:Type}[Inhabited α](q:α->Bool)(l:List α):cz (λj=>q (at_ l j)) l.length=l.all q:=by
 have key:∀n,n<=l.length->cz (λj=>q (at_ l j)) n=(l.take n).all q:=by
  intro n
  induction n with
  | zero=>intro _;simp[cz]
  | succ n ih =>
   intro h;rw[cz,ih Yt]
   have:l.take (n+1)=l.take n++[at_ l n]:=by
    rw[take_succ_eq_append_getElem Yt];unfold at_;rw[getElem?_eq_getElem Yt];rfl
   rw[this];simp
 have:=key l.length (Nat.le_refl _)
 rwa [take_length]at this
def fM{α:Type}{f:α->Int->Int}{l:List α}{r:Int}(h:r - l.length<0):aM f l r = -1:=by unfold aM thn;rw[if_pos h]
def fY{α:Type}{f:α->Int->Int}{l:List α}{r:Int}(h:0<=r - l.length):aM f l r=eH f l (r - l.length):=by unfold aM thn;rw[if_neg Yt]
theorem fw{α:Type}[Inhabited α]{f:α->Int->Int}{l:List α}{k:Nat}{r:Int}(h:k<l.length):eH f (l.drop k) r=if f (at_ l k) r<0 then -1 else eH f (l.drop (k+1)) (f (at_ l k) r):=by rw[bT h,eH,thn]
def jm{α:Type}{f:α->Int->Int}{l:List α}{k:Nat}{r:Int}(h:¬k<l.length):eH f (l.drop k) r=r:=by rw[drop_eq_nil_of_le Yt,eH]
def VR(n:Nat):fN n=140737488355328:=rfl
attribute [go_sem] VR
class Lok(L:gaa):Prop where
 le:∀z,L z<=4611686018427387904
def Wd(z:Nat):lim z<=4611686018427387904:=by
 have:=NQ (z - 1000000000);unfold lim;split
 ·omega
 ·split<;>omega
instance:Lok lim:=⟨Wd⟩
instance:Lok fN:=⟨λz=>by unfold fN;omega⟩
def chN(s:Str)(j:Nat):Bool:=ltI (at8 s j) || (!(j == 0) && nmI (at8 s j))
def isName(s:Str):Bool:=cz (chN s) s.length && (decide (1<=s.length) && decide (s.length<=16) && !(at8 s (s.length - 1:Nat) == 45))
def chT(s:Str)(j:Nat):Bool:=decide (32<=at8 s j) && decide (at8 s j<=126)
def isText(s:Str):Bool:=cz (chT s) s.length && decide (s.length<=40)
end Go.Dt
namespace Go.Proofs
open Go.Ab Go.Dt
set_option maxHeartbeats 1000000
instance(L:gaa)(s:Str):Ctr L prog 171 [] [.str s] (.ac (isText s)) [] True:=by
 refine Ctr.bd func171 ntmps171 λhp=>?_;refine AW.f0 0 λhf=>?_;refine vU1 ?_;refine AW.aw [3] [0] (λm xs o=>∃k:Nat,xs=[.aa k]/\o=[]/\m=s.length - k/\k<=s.length/\cz (chT s) k=true) s.length [] trivial ⟨0,?_,rfl,rfl,?_,rfl⟩ ?_
 ·rfl
 ·omega
 rintro m xs o ⟨k,rfl,rfl,rfl,hk,hR⟩
 (refine vU3 ?_ ?_ ?_<;>with_reducible repeat intro h)
 ·rw[isText,cV baa (by simp[chT];omega)];rfl
 ·exact⟨_,[_],[],Yt,⟨k+1,rfl,rfl,rfl,Yt,cy hR (by simp[chT];omega)⟩,rfl,trivial⟩
 ·rw[show k=s.length by omega]at hR;rw[isText,hR];simp;omega
instance(L:gaa)(s:Str):Ctr L prog 190 [] [.str s] (.ac (isText s)) [] True:=by
 refine Ctr.bd func190 ntmps190 λhp=>?_;refine AW.f0 0 λhf=>?_;refine vU1 ?_;refine AW.aw [3] [0] (λm xs o=>∃k:Nat,xs=[.aa k]/\o=[]/\m=s.length - k/\k<=s.length/\cz (chT s) k=true) s.length [] trivial ⟨0,?_,rfl,rfl,?_,rfl⟩ ?_
 ·rfl
 ·omega
 rintro m xs o ⟨k,rfl,rfl,rfl,hk,hR⟩
 (refine vU3 ?_ ?_ ?_<;>with_reducible repeat intro h)
 ·rw[isText,cV baa (by simp[chT];omega)];rfl
 ·exact⟨_,[_],[],Yt,⟨k+1,rfl,rfl,rfl,Yt,cy hR (by simp[chT];omega)⟩,rfl,trivial⟩
 ·rw[show k=s.length by omega]at hR;rw[isText,hR];simp;omega
instance(L:gaa)(s:Str):Ctr L prog 164 [] [.str s] (.ac (isName s)) [] True:=by
 refine Ctr.bd func164 ntmps164 λhp=>?_;refine AW.f0 0 λhf=>?_;refine vU1 ?_;refine AW.aw [3] [0] (λm xs o=>∃k:Nat,xs=[.aa k]/\o=[]/\m=s.length - k/\k<=s.length/\cz (chN s) k=true) s.length [] trivial ⟨0,?_,rfl,rfl,?_,rfl⟩ ?_
 ·rfl
 ·omega
 rintro m xs o ⟨k,rfl,rfl,rfl,hk,hR⟩
 (refine vU3 ?_ ?_ ?_<;>with_reducible repeat intro h)
 ·rw[isName,cV baa ?_];rfl;simp only[chN,nmI,ltI,oH];obtain⟨h1,h2⟩:=h;have e1:(decide (97<=at8 s k) && decide (at8 s k<=122))=false:=by simp;omega
  rw[e1];rcases h2 with h2|h2
  ·have:k=0:=by omega
   simp[this]
  ·have e2:(decide (48<=at8 s k) && decide (at8 s k<=57))=false:=by simp;omega
   rw[e2];simp[h2.2]
 ·refine⟨_,[_],[],Yt,⟨k+1,rfl,rfl,rfl,Yt,cy hR ?_⟩,rfl,trivial⟩;simp only[chN,nmI,ltI,oH]
  cases e1:(decide (97<=at8 s k) && decide (at8 s k<=122))with
  | true=>rfl
  | false =>
   simp only[Bool.and_eq_false_imp,decide_eq_true_eq,decide_eq_false_iff_not,Int.not_le]at e1;obtain⟨h1,h2⟩:=h e1;have h3:(k == 0)=false:=by simp;omega
   rw[h3]
   cases e2:(decide (48<=at8 s k) && decide (at8 s k<=57))with
   | true=>rfl
   | false =>
    simp only[Bool.and_eq_false_imp,decide_eq_true_eq,decide_eq_false_iff_not,Int.not_le]at e2;simp[h2 e2]
 ·rw[show k=s.length by omega]at hR;rw[isName,hR];by_cases h0:s.length=0
  ·simp[h0]
  ·rw[Sj Yt];rw[show decide ((1:Int)<=(s.length:Int))=decide (1<=s.length)from decide_eq_decide.2 Yt,show decide ((s.length:Int)<=16)=decide (s.length<=16)from decide_eq_decide.2 Yt];simp only[Bool.true_and,bne]
instance(L:gaa)(s:Str):Ctr L prog 145 [] [.str s] (.ac (isName s)) [] True:=by
 refine Ctr.bd func145 ntmps145 λhp=>?_;refine AW.f0 0 λhf=>?_
 (refine vU2 ?_ ?_<;>intro h)
 ·have:isName s=false:=by
   rcases h with(h|h)|h
   ·simp[isName];intro _ _;omega
   ·simp[isName];intro _ _ _;omega
   ·by_cases h0:s.length=0
    ·simp[isName,h0]
    ·rw[isName,cV (j:=0) Yt (by simp[chN,h])];rfl
  rw[this]
 refine AW.aw [3] [0] (λm xs o=>∃k:Nat,xs=[.aa k]/\o=[]/\m=s.length - k/\1<=k/\k<=s.length/\cz (chN s) k=true) (s.length - 1) [] trivial ⟨1,?_,rfl,rfl,?_,?_,?_⟩ ?_
 ·rfl
 ·omega
 ·omega
 ·simp[cz,chN,h.2]
 rintro m xs o ⟨k,rfl,rfl,rfl,hk0,hk,hR⟩
 (refine vU3 ?_ ?_ ?_<;>with_reducible repeat intro h)
 ·have h2:ltI (at8 s k)=false:=by
   simp only[nmI,Bool.or_eq_false_iff]at h;exact h.1.1
  rw[isName,cV baa (by simp[chN,h,h2])];rfl
 ·exact⟨_,[_],[],Yt,⟨k+1,rfl,rfl,rfl,Yt,Yt,cy hR (by simp[chN,h];omega)⟩,rfl,trivial⟩
 ·rw[show k=s.length by omega]at hR;rw[isName,hR];rename_i hh;have e1:decide (1<=s.length)=true:=by simp;omega
  have e2:decide (s.length<=16)=true:=by simp;omega
  rw[e1,e2];simp[bne]
end Go.Proofs
namespace Go.Dt
open Go.Ab
def sy(l:List ed):Nat->Bool
 | 0=>decide ((at_ l 0).fLo<=(at_ l 0).fHi) && decide (-1000000000<=(at_ l 0).fLo) && decide ((at_ l 0).fHi<=1000000000)
 | j+1=>decide ((at_ l (j+1)).fLo<=(at_ l (j+1)).fHi) && decide (-1000000000<=(at_ l (j+1)).fLo) && decide ((at_ l (j+1)).fHi<=1000000000) && decide ((at_ l j).fHi+2<=(at_ l (j+1)).fLo)
def JO{l:List ed}{j:Nat}(h:sy l j=true):(at_ l j).fLo<=(at_ l j).fHi/\-1000000000<=(at_ l j).fLo/\(at_ l j).fHi<=1000000000:=by cases j<;>simp[sy]at h<;>omega
def rg0(l:List ed):sy l 0=true↔(at_ l 0).fLo<=(at_ l 0).fHi/\-1000000000<=(at_ l 0).fLo/\(at_ l 0).fHi<=1000000000:=by simp[sy,and_assoc]
def rgS(l:List ed)(j:Nat):sy l (j+1)=true↔(at_ l (j+1)).fLo<=(at_ l (j+1)).fHi/\-1000000000<=(at_ l (j+1)).fLo/\(at_ l (j+1)).fHi<=1000000000/\(at_ l j).fHi+2<=(at_ l (j+1)).fLo:=by simp[sy,and_assoc]
def iz(l:List ed):Bool:=cz (sy l) l.length && decide (l.length<=6)
def pP{l:List ed}{j:Nat}(hj:j<l.length)(h:sy l j=false):iz l=false:=by rw[iz,cV hj h];rfl
def ou{l:List ed}{k:Nat}(h:cz (sy l) k=true)(e:k=l.length):iz l=decide ((l.length:Int)<=6):=by subst e;rw[iz,h,Bool.true_and];exact decide_eq_decide.2 Yt
def cont(l:List Str)(s:Str):Bool:=decide (0<=idx (λx=>x == s) l)
def cE(l:List Str):Bool:=cz (λj=>!cont (l.take j) (at_ l j)) l.length
def j7(l:List bR)(n:Str):Int:=idx (λx=>x.ae == n) l
def names(l:List Str):Bool:=cz (λj=>isName (at_ l j)) l.length
end Go.Dt
namespace Go.Proofs
open Go.Ab Go.Dt
set_option maxHeartbeats 1000000
instance(L:gaa)(n:Int):Ctr L prog 282 [] [.aa n] (.ac (decide (-1000000000<=n) && decide (n<=1000000000))) [] True:=by
 refine Ctr.bd func282 ntmps282 λhp=>?_
 all_goals exact uU
instance(L:gaa)[hL:Lok L](l:List ed):Ctr L prog 224 [] [.ab 2 aW l] (.ac (iz l)) [] True:=by
 refine Ctr.bd func224 ntmps224 λhp=>?_;refine AW.f0 0 λhf=>?_;have hf:=Nat.le_trans hf (hL.le 2);refine vU1 ?_;refine AW.aw [3] [0] (λm xs o=>∃k:Nat,xs=[.aa k]/\o=[]/\m=l.length - k/\k<=l.length/\cz (sy l) k=true) l.length [] trivial ⟨0,?_,rfl,rfl,?_,rfl⟩ ?_
 ·rfl
 ·omega
 rintro m xs o ⟨k,rfl,rfl,rfl,hk,hR⟩;rcases k with _|k
 ·(refine vU3 ?_ ?_ ?_<;>with_reducible repeat intro h)
  ·rw[pP baa (Bool.eq_false_iff.2 λhc=>by have:=(rg0 l).1 hc;omega)]
  ·exact⟨_,[_],[],Yt,⟨0+1,rfl,rfl,rfl,Yt,cy hR ((rg0 l).2 Yt)⟩,rfl,trivial⟩
  ·rw[ou hR Yt]
 ·have hh:=JO (o5 hR (Nat.lt_succ_self k))
  (refine vU3 ?_ ?_ ?_<;>with_reducible repeat intro h)
  ·rw[pP baa (Bool.eq_false_iff.2 λhc=>by have:=(rgS l k).1 hc;omega)]
  ·exact⟨_,[_],[],Yt,⟨k+1+1,rfl,rfl,rfl,Yt,cy hR ((rgS l k).2 Yt)⟩,rfl,trivial⟩
  ·rw[ou hR Yt]
instance(L:gaa)[hL:Lok L](l:List ed):Ctr L prog 240 [] [.ab 2 aW l] (.ac (iz l)) [] True:=by
 refine Ctr.bd func240 ntmps240 λhp=>?_;refine AW.f0 0 λhf=>?_;have hf:=Nat.le_trans hf (hL.le 2);refine vU1 ?_;refine AW.aw [7] [0,5,6] (λm xs o=>∃k:Nat,xs=[.aa k]/\o=[]/\m=l.length - k/\k<=l.length/\cz (sy l) k=true) l.length [] trivial ⟨0,?_,rfl,rfl,?_,rfl⟩ ?_
 ·rfl
 ·omega
 rintro m xs o ⟨k,rfl,rfl,rfl,hk,hR⟩;rcases k with _|k
 ·(refine vU3 ?_ ?_ ?_<;>with_reducible repeat intro h)
  ·rw[pP baa (Bool.eq_false_iff.2 λhc=>by have:=(rg0 l).1 hc;omega)]
  ·exact⟨_,[_],[],Yt,⟨0+1,rfl,rfl,rfl,Yt,cy hR ((rg0 l).2 Yt)⟩,rfl,trivial⟩
  ·rw[ou hR Yt]
 ·have hh:=JO (o5 hR (Nat.lt_succ_self k))
  (refine vU3 ?_ ?_ ?_<;>with_reducible repeat intro h)
  ·rw[pP baa (Bool.eq_false_iff.2 λhc=>by have:=(rgS l k).1 hc;omega)]
  ·exact⟨_,[_],[],Yt,⟨k+1+1,rfl,rfl,rfl,Yt,cy hR ((rgS l k).2 Yt)⟩,rfl,trivial⟩
  ·rw[ou hR Yt]
section
instance(L:gaa)[hL:Lok L](l:List Str)(n:Str):Ctr L prog 148 [] [.al l,.str n] (.aa (idx (λx=>x == n) l)) [] True:=by
 refine Ctr.bd func148 ntmps148 λhp=>?_;refine AW.f0 0 λhf=>?_;have hf:=Nat.le_trans hf (hL.le 1);refine vU1 ?_;refine AW.aw [8] [0,1,6,7] (λm xs o=>∃k:Nat,xs=[.aa k]/\o=[]/\m=l.length - k/\k<=l.length/\∀x∈l.take k,(λx:Str=>x == n) x=false) l.length [] trivial ⟨0,?_,rfl,rfl,?_,?_⟩ ?_
 ·rfl
 ·omega
 ·simp
 rintro m xs o ⟨k,rfl,rfl,rfl,hk,hR⟩
 (refine vU3 ?_ ?_ ?_<;>with_reducible repeat intro h)
 ·rw[gR baa hR (by simpa using eq_comm.1 h)]
 ·exact⟨_,[_],[],Yt,⟨k+1,rfl,rfl,rfl,Yt,bV baa hR (by simpa using λe=>h (Eq.symm e))⟩,rfl,trivial⟩
 ·rw[jr h hR]
instance(L:gaa)[hL:Lok L](l:List bR)(n:Str):Ctr L prog 109 [] [.ab 6 bB l,.str n] (.aa (j7 l n)) [] True:=by
 refine Ctr.bd func109 ntmps109 λhp=>?_;refine AW.f0 0 λhf=>?_;have hf:=Nat.le_trans hf (hL.le 6);refine vU1 ?_;refine AW.aw [5] [0,1] (λm xs o=>∃k:Nat,xs=[.aa k]/\o=[]/\m=l.length - k/\k<=l.length/\∀x∈l.take k,(λx:bR=>x.ae == n) x=false) l.length [] trivial ⟨0,?_,rfl,rfl,?_,?_⟩ ?_
 ·rfl
 ·omega
 ·simp
 rintro m xs o ⟨k,rfl,rfl,rfl,hk,hR⟩
 (refine vU3 ?_ ?_ ?_<;>with_reducible repeat intro h)
 ·rw[j7,gR baa hR (by simpa using h)]
 ·exact⟨_,[_],[],Yt,⟨k+1,rfl,rfl,rfl,Yt,bV baa hR (by simpa using h)⟩,rfl,trivial⟩
 ·rw[j7,jr h hR]
instance(L:gaa)[hL:Lok L](l:List Str)(n:Str):Ctr L prog 90 [] [.al l,.str n] (.ac (cont l n)) [] True:=by refine Ctr.bd func90 ntmps90 λhp=>?_;refine vU1 ?_;rfl
instance(L:gaa)[hL:Lok L](l:List Str):Ctr L prog 144 [] [.al l] (.ac (cE l)) [] True:=by
 refine Ctr.bd func144 ntmps144 λhp=>?_;refine AW.f0 0 λhf=>?_;have hf:=Nat.le_trans hf (hL.le 1);refine vU1 ?_;refine AW.aw [6] [0,4,5] (λm xs o=>∃k:Nat,xs=[.aa k]/\o=[]/\m=l.length - k/\k<=l.length/\cz (λj=>!cont (l.take j) (at_ l j)) k=true) l.length [] trivial ⟨0,?_,rfl,rfl,?_,rfl⟩ ?_
 ·rfl
 ·omega
 rintro m xs o ⟨k,rfl,rfl,rfl,hk,hR⟩
 (repeat' first|(with_reducible first|refine Z ?_|refine Y ?_|(refine hK _ _ ?_;clear hK K)|refine And.intro ?_ ?_|exact Ct|intro(K:_->_->Prop) hK|(refine gI λhg=>?_;try simp only[hC,reduceCtorEq]at hg;try simp only[hg]))|(refine AW.i rfl (λh=>?_) (λh=>?_)<;>try simp only[hC,reduceCtorEq]at h)|((with_reducible refine E ?_;repeat refine Y ?_);refine eF rfl ?_)|simp(disch:=omega)only[go_sem,<- map_take,Int.toNat_zero,drop_zero]|(with_reducible intro hg;try simp only[hC,reduceCtorEq]at hg)|exact Cl|fail)
 ·rw[cE,cV baa (by simp[h])]
 ·exact⟨_,[_],[],Yt,⟨k+1,rfl,rfl,rfl,Yt,cy hR (by simp[h])⟩,rfl,trivial⟩
 ·rw[show k=l.length by omega]at hR;rw[cE,hR]
instance(L:gaa)[hL:Lok L](l:List Str):Ctr L prog 146 [] [.al l] (.ac (names l)) [] True:=by
 refine Ctr.bd func146 ntmps146 λhp=>?_;refine AW.f0 0 λhf=>?_;have hf:=Nat.le_trans hf (hL.le 1);refine vU1 ?_;refine AW.aw [7] [0,5,6] (λm xs o=>∃k:Nat,xs=[.aa k]/\o=[]/\m=l.length - k/\k<=l.length/\cz (λj=>isName (at_ l j)) k=true) l.length [] trivial ⟨0,?_,rfl,rfl,?_,rfl⟩ ?_
 ·rfl
 ·omega
 rintro m xs o ⟨k,rfl,rfl,rfl,hk,hR⟩
 (refine vU3 ?_ ?_ ?_<;>with_reducible repeat intro h)
 ·rw[names,cV baa (by simp[h])]
 ·exact⟨_,[_],[],Yt,⟨k+1,rfl,rfl,rfl,Yt,cy hR (by simp[h])⟩,rfl,trivial⟩
 ·rw[show k=l.length by omega]at hR;rw[names,hR]
