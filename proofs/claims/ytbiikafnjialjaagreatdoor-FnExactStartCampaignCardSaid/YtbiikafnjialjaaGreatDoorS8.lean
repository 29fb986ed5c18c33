/- Part of a proof. -/
import Derived.Test.YtbiikafnjialjaaGreatDoorS7
set_option linter.all false
set_option maxRecDepth 20000
set_option maxHeartbeats 4000000
open Go.Proofs.Tryz
open List
namespace Go.Dt
open Go.Ab
def cg(p:Nat->Bool):Nat->Bool
 | 0=>true
 | k+1=>cg p k && p k
def cM{p:Nat->Bool}:∀ {n j:Nat},j<n->p j=false->cg p n=false
 | 0,_,h,_=>by omega
 | n+1,j,h,e=>by
  simp only[cg];by_cases hj:j=n
  ·subst hj;simp[e]
  ·rw[cM (n:=n) Um e];rfl
def cf{p:Nat->Bool}{k:Nat}(h:cg p k=true)(e:p k=true):cg p (k+1)=true:=by simp[cg,h,e]
def oO{p:Nat->Bool}:∀ {n j:Nat},cg p n=true->j<n->p j=true
 | 0,_,_,h=>by omega
 | n+1,j,h,hj=>by
  simp only[cg,Bool.and_eq_true]at h;by_cases e:j=n
  ·subst e;exact h.2
  ·exact oO h.1 Um
theorem qU{α:Type}[Inhabited α](q:α->Bool)(l:List α):cg (λj=>q (at_ l j)) l.length=l.all q:=by
 have key:∀n,n<=l.length->cg (λj=>q (at_ l j)) n=(l.take n).all q:=by
  intro n
  induction n with
  | zero=>intro _;simp[cg]
  | succ n ih =>
   intro h;rw[cg,ih Um]
   have:l.take (n+1)=l.take n++[at_ l n]:=by
    rw[take_succ_eq_append_getElem Um];unfold at_;rw[getElem?_eq_getElem Um];rfl
   rw[this];simp
 have:=key l.length (Nat.le_refl _)
 rwa [take_length]at this
def gf{α:Type}{f:α->Int->Int}{l:List α}{r:Int}(h:r - l.length<0):aJ f l r = -1:=by unfold aJ thn;rw[if_pos h]
def gF{α:Type}{f:α->Int->Int}{l:List α}{r:Int}(h:0<=r - l.length):aJ f l r=eS f l (r - l.length):=by unfold aJ thn;rw[if_neg Um]
theorem fF{α:Type}[Inhabited α]{f:α->Int->Int}{l:List α}{k:Nat}{r:Int}(h:k<l.length):eS f (l.drop k) r=if f (at_ l k) r<0 then -1 else eS f (l.drop (k+1)) (f (at_ l k) r):=by rw[bA h,eS,thn]
def jA{α:Type}{f:α->Int->Int}{l:List α}{k:Nat}{r:Int}(h:¬k<l.length):eS f (l.drop k) r=r:=by rw[drop_eq_nil_of_le Um,eS]
def Vf(n:Nat):iF n=140737488355328:=rfl
attribute [go_sem] Vf
class Lok(L:gaa):Prop where
 le:∀z,L z<=4611686018427387904
def Vy(z:Nat):lim z<=4611686018427387904:=by
 have:=MS (z - 1000000000);unfold lim;split
 ·omega
 ·split<;>omega
instance:Lok lim:=⟨Vy⟩
instance:Lok iF:=⟨λz=>by unfold iF;omega⟩
def chN(s:Str)(j:Nat):Bool:=ltI (at8 s j) || (!(j == 0) && nmI (at8 s j))
def isName(s:Str):Bool:=cg (chN s) s.length && (decide (1<=s.length) && decide (s.length<=16) && !(at8 s (s.length - 1:Nat) == 45))
def chT(s:Str)(j:Nat):Bool:=decide (32<=at8 s j) && decide (at8 s j<=126)
def isText(s:Str):Bool:=cg (chT s) s.length && decide (s.length<=40)
end Go.Dt
namespace Go.Proofs
open Go.Ab Go.Dt
set_option maxHeartbeats 1000000
instance(L:gaa)(s:Str):Ctr L prog 171 [] [.str s] (.ac (isText s)) [] True:=by
 refine Ctr.bd func171 ntmps171 λhp=>?_;refine AW.f0 0 λhf=>?_;refine vU1 ?_;refine AW.aw [3] [0] (λm xs o=>∃k:Nat,xs=[.aa k]/\o=[]/\m=s.length - k/\k<=s.length/\cg (chT s) k=true) s.length [] trivial ⟨0,?_,rfl,rfl,?_,rfl⟩ ?_
 ·rfl
 ·omega
 rintro m xs o ⟨k,rfl,rfl,rfl,hk,hR⟩
 (refine vU3 ?_ ?_ ?_<;>with_reducible repeat intro h)
 ·rw[isText,cM baa (by simp[chT];omega)];rfl
 ·exact⟨_,[_],[],Um,⟨k+1,rfl,rfl,rfl,Um,cf hR (by simp[chT];omega)⟩,rfl,trivial⟩
 ·rw[show k=s.length by omega]at hR;rw[isText,hR];simp;omega
instance(L:gaa)(s:Str):Ctr L prog 190 [] [.str s] (.ac (isText s)) [] True:=by
 refine Ctr.bd func190 ntmps190 λhp=>?_;refine AW.f0 0 λhf=>?_;refine vU1 ?_;refine AW.aw [3] [0] (λm xs o=>∃k:Nat,xs=[.aa k]/\o=[]/\m=s.length - k/\k<=s.length/\cg (chT s) k=true) s.length [] trivial ⟨0,?_,rfl,rfl,?_,rfl⟩ ?_
 ·rfl
 ·omega
 rintro m xs o ⟨k,rfl,rfl,rfl,hk,hR⟩
 (refine vU3 ?_ ?_ ?_<;>with_reducible repeat intro h)
 ·rw[isText,cM baa (by simp[chT];omega)];rfl
 ·exact⟨_,[_],[],Um,⟨k+1,rfl,rfl,rfl,Um,cf hR (by simp[chT];omega)⟩,rfl,trivial⟩
 ·rw[show k=s.length by omega]at hR;rw[isText,hR];simp;omega
instance(L:gaa)(s:Str):Ctr L prog 164 [] [.str s] (.ac (isName s)) [] True:=by
 refine Ctr.bd func164 ntmps164 λhp=>?_;refine AW.f0 0 λhf=>?_;refine vU1 ?_;refine AW.aw [3] [0] (λm xs o=>∃k:Nat,xs=[.aa k]/\o=[]/\m=s.length - k/\k<=s.length/\cg (chN s) k=true) s.length [] trivial ⟨0,?_,rfl,rfl,?_,rfl⟩ ?_
 ·rfl
 ·omega
 rintro m xs o ⟨k,rfl,rfl,rfl,hk,hR⟩
 (refine vU3 ?_ ?_ ?_<;>with_reducible repeat intro h)
 ·rw[isName,cM baa ?_];rfl;simp only[chN,nmI,ltI,om];obtain⟨h1,h2⟩:=h;have e1:(decide (97<=at8 s k) && decide (at8 s k<=122))=false:=by simp;omega
  rw[e1];rcases h2 with h2|h2
  ·have:k=0:=by omega
   simp[this]
  ·have e2:(decide (48<=at8 s k) && decide (at8 s k<=57))=false:=by simp;omega
   rw[e2];simp[h2.2]
 ·refine⟨_,[_],[],Um,⟨k+1,rfl,rfl,rfl,Um,cf hR ?_⟩,rfl,trivial⟩;simp only[chN,nmI,ltI,om]
  cases e1:(decide (97<=at8 s k) && decide (at8 s k<=122))with
  | true=>rfl
  | false =>
   simp only[Bool.and_eq_false_imp,decide_eq_true_eq,decide_eq_false_iff_not,Int.not_le]at e1;obtain⟨h1,h2⟩:=h e1;have h3:(k == 0)=false:=by simp;omega
   rw[h3]
   cases e2:(decide (48<=at8 s k) && decide (at8 s k<=57))with
   | true=>rfl
   | false =>
    simp only[Bool.and_eq_false_imp,decide_eq_true_eq,decide_eq_false_iff_not,Int.not_le]at e2;simp[h2 e2]
 ·rw[show k=s.length by omega]at hR;rw[isName,hR];by_cases h0:s.length=0
  ·simp[h0]
  ·rw[Ry Um];rw[show decide ((1:Int)<=(s.length:Int))=decide (1<=s.length)from decide_eq_decide.2 Um,show decide ((s.length:Int)<=16)=decide (s.length<=16)from decide_eq_decide.2 Um];simp only[Bool.true_and,bne]
instance(L:gaa)(s:Str):Ctr L prog 145 [] [.str s] (.ac (isName s)) [] True:=by
 refine Ctr.bd func145 ntmps145 λhp=>?_;refine AW.f0 0 λhf=>?_
 (refine vU2 ?_ ?_<;>intro h)
 ·have:isName s=false:=by
   rcases h with(h|h)|h
   ·simp[isName];intro _ _;omega
   ·simp[isName];intro _ _ _;omega
   ·by_cases h0:s.length=0
    ·simp[isName,h0]
    ·rw[isName,cM (j:=0) Um (by simp[chN,h])];rfl
  rw[this]
 refine AW.aw [3] [0] (λm xs o=>∃k:Nat,xs=[.aa k]/\o=[]/\m=s.length - k/\1<=k/\k<=s.length/\cg (chN s) k=true) (s.length - 1) [] trivial ⟨1,?_,rfl,rfl,?_,?_,?_⟩ ?_
 ·rfl
 ·omega
 ·omega
 ·simp[cg,chN,h.2]
 rintro m xs o ⟨k,rfl,rfl,rfl,hk0,hk,hR⟩
 (refine vU3 ?_ ?_ ?_<;>with_reducible repeat intro h)
 ·have h2:ltI (at8 s k)=false:=by
   simp only[nmI,Bool.or_eq_false_iff]at h;exact h.1.1
  rw[isName,cM baa (by simp[chN,h,h2])];rfl
 ·exact⟨_,[_],[],Um,⟨k+1,rfl,rfl,rfl,Um,Um,cf hR (by simp[chN,h];omega)⟩,rfl,trivial⟩
 ·rw[show k=s.length by omega]at hR;rw[isName,hR];rename_i hh;have e1:decide (1<=s.length)=true:=by simp;omega
  have e2:decide (s.length<=16)=true:=by simp;omega
  rw[e1,e2];simp[bne]
end Go.Proofs
namespace Go.Dt
open Go.Ab
def rG(l:List dV):Nat->Bool
 | 0=>decide ((at_ l 0).fLo<=(at_ l 0).fHi) && decide (-1000000000<=(at_ l 0).fLo) && decide ((at_ l 0).fHi<=1000000000)
 | j+1=>decide ((at_ l (j+1)).fLo<=(at_ l (j+1)).fHi) && decide (-1000000000<=(at_ l (j+1)).fLo) && decide ((at_ l (j+1)).fHi<=1000000000) && decide ((at_ l j).fHi+2<=(at_ l (j+1)).fLo)
def IZ{l:List dV}{j:Nat}(h:rG l j=true):(at_ l j).fLo<=(at_ l j).fHi/\-1000000000<=(at_ l j).fLo/\(at_ l j).fHi<=1000000000:=by cases j<;>simp[rG]at h<;>omega
def rg0(l:List dV):rG l 0=true↔(at_ l 0).fLo<=(at_ l 0).fHi/\-1000000000<=(at_ l 0).fLo/\(at_ l 0).fHi<=1000000000:=by simp[rG,and_assoc]
def rgS(l:List dV)(j:Nat):rG l (j+1)=true↔(at_ l (j+1)).fLo<=(at_ l (j+1)).fHi/\-1000000000<=(at_ l (j+1)).fLo/\(at_ l (j+1)).fHi<=1000000000/\(at_ l j).fHi+2<=(at_ l (j+1)).fLo:=by simp[rG,and_assoc]
def gZ(l:List dV):Bool:=cg (rG l) l.length && decide (l.length<=6)
def pd{l:List dV}{j:Nat}(hj:j<l.length)(h:rG l j=false):gZ l=false:=by rw[gZ,cM hj h];rfl
def nW{l:List dV}{k:Nat}(h:cg (rG l) k=true)(e:k=l.length):gZ l=decide ((l.length:Int)<=6):=by subst e;rw[gZ,h,Bool.true_and];exact decide_eq_decide.2 Um
def cont(l:List Str)(s:Str):Bool:=decide (0<=idx (λx=>x == s) l)
def cm(l:List Str):Bool:=cg (λj=>!cont (l.take j) (at_ l j)) l.length
def jN(l:List bH)(n:Str):Int:=idx (λx=>x.ae == n) l
def names(l:List Str):Bool:=cg (λj=>isName (at_ l j)) l.length
end Go.Dt
namespace Go.Proofs
open Go.Ab Go.Dt
set_option maxHeartbeats 1000000
instance(L:gaa)(n:Int):Ctr L prog 282 [] [.aa n] (.ac (decide (-1000000000<=n) && decide (n<=1000000000))) [] True:=by
 refine Ctr.bd func282 ntmps282 λhp=>?_
 all_goals exact uU
instance(L:gaa)[hL:Lok L](l:List dV):Ctr L prog 224 [] [.ab 2 aU l] (.ac (gZ l)) [] True:=by
 refine Ctr.bd func224 ntmps224 λhp=>?_;refine AW.f0 0 λhf=>?_;have hf:=Nat.le_trans hf (hL.le 2);refine vU1 ?_;refine AW.aw [3] [0] (λm xs o=>∃k:Nat,xs=[.aa k]/\o=[]/\m=l.length - k/\k<=l.length/\cg (rG l) k=true) l.length [] trivial ⟨0,?_,rfl,rfl,?_,rfl⟩ ?_
 ·rfl
 ·omega
 rintro m xs o ⟨k,rfl,rfl,rfl,hk,hR⟩;rcases k with _|k
 ·(refine vU3 ?_ ?_ ?_<;>with_reducible repeat intro h)
  ·rw[pd baa (Bool.eq_false_iff.2 λhc=>by have:=(rg0 l).1 hc;omega)]
  ·exact⟨_,[_],[],Um,⟨0+1,rfl,rfl,rfl,Um,cf hR ((rg0 l).2 Um)⟩,rfl,trivial⟩
  ·rw[nW hR Um]
 ·have hh:=IZ (oO hR (Nat.lt_succ_self k))
  (refine vU3 ?_ ?_ ?_<;>with_reducible repeat intro h)
  ·rw[pd baa (Bool.eq_false_iff.2 λhc=>by have:=(rgS l k).1 hc;omega)]
  ·exact⟨_,[_],[],Um,⟨k+1+1,rfl,rfl,rfl,Um,cf hR ((rgS l k).2 Um)⟩,rfl,trivial⟩
  ·rw[nW hR Um]
instance(L:gaa)[hL:Lok L](l:List dV):Ctr L prog 240 [] [.ab 2 aU l] (.ac (gZ l)) [] True:=by
 refine Ctr.bd func240 ntmps240 λhp=>?_;refine AW.f0 0 λhf=>?_;have hf:=Nat.le_trans hf (hL.le 2);refine vU1 ?_;refine AW.aw [7] [0,5,6] (λm xs o=>∃k:Nat,xs=[.aa k]/\o=[]/\m=l.length - k/\k<=l.length/\cg (rG l) k=true) l.length [] trivial ⟨0,?_,rfl,rfl,?_,rfl⟩ ?_
 ·rfl
 ·omega
 rintro m xs o ⟨k,rfl,rfl,rfl,hk,hR⟩;rcases k with _|k
 ·(refine vU3 ?_ ?_ ?_<;>with_reducible repeat intro h)
  ·rw[pd baa (Bool.eq_false_iff.2 λhc=>by have:=(rg0 l).1 hc;omega)]
  ·exact⟨_,[_],[],Um,⟨0+1,rfl,rfl,rfl,Um,cf hR ((rg0 l).2 Um)⟩,rfl,trivial⟩
  ·rw[nW hR Um]
 ·have hh:=IZ (oO hR (Nat.lt_succ_self k))
  (refine vU3 ?_ ?_ ?_<;>with_reducible repeat intro h)
  ·rw[pd baa (Bool.eq_false_iff.2 λhc=>by have:=(rgS l k).1 hc;omega)]
  ·exact⟨_,[_],[],Um,⟨k+1+1,rfl,rfl,rfl,Um,cf hR ((rgS l k).2 Um)⟩,rfl,trivial⟩
  ·rw[nW hR Um]
section
instance(L:gaa)[hL:Lok L](l:List Str)(n:Str):Ctr L prog 148 [] [.al l,.str n] (.aa (idx (λx=>x == n) l)) [] True:=by
 refine Ctr.bd func148 ntmps148 λhp=>?_;refine AW.f0 0 λhf=>?_;have hf:=Nat.le_trans hf (hL.le 1);refine vU1 ?_;refine AW.aw [8] [0,1,6,7] (λm xs o=>∃k:Nat,xs=[.aa k]/\o=[]/\m=l.length - k/\k<=l.length/\∀x∈l.take k,(λx:Str=>x == n) x=false) l.length [] trivial ⟨0,?_,rfl,rfl,?_,?_⟩ ?_
 ·rfl
 ·omega
 ·simp
 rintro m xs o ⟨k,rfl,rfl,rfl,hk,hR⟩
 (refine vU3 ?_ ?_ ?_<;>with_reducible repeat intro h)
 ·rw[gD baa hR (by simpa using eq_comm.1 h)]
 ·exact⟨_,[_],[],Um,⟨k+1,rfl,rfl,rfl,Um,bL baa hR (by simpa using λe=>h (Eq.symm e))⟩,rfl,trivial⟩
 ·rw[jh h hR]
instance(L:gaa)[hL:Lok L](l:List bH)(n:Str):Ctr L prog 109 [] [.ab 6 bt l,.str n] (.aa (jN l n)) [] True:=by
 refine Ctr.bd func109 ntmps109 λhp=>?_;refine AW.f0 0 λhf=>?_;have hf:=Nat.le_trans hf (hL.le 6);refine vU1 ?_;refine AW.aw [5] [0,1] (λm xs o=>∃k:Nat,xs=[.aa k]/\o=[]/\m=l.length - k/\k<=l.length/\∀x∈l.take k,(λx:bH=>x.ae == n) x=false) l.length [] trivial ⟨0,?_,rfl,rfl,?_,?_⟩ ?_
 ·rfl
 ·omega
 ·simp
 rintro m xs o ⟨k,rfl,rfl,rfl,hk,hR⟩
 (refine vU3 ?_ ?_ ?_<;>with_reducible repeat intro h)
 ·rw[jN,gD baa hR (by simpa using h)]
 ·exact⟨_,[_],[],Um,⟨k+1,rfl,rfl,rfl,Um,bL baa hR (by simpa using h)⟩,rfl,trivial⟩
 ·rw[jN,jh h hR]
instance(L:gaa)[hL:Lok L](l:List Str)(n:Str):Ctr L prog 90 [] [.al l,.str n] (.ac (cont l n)) [] True:=by refine Ctr.bd func90 ntmps90 λhp=>?_;refine vU1 ?_;rfl
instance(L:gaa)[hL:Lok L](l:List Str):Ctr L prog 144 [] [.al l] (.ac (cm l)) [] True:=by
 refine Ctr.bd func144 ntmps144 λhp=>?_;refine AW.f0 0 λhf=>?_;have hf:=Nat.le_trans hf (hL.le 1);refine vU1 ?_;refine AW.aw [6] [0,4,5] (λm xs o=>∃k:Nat,xs=[.aa k]/\o=[]/\m=l.length - k/\k<=l.length/\cg (λj=>!cont (l.take j) (at_ l j)) k=true) l.length [] trivial ⟨0,?_,rfl,rfl,?_,rfl⟩ ?_
 ·rfl
 ·omega
 rintro m xs o ⟨k,rfl,rfl,rfl,hk,hR⟩
 (repeat' first|(with_reducible first|refine Z ?_|refine Y ?_|(refine hK _ _ ?_;clear hK K)|refine And.intro ?_ ?_|exact Ct|intro(K:_->_->Prop) hK|(refine gI λhg=>?_;try simp only[hC,reduceCtorEq]at hg;try simp only[hg]))|(refine AW.i rfl (λh=>?_) (λh=>?_)<;>try simp only[hC,reduceCtorEq]at h)|((with_reducible refine E ?_;repeat refine Y ?_);refine eF rfl ?_)|simp(disch:=omega)only[go_sem,<- map_take,Int.toNat_zero,drop_zero]|(with_reducible intro hg;try simp only[hC,reduceCtorEq]at hg)|exact Cl|fail)
 ·rw[cm,cM baa (by simp[h])]
 ·exact⟨_,[_],[],Um,⟨k+1,rfl,rfl,rfl,Um,cf hR (by simp[h])⟩,rfl,trivial⟩
 ·rw[show k=l.length by omega]at hR;rw[cm,hR]
instance(L:gaa)[hL:Lok L](l:List Str):Ctr L prog 146 [] [.al l] (.ac (names l)) [] True:=by
 refine Ctr.bd func146 ntmps146 λhp=>?_;refine AW.f0 0 λhf=>?_;have hf:=Nat.le_trans hf (hL.le 1);refine vU1 ?_;refine AW.aw [7] [0,5,6] (λm xs o=>∃k:Nat,xs=[.aa k]/\o=[]/\m=l.length - k/\k<=l.length/\cg (λj=>isName (at_ l j)) k=true) l.length [] trivial ⟨0,?_,rfl,rfl,?_,rfl⟩ ?_
 ·rfl
 ·omega
 rintro m xs o ⟨k,rfl,rfl,rfl,hk,hR⟩
 (refine vU3 ?_ ?_ ?_<;>with_reducible repeat intro h)
 ·rw[names,cM baa (by simp[h])]
 ·exact⟨_,[_],[],Um,⟨k+1,rfl,rfl,rfl,Um,cf hR (by simp[h])⟩,rfl,trivial⟩
 ·rw[show k=l.length by omega]at hR;rw[names,hR]
