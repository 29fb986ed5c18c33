/- Part of a proof. -/
import Derived.Test.YtbiikafnjialjaaGreatDoorS5
import Derived.Test.YtbiikafnjialjaaGreatDoorS6
set_option linter.all false
set_option maxRecDepth 20000
set_option maxHeartbeats 4000000
open Go.Proofs.Tryz
open List
namespace Go.Proofs
open Go.Ab Go.Dt
instance(L:gaa)(x a b:Int):Ctr L prog 223 [] [.aa x,.aa a,.aa b] (.ac (decide (a<=x) && decide (x<=b))) [] True:=by
 refine Ctr.bd func223 ntmps223 λhp=>?_
 all_goals exact uU
instance(L:gaa)(n:Int):Ctr L prog 274 [] [.v (.int .u8 n)] (.ac (ltI n)) [] (0<=n/\n<=255):=by
 refine Ctr.bd func274 ntmps274 λhp=>?_
 (repeat' first|(with_reducible first|refine Z ?_|refine Y ?_|(refine hK _ _ ?_;clear hK K)|refine And.intro ?_ ?_|exact Ct|intro(K:_->_->Prop) hK|(refine gI λhg=>?_;try simp only[hC,reduceCtorEq]at hg;try simp only[hg]))|(refine AW.i rfl (λh=>?_) (λh=>?_)<;>try simp only[hC,reduceCtorEq]at h)|((with_reducible refine E ?_;repeat refine Y ?_);refine eF rfl ?_)|simp(disch:=omega)only[go_sem,ltI]|(with_reducible intro hg;try simp only[hC,reduceCtorEq]at hg)|exact Cl|fail)
instance(L:gaa)(n:Int):Ctr L prog 275 [] [.v (.int .u8 n)] (.ac (om n)) [] (0<=n/\n<=255):=by
 refine Ctr.bd func275 ntmps275 λhp=>?_
 (repeat' first|(with_reducible first|refine Z ?_|refine Y ?_|(refine hK _ _ ?_;clear hK K)|refine And.intro ?_ ?_|exact Ct|intro(K:_->_->Prop) hK|(refine gI λhg=>?_;try simp only[hC,reduceCtorEq]at hg;try simp only[hg]))|(refine AW.i rfl (λh=>?_) (λh=>?_)<;>try simp only[hC,reduceCtorEq]at h)|((with_reducible refine E ?_;repeat refine Y ?_);refine eF rfl ?_)|simp(disch:=omega)only[go_sem,om]|(with_reducible intro hg;try simp only[hC,reduceCtorEq]at hg)|exact Cl|fail)
instance(L:gaa)(s:List UInt8)(k:Int):Ctr L prog 231 [] [.str s,.aa k] (.aa (dG s k.toNat)) [] (0<=k/\k<=s.length):=by
 refine Ctr.bd func231 ntmps231 λhp=>?_
 obtain⟨k,rfl⟩:∃k':Nat,k=k':=⟨k.toNat,Um⟩
 refine AW.fact 0 λhf=>?_;simp only[go_sem,Nat.reduceBEq]at hf
 (refine vU2 ?_ ?_<;>intro h)
 ·rw[dG,if_neg];rcases h with h|h
  ·simp;omega
  ·simp[h]
 ·refine AW.aw [5] [0] (λm xs o=>∃j:Nat,xs=[.aa j]/\o=[]/\m=s.length - j/\j<=s.length/\j+((s.drop j).takeWhile nmU).length=dG s k) (s.length - k) [] trivial ⟨k,rfl,rfl,rfl,?_,?_⟩ ?_
  ·omega
  ·rw[dG,if_pos (by simp[h.2];omega)]
  rintro m xs o ⟨j,rfl,rfl,rfl,hj,hR⟩
  (refine vU2 ?_ ?_<;>intro h)
  ·rw[nO h.1 (by simpa[nmI]using h.2)]at hR;exact⟨_,[_],[],Um,⟨j+1,rfl,rfl,rfl,Um,Um⟩,rfl,trivial⟩
  ·rw[J6 (by simpa[nmI]using h)]at hR;simp at hR;rw[hR]
instance(s:List UInt8):Ctr lim prog 227 [] [.str s] (.tup [.am (nmL (tk s)),.ac (tk s).2]) [] (s.length<=1048576):=by
 refine Ctr.bd func227 ntmps227 λhp=>?_;refine vU1 ?_;refine AW.aw [4,5] [0] (λm xs o=>∃(k:Nat) (d:List Tok),xs=[.am (eJ d),.aa k]/\o=[]/\m=s.length - k/\k<=s.length/\(eJ d).length<=k/\jn s k d) s.length [] trivial ⟨0,[],?_,rfl,rfl,?_,?_,sx s⟩ ?_
 ·rfl
 ·omega
 ·simp[eJ]
 rintro m xs o ⟨k,d,rfl,rfl,rfl,hk,ha,hR⟩;have he:=qM s (k+1)
 (refine vU5 ?_ ?_ ?_ ?_ ?_<;>with_reducible repeat intro h)
 ·exact⟨_,[_,_],[],Um,⟨k+1,d++[_],by simp[eU,eJ],rfl,rfl,Um,by simp[eU,eJ];omega,hR.next (uS baa h)⟩,rfl,trivial⟩
 ·exact⟨_,[_,_],[],Um,⟨k+1+1,d++[_],by simp[eU,eJ],rfl,rfl,Um,by simp[eU,eJ];omega,hR.next (AK h.1 baa h.2)⟩,rfl,trivial⟩
 ·rw[hR.bad (tV baa baa baa (BA Um))];rfl
 ·refine⟨_,[_,_],[],?_,⟨dG s (k+1),d++[.inr ((s.take (dG s (k+1))).drop (k+1))],rfl,rfl,rfl,Um,by simp[eU,eJ];omega,hR.next (tT baa baa baa Um)⟩,?_,trivial⟩
  ·omega
  ·rw[Nat.sub_add_cancel Um];simp[eU,eJ]
 ·rw[hR.fin h];rfl
instance(L:gaa)(n:Int):Ctr L prog 210 [] [.v (.int .u8 n)] (.ac (ltI n)) [] True:=by
 refine Ctr.bd func210 ntmps210 λhp=>?_
 (repeat' first|(with_reducible first|refine Z ?_|refine Y ?_|(refine hK _ _ ?_;clear hK K)|refine And.intro ?_ ?_|exact Ct|intro(K:_->_->Prop) hK|(refine gI λhg=>?_;try simp only[hC,reduceCtorEq]at hg;try simp only[hg]))|(refine AW.i rfl (λh=>?_) (λh=>?_)<;>try simp only[hC,reduceCtorEq]at h)|((with_reducible refine E ?_;repeat refine Y ?_);refine eF rfl ?_)|simp(disch:=omega)only[go_sem,ltI]|(with_reducible intro hg;try simp only[hC,reduceCtorEq]at hg)|exact Cl|fail)
instance(L:gaa)(n:Int):Ctr L prog 267 [] [.v (.int .u8 n)] (.ac (om n)) [] True:=by
 refine Ctr.bd func267 ntmps267 λhp=>?_
 (repeat' first|(with_reducible first|refine Z ?_|refine Y ?_|(refine hK _ _ ?_;clear hK K)|refine And.intro ?_ ?_|exact Ct|intro(K:_->_->Prop) hK|(refine gI λhg=>?_;try simp only[hC,reduceCtorEq]at hg;try simp only[hg]))|(refine AW.i rfl (λh=>?_) (λh=>?_)<;>try simp only[hC,reduceCtorEq]at h)|((with_reducible refine E ?_;repeat refine Y ?_);refine eF rfl ?_)|simp(disch:=omega)only[go_sem,om]|(with_reducible intro hg;try simp only[hC,reduceCtorEq]at hg)|exact Cl|fail)
instance(L:gaa)(n:Int):Ctr L prog 211 [] [.v (.int .u8 n)] (.ac (nmI n)) [] True:=by
 refine Ctr.bd func211 ntmps211 λhp=>?_
 (repeat' first|(with_reducible first|refine Z ?_|refine Y ?_|(refine hK _ _ ?_;clear hK K)|refine And.intro ?_ ?_|exact Ct|intro(K:_->_->Prop) hK|(refine gI λhg=>?_;try simp only[hC,reduceCtorEq]at hg;try simp only[hg]))|(refine AW.i rfl (λh=>?_) (λh=>?_)<;>try simp only[hC,reduceCtorEq]at h)|((with_reducible refine E ?_;repeat refine Y ?_);refine eF rfl ?_)|simp(disch:=omega)only[go_sem,nmI]|(with_reducible intro hg;try simp only[hC,reduceCtorEq]at hg)|exact Cl|fail)
instance(L:gaa)(n:Int):Ctr L prog 283 [] [.v (.int .u8 n)] (.tup []) [] True:=by
 refine Ctr.bd func283 ntmps283 λhp=>?_
 all_goals exact uU
instance(b:Nat)(n:Str)(l:List Str):Ctr lim prog 284 [(b,some [.am l])] [.str n,.ptr b 0] (.tup []) [some [.am (l++[n])]] (l.length<=1048576):=by refine Ctr.bd func284 ntmps284 λhp=>?_;refine vU1 ?_;simp
instance(b:Nat)(s:Str):Ctr lim prog 248 [(b,some [.sl true 1 []])] [.str s,.v (.func (.func 283) #[] #[]),.fn 284 [.ptr b 0]] (.ac (tk s).2) [some [.am (eJ (tk s).1)]] (s.length<=1048576):=by
 refine Ctr.bd func248 ntmps248 λhp=>?_;refine vU1 ?_;refine AW.aw [7] [0,1,2] (λm xs o=>∃(k:Nat) (d:List Tok),xs=[.aa k]/\o=[(b,some [.am (eJ d)])]/\m=s.length - k/\k<=s.length/\(eJ d).length<=k/\jn s k d) s.length [(b,some [.sl true 1 []])] ⟨eM _ _ _,trivial⟩ ⟨0,[],?_,rfl,rfl,?_,?_,sx s⟩ ?_
 ·rfl
 ·omega
 ·simp[eJ]
 rintro m xs o ⟨k,d,rfl,rfl,rfl,hk,ha,hR⟩
 (refine vU ?_;with_reducible repeat' first|exact Le.l|apply Sw|intro h)
 ·exact⟨_,[_],_,Um,⟨k+1,d++[_],rfl,rfl,rfl,Um,by simp[eU,eJ];omega,hR.next (uS baa h)⟩,rfl,aE (by simp[eU,eJ])⟩
 ·exact⟨_,[_],_,Um,⟨k+1+1,d++[_],rfl,rfl,rfl,Um,by simp[eU,eJ];omega,hR.next (AK h.1 baa h.2)⟩,rfl,aE (by simp[eU,eJ])⟩
 ·have hne:dG s (k+1)=k+1+1+((s.drop (k+1+1)).takeWhile nmU).length:=by rw[dG,if_pos (by simp only[h.2,Bool.and_true,decide_eq_true_eq];omega),nO h.1 (mP h.2)];omega
  have hle:=qM s (k+1) Um;refine AW.aw [7] [0,1,2,8] (λm xs o=>∃j:Nat,xs=[.aa j]/\o=[(b,some [.am (eJ d)])]/\m=s.length - j/\k+1<=j/\j<=s.length/\j+((s.drop j).takeWhile nmU).length=dG s (k+1)) (s.length - (k+1)) [(b,some [.am (eJ d)])] ⟨eM _ _ _,trivial⟩ ⟨k+1,?_,rfl,rfl,?_,?_,?_⟩ ?_
  ·rfl
  ·omega
  ·omega
  ·rw[nO h.1 (mP h.2)];omega
  have h3:dG s (k+1)≠k+1:=by omega
  rintro m xs o ⟨j,rfl,rfl,rfl,hj0,hj,hQ⟩
  (refine vU2 ?_ ?_<;>intro h)
  ·rw[nO h.1 h.2]at hQ;exact⟨_,[_],_,Um,⟨j+1,rfl,rfl,rfl,Um,Um,Um⟩,rfl,aE rfl⟩
  ·rw[J6 h]at hQ;have hj:j=dG s (k+1):=by simpa using hQ
   subst hj;exact⟨_,[_],_,Um,⟨_,d++[_],rfl,rfl,rfl,Um,by simp[eU,eJ];omega,hR.next (tT baa baa baa h3)⟩,rfl,aE (by simp[eU,eJ])⟩
 ·rw[hR.bad (tV baa baa baa h)]
 ·rw[hR.bad (tV baa baa baa h)]
 ·rw[hR.fin h]
 ·rw[hR.fin h]
instance(s:Str):Ctr lim prog 244 [] [.str s] (.tup [.am (nmL (tk s)),.ac (tk s).2]) [] (s.length<=1048576):=by
 refine Ctr.bd func244 ntmps244 λhp=>?_
 (refine vU2 ?_ ?_<;>with_reducible repeat intro h)
 all_goals simp[nmL,h]
end Go.Proofs
namespace Go.Dt
def idx{α:Type}(p:α->Bool):List α->Int
 | []=>-1
 | x::xs=>if p x then 0 else if idx p xs<0 then -1 else idx p xs+1
def p8{α:Type}(p:α->Bool):∀l:List α,-1<=idx p l
 | []=>by simp[idx]
 | x::xs=>by
  have:=p8 p xs;simp only[idx];split
  ·omega
  ·split<;>omega
def GG{α:Type}{p:α->Bool}:∀ {l:List α},(∀x∈l,p x=false)->idx p l = -1
 | [],_=>rfl
 | x::xs,h=>by
  have h1:=h x Xp
  have h2:=GG (l:=xs) λy hy=>h y (by simp[hy]);simp[idx,h1,h2]
def Nn{α:Type}{p:α->Bool}:∀ {l:List α} {k:Nat} (hk:k<l.length),(∀x∈l.take k,p x=false)->p l[k]=true->idx p l=k
 | x::xs,0,_,_,h=>by
  have:p x=true:=by simpa using h
  simp[idx,this]
 | x::xs,k+1,hk,h,e=>by
  have h1:=h x Xp
  have h2:=Nn (l:=xs) (k:=k) (by simpa using hk) (λy hy=>h y (by simp[hy])) (by simpa using e);simp only[idx,h1,h2];simp;omega
def LI{α:Type}{p:α->Bool}{l:List α}{k:Nat}(hk:k<l.length)(h:∀x∈l.take k,p x=false)(e:p l[k]=false):∀x∈l.take (k+1),p x=false:=by
 intro x hx;rw[take_succ_eq_append_getElem hk,mem_append]at hx;rcases hx with hx|hx
 ·exact h x hx
 ·simp at hx;rw[hx];exact e
open Go.Ab
theorem gD{α:Type}[Inhabited α]{p:α->Bool}{l:List α}{k:Nat}(hk:k<l.length)(h:∀x∈l.take k,p x=false)(e:p (at_ l k)=true):idx p l=k:=by
 refine Nn hk h ?_;have:l[k]=at_ l k:=by unfold at_;rw[getElem?_eq_getElem hk];rfl
 rw[this];exact e
theorem bL{α:Type}[Inhabited α]{p:α->Bool}{l:List α}{k:Nat}(hk:k<l.length)(h:∀x∈l.take k,p x=false)(e:p (at_ l k)=false):∀x∈l.take (k+1),p x=false:=by
 refine LI hk h ?_;have:l[k]=at_ l k:=by unfold at_;rw[getElem?_eq_getElem hk];rfl
 rw[this];exact e
def jh{α:Type}{p:α->Bool}{l:List α}{k:Nat}(hk:¬k<l.length)(h:∀x∈l.take k,p x=false):idx p l = -1 :=
 GG (by rw[take_of_length_le Um]at h;exact h)
def fV{α:Type}{p:α->Bool}:∀(l:List α),idx p l<l.length
 | []=>by simp[idx]
 | x::xs=>by
  have:=fV (p:=p) xs;simp only[idx,length_cons];split
  ·omega
  ·split<;>omega
def il(n:Str)(a:cu):Bool:=a.ae == n
def nj(l:List cu)(n:Str):Option Str:=if idx (il n) l<0 then none else some (at_ l (idx (il n) l).toNat).aq
def iZ(l:List cu):List Tok->Str
 | []=>[]
 | .inl c::t=>c::iZ l t
 | .inr n::t=>(nj l n).getD []++iZ l t
def kI(l:List cu):List Tok->Bool
 | []=>true
 | .inl _::t=>kI l t
 | .inr n::t=>(nj l n).isSome && kI l t
def mM(l:List cu):∀a b:List Tok,iZ l (a++b)=iZ l a++iZ l b
 | [],_=>rfl
 | .inl _::a,b=>by simp[iZ,mM l a b]
 | .inr _::a,b=>by simp[iZ,mM l a b]
def mi(l:List cu):∀a b:List Tok,kI l (a++b)=(kI l a && kI l b)
 | [],_=>by simp[kI]
 | .inl _::a,b=>by simp[kI,mi l a b]
 | .inr _::a,b=>by simp[kI,mi l a b,Bool.and_assoc]
def eO(l:List cu):Prop:=∀a∈l,a.aq.length<=1048576
def Dr{l:List cu}(h:eO l)(n:Str):((nj l n).getD []).length<=1048576:=by
 unfold nj;split
 ·simp
 ·rename_i hn;have:=fV (p:=il n) l;exact h _ (at_mem Um)
def pz{l:List cu}(h:eO l):∀t:List Tok,(iZ l t).length<=t.length * 1048576
 | []=>by simp[iZ]
 | .inl c::t=>by simp only[iZ,length_cons];have:=pz h t;omega
 | .inr n::t=>by
  simp only[iZ,length_cons,length_append];have:=pz h t
  have:=Dr h n;omega
def AL(s:Str):(tk s).1.length<=s.length:=by
 induction h:s.length using Nat.strongRecOn generalizing s with
 | _ n ih =>
  cases s with
  | nil=>rw[LH];simp
  | cons c r =>
   simp only[length_cons]at h;rw[tU];split
   ·cases r with
    | nil=>simp
    | cons d r' =>
     simp only[length_cons]at h ⊢;split
     ·have:=ih r'.length Um r' rfl;simp only[lH,length_cons];omega
     ·split
      ·have h1:=(dropWhile_suffix (p:=nmU) (l:=r')).length_le
       have:=ih (r'.dropWhile nmU).length Um _ rfl;simp only[lH,length_cons];omega
      ·simp
   ·have:=ih r.length Um r rfl;simp only[lH,length_cons];omega
def HK(s:Str)(k:Nat):UInt8.ofNat (at8 s k).toNat=at_ s k:=by rw[pP,Int.toNat_natCast,UInt8.ofNat_toNat]
def acz{s:Str}{k:Nat}(h:k<s.length):(s.take (k+1)).drop k=[at_ s k]:=by rw[drop_take,bA h];simp
def jn.snd{s:Str}{k:Nat}{d:List Tok}(h:jn s k d):(tk s).2=(tk (s.drop k)).2:=by unfold jn at h;have:=congrArg Prod.snd h;exact this
def jn.fst{s:Str}{k:Nat}{d:List Tok}(h:jn s k d):(tk s).1=d++(tk (s.drop k)).1:=by unfold jn at h;have:=congrArg Prod.fst h;exact this
def jn.more{s:Str}{k:Nat}{d:List Tok}(h:jn s k d)(hok:(tk s).2=true)(hk:k<s.length)(h36:at8 s k=36):k+1<s.length/\(at8 s (k+1:Nat)≠36->dG s (k+1)≠k+1):=by
 rw[h.snd]at hok;constructor
 ·rcases Nat.lt_or_ge (k+1) s.length with h1|h1
  ·exact h1
  ·rw[tV hk h36 (λh=>by omega) (λh=>by omega)]at hok;cases hok
 ·intro h2 h3;rw[tV hk h36 (λ_=>h2) (BA h3)]at hok;cases hok
def flB(l:List cu)(p:List Tok×Bool):Bool:=p.2 && kI l p.1
def flS(l:List cu)(p:List Tok×Bool):Str:=bif flB l p then iZ l p.1 else []
def TA{s:Str}{k:Nat}{d:List Tok}{l:List cu}{n:Str}{j:Nat}(h:jn s k d)(e:tk (s.drop k)=lH (.inr n) (tk (s.drop j)))(hn:idx (il n) l<0):flB l (tk s)=false:=by unfold flB;rw[h.fst,e,mi];simp[lH,kI,nj,hn]
def Tz{s:Str}{k:Nat}{d:List Tok}{l:List cu}(h:jn s k d)(hk:k<=s.length)(he:k<s.length->(tk s).2=false)(hall:kI l d=true)(hd:(tk s).2=false->d=[]):iZ l d=flS l (tk s)/\(tk s).2=flB l (tk s):=by
 by_cases hlt:k<s.length
 ·have h1:=he hlt;rw[hd h1];simp[flS,flB,h1,iZ]
 ·have:=h.fin hlt;simp[flS,flB,this,hall]
