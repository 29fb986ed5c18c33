/- Part of a proof. -/
import Derived.Test.YtbiikafnjialjaaGreatDoorQ5
import Derived.Test.YtbiikafnjialjaaGreatDoorQ6
set_option linter.all false
set_option maxRecDepth 20000
set_option maxHeartbeats 4000000
open Go.Proofs.Tryz
open List
namespace Go.Proofs
open Go.Ab Go.Dt
instance(L:gaa)(x a b:Int):Ctr L prog 223 [] [.aa x,.aa a,.aa b] (.ac (decide (a<=x) && decide (x<=b))) [] True:=by
 refine Ctr.bd func223 ntmps223 λhp=>?_
 all_goals exact uU
instance(L:gaa)(n:Int):Ctr L prog 274 [] [.v (.int .u8 n)] (.ac (ltI n)) [] (0<=n/\n<=255):=by
 refine Ctr.bd func274 ntmps274 λhp=>?_
 (repeat' first|(with_reducible first|refine Z ?_|refine Y ?_|(refine hK _ _ ?_;clear hK K)|refine And.intro ?_ ?_|exact Ct|intro(K:_->_->Prop) hK|(refine gI λhg=>?_;try simp only[hC,reduceCtorEq]at hg;try simp only[hg]))|(refine AW.i rfl (λh=>?_) (λh=>?_)<;>try simp only[hC,reduceCtorEq]at h)|((with_reducible refine E ?_;repeat refine Y ?_);refine eF rfl ?_)|simp(disch:=omega)only[go_sem,ltI]|(with_reducible intro hg;try simp only[hC,reduceCtorEq]at hg)|exact Cl|fail)
instance(L:gaa)(n:Int):Ctr L prog 275 [] [.v (.int .u8 n)] (.ac (oH n)) [] (0<=n/\n<=255):=by
 refine Ctr.bd func275 ntmps275 λhp=>?_
 (repeat' first|(with_reducible first|refine Z ?_|refine Y ?_|(refine hK _ _ ?_;clear hK K)|refine And.intro ?_ ?_|exact Ct|intro(K:_->_->Prop) hK|(refine gI λhg=>?_;try simp only[hC,reduceCtorEq]at hg;try simp only[hg]))|(refine AW.i rfl (λh=>?_) (λh=>?_)<;>try simp only[hC,reduceCtorEq]at h)|((with_reducible refine E ?_;repeat refine Y ?_);refine eF rfl ?_)|simp(disch:=omega)only[go_sem,oH]|(with_reducible intro hg;try simp only[hC,reduceCtorEq]at hg)|exact Cl|fail)
instance(L:gaa)(s:List UInt8)(k:Int):Ctr L prog 231 [] [.str s,.aa k] (.aa (dP s k.toNat)) [] (0<=k/\k<=s.length):=by
 refine Ctr.bd func231 ntmps231 λhp=>?_
 obtain⟨k,rfl⟩:∃k':Nat,k=k':=⟨k.toNat,Yt⟩
 refine AW.fact 0 λhf=>?_;simp only[go_sem,Nat.reduceBEq]at hf
 (refine vU2 ?_ ?_<;>intro h)
 ·rw[dP,if_neg];rcases h with h|h
  ·simp;omega
  ·simp[h]
 ·refine AW.aw [5] [0] (λm xs o=>∃j:Nat,xs=[.aa j]/\o=[]/\m=s.length - j/\j<=s.length/\j+((s.drop j).takeWhile nmU).length=dP s k) (s.length - k) [] trivial ⟨k,rfl,rfl,rfl,?_,?_⟩ ?_
  ·omega
  ·rw[dP,if_pos (by simp[h.2];omega)]
  rintro m xs o ⟨j,rfl,rfl,rfl,hj,hR⟩
  (refine vU2 ?_ ?_<;>intro h)
  ·rw[nY h.1 (by simpa[nmI]using h.2)]at hR;exact⟨_,[_],[],Yt,⟨j+1,rfl,rfl,rfl,Yt,Yt⟩,rfl,trivial⟩
  ·rw[KY (by simpa[nmI]using h)]at hR;simp at hR;rw[hR]
instance(s:List UInt8):Ctr lim prog 227 [] [.str s] (.tup [.am (nmL (tk s)),.ac (tk s).2]) [] (s.length<=1048576):=by
 refine Ctr.bd func227 ntmps227 λhp=>?_;refine vU1 ?_;refine AW.aw [4,5] [0] (λm xs o=>∃(k:Nat) (d:List Tok),xs=[.am (eX d),.aa k]/\o=[]/\m=s.length - k/\k<=s.length/\(eX d).length<=k/\jC s k d) s.length [] trivial ⟨0,[],?_,rfl,rfl,?_,?_,sX s⟩ ?_
 ·rfl
 ·omega
 ·simp[eX]
 rintro m xs o ⟨k,d,rfl,rfl,rfl,hk,ha,hR⟩;have he:=rz s (k+1)
 (refine vU5 ?_ ?_ ?_ ?_ ?_<;>with_reducible repeat intro h)
 ·exact⟨_,[_,_],[],Yt,⟨k+1,d++[_],by simp[fk,eX],rfl,rfl,Yt,by simp[fk,eX];omega,hR.next (vC baa h)⟩,rfl,trivial⟩
 ·exact⟨_,[_,_],[],Yt,⟨k+1+1,d++[_],by simp[fk,eX],rfl,rfl,Yt,by simp[fk,eX];omega,hR.next (Bx h.1 baa h.2)⟩,rfl,trivial⟩
 ·rw[hR.bad (uD baa baa baa (Ck Yt))];rfl
 ·refine⟨_,[_,_],[],?_,⟨dP s (k+1),d++[.inr ((s.take (dP s (k+1))).drop (k+1))],rfl,rfl,rfl,Yt,by simp[fk,eX];omega,hR.next (uB baa baa baa Yt)⟩,?_,trivial⟩
  ·omega
  ·rw[Nat.sub_add_cancel Yt];simp[fk,eX]
 ·rw[hR.fin h];rfl
instance(L:gaa)(n:Int):Ctr L prog 210 [] [.v (.int .u8 n)] (.ac (ltI n)) [] True:=by
 refine Ctr.bd func210 ntmps210 λhp=>?_
 (repeat' first|(with_reducible first|refine Z ?_|refine Y ?_|(refine hK _ _ ?_;clear hK K)|refine And.intro ?_ ?_|exact Ct|intro(K:_->_->Prop) hK|(refine gI λhg=>?_;try simp only[hC,reduceCtorEq]at hg;try simp only[hg]))|(refine AW.i rfl (λh=>?_) (λh=>?_)<;>try simp only[hC,reduceCtorEq]at h)|((with_reducible refine E ?_;repeat refine Y ?_);refine eF rfl ?_)|simp(disch:=omega)only[go_sem,ltI]|(with_reducible intro hg;try simp only[hC,reduceCtorEq]at hg)|exact Cl|fail)
instance(L:gaa)(n:Int):Ctr L prog 267 [] [.v (.int .u8 n)] (.ac (oH n)) [] True:=by
 refine Ctr.bd func267 ntmps267 λhp=>?_
 (repeat' first|(with_reducible first|refine Z ?_|refine Y ?_|(refine hK _ _ ?_;clear hK K)|refine And.intro ?_ ?_|exact Ct|intro(K:_->_->Prop) hK|(refine gI λhg=>?_;try simp only[hC,reduceCtorEq]at hg;try simp only[hg]))|(refine AW.i rfl (λh=>?_) (λh=>?_)<;>try simp only[hC,reduceCtorEq]at h)|((with_reducible refine E ?_;repeat refine Y ?_);refine eF rfl ?_)|simp(disch:=omega)only[go_sem,oH]|(with_reducible intro hg;try simp only[hC,reduceCtorEq]at hg)|exact Cl|fail)
instance(L:gaa)(n:Int):Ctr L prog 211 [] [.v (.int .u8 n)] (.ac (nmI n)) [] True:=by
 refine Ctr.bd func211 ntmps211 λhp=>?_
 (repeat' first|(with_reducible first|refine Z ?_|refine Y ?_|(refine hK _ _ ?_;clear hK K)|refine And.intro ?_ ?_|exact Ct|intro(K:_->_->Prop) hK|(refine gI λhg=>?_;try simp only[hC,reduceCtorEq]at hg;try simp only[hg]))|(refine AW.i rfl (λh=>?_) (λh=>?_)<;>try simp only[hC,reduceCtorEq]at h)|((with_reducible refine E ?_;repeat refine Y ?_);refine eF rfl ?_)|simp(disch:=omega)only[go_sem,nmI]|(with_reducible intro hg;try simp only[hC,reduceCtorEq]at hg)|exact Cl|fail)
instance(L:gaa)(n:Int):Ctr L prog 283 [] [.v (.int .u8 n)] (.tup []) [] True:=by
 refine Ctr.bd func283 ntmps283 λhp=>?_
 all_goals exact uU
instance(b:Nat)(n:Str)(l:List Str):Ctr lim prog 284 [(b,some [.am l])] [.str n,.ptr b 0] (.tup []) [some [.am (l++[n])]] (l.length<=1048576):=by refine Ctr.bd func284 ntmps284 λhp=>?_;refine vU1 ?_;simp
instance(b:Nat)(s:Str):Ctr lim prog 248 [(b,some [.sl true 1 []])] [.str s,.v (.func (.func 283) #[] #[]),.fn 284 [.ptr b 0]] (.ac (tk s).2) [some [.am (eX (tk s).1)]] (s.length<=1048576):=by
 refine Ctr.bd func248 ntmps248 λhp=>?_;refine vU1 ?_;refine AW.aw [7] [0,1,2] (λm xs o=>∃(k:Nat) (d:List Tok),xs=[.aa k]/\o=[(b,some [.am (eX d)])]/\m=s.length - k/\k<=s.length/\(eX d).length<=k/\jC s k d) s.length [(b,some [.sl true 1 []])] ⟨fj _ _ _,trivial⟩ ⟨0,[],?_,rfl,rfl,?_,?_,sX s⟩ ?_
 ·rfl
 ·omega
 ·simp[eX]
 rintro m xs o ⟨k,d,rfl,rfl,rfl,hk,ha,hR⟩
 (refine vU ?_;with_reducible repeat' first|exact Le.l|apply Sw|intro h)
 ·exact⟨_,[_],_,Yt,⟨k+1,d++[_],rfl,rfl,rfl,Yt,by simp[fk,eX];omega,hR.next (vC baa h)⟩,rfl,aF (by simp[fk,eX])⟩
 ·exact⟨_,[_],_,Yt,⟨k+1+1,d++[_],rfl,rfl,rfl,Yt,by simp[fk,eX];omega,hR.next (Bx h.1 baa h.2)⟩,rfl,aF (by simp[fk,eX])⟩
 ·have hne:dP s (k+1)=k+1+1+((s.drop (k+1+1)).takeWhile nmU).length:=by rw[dP,if_pos (by simp only[h.2,Bool.and_true,decide_eq_true_eq];omega),nY h.1 (mY h.2)];omega
  have hle:=rz s (k+1) Yt;refine AW.aw [7] [0,1,2,8] (λm xs o=>∃j:Nat,xs=[.aa j]/\o=[(b,some [.am (eX d)])]/\m=s.length - j/\k+1<=j/\j<=s.length/\j+((s.drop j).takeWhile nmU).length=dP s (k+1)) (s.length - (k+1)) [(b,some [.am (eX d)])] ⟨fj _ _ _,trivial⟩ ⟨k+1,?_,rfl,rfl,?_,?_,?_⟩ ?_
  ·rfl
  ·omega
  ·omega
  ·rw[nY h.1 (mY h.2)];omega
  have h3:dP s (k+1)≠k+1:=by omega
  rintro m xs o ⟨j,rfl,rfl,rfl,hj0,hj,hQ⟩
  (refine vU2 ?_ ?_<;>intro h)
  ·rw[nY h.1 h.2]at hQ;exact⟨_,[_],_,Yt,⟨j+1,rfl,rfl,rfl,Yt,Yt,Yt⟩,rfl,aF rfl⟩
  ·rw[KY h]at hQ;have hj:j=dP s (k+1):=by simpa using hQ
   subst hj;exact⟨_,[_],_,Yt,⟨_,d++[_],rfl,rfl,rfl,Yt,by simp[fk,eX];omega,hR.next (uB baa baa baa h3)⟩,rfl,aF (by simp[fk,eX])⟩
 ·rw[hR.bad (uD baa baa baa h)]
 ·rw[hR.bad (uD baa baa baa h)]
 ·rw[hR.fin h]
 ·rw[hR.fin h]
instance(s:Str):Ctr lim prog 244 [] [.str s] (.tup [.am (nmL (tk s)),.ac (tk s).2]) [] (s.length<=1048576):=by
 refine Ctr.bd func244 ntmps244 λhp=>?_
 (refine vU2 ?_ ?_<;>with_reducible repeat intro h)
 all_goals simp[nmL,h]
end Go.Proofs
namespace Go.Dt
def idx{α:Type}(p:α->Bool):List α->Int
 | []=>-1
 | x::xs=>if p x then 0 else if idx p xs<0 then -1 else idx p xs+1
def qv{α:Type}(p:α->Bool):∀l:List α,-1<=idx p l
 | []=>by simp[idx]
 | x::xs=>by
  have:=qv p xs;simp only[idx];split
  ·omega
  ·split<;>omega
def HE{α:Type}{p:α->Bool}:∀ {l:List α},(∀x∈l,p x=false)->idx p l = -1
 | [],_=>rfl
 | x::xs,h=>by
  have h1:=h x zH
  have h2:=HE (l:=xs) λy hy=>h y (by simp[hy]);simp[idx,h1,h2]
def Oo{α:Type}{p:α->Bool}:∀ {l:List α} {k:Nat} (hk:k<l.length),(∀x∈l.take k,p x=false)->p l[k]=true->idx p l=k
 | x::xs,0,_,_,h=>by
  have:p x=true:=by simpa using h
  simp[idx,this]
 | x::xs,k+1,hk,h,e=>by
  have h1:=h x zH
  have h2:=Oo (l:=xs) (k:=k) (by simpa using hk) (λy hy=>h y (by simp[hy])) (by simpa using e);simp only[idx,h1,h2];simp;omega
def ME{α:Type}{p:α->Bool}{l:List α}{k:Nat}(hk:k<l.length)(h:∀x∈l.take k,p x=false)(e:p l[k]=false):∀x∈l.take (k+1),p x=false:=by
 intro x hx;rw[take_succ_eq_append_getElem hk,mem_append]at hx;rcases hx with hx|hx
 ·exact h x hx
 ·simp at hx;rw[hx];exact e
open Go.Ab
theorem gR{α:Type}[Inhabited α]{p:α->Bool}{l:List α}{k:Nat}(hk:k<l.length)(h:∀x∈l.take k,p x=false)(e:p (at_ l k)=true):idx p l=k:=by
 refine Oo hk h ?_;have:l[k]=at_ l k:=by unfold at_;rw[getElem?_eq_getElem hk];rfl
 rw[this];exact e
theorem bV{α:Type}[Inhabited α]{p:α->Bool}{l:List α}{k:Nat}(hk:k<l.length)(h:∀x∈l.take k,p x=false)(e:p (at_ l k)=false):∀x∈l.take (k+1),p x=false:=by
 refine ME hk h ?_;have:l[k]=at_ l k:=by unfold at_;rw[getElem?_eq_getElem hk];rfl
 rw[this];exact e
def jr{α:Type}{p:α->Bool}{l:List α}{k:Nat}(hk:¬k<l.length)(h:∀x∈l.take k,p x=false):idx p l = -1 :=
 HE (by rw[take_of_length_le Yt]at h;exact h)
def gu{α:Type}{p:α->Bool}:∀(l:List α),idx p l<l.length
 | []=>by simp[idx]
 | x::xs=>by
  have:=gu (p:=p) xs;simp only[idx,length_cons];split
  ·omega
  ·split<;>omega
def iF(n:Str)(a:cM):Bool:=a.ae == n
def nD(l:List cM)(n:Str):Option Str:=if idx (iF n) l<0 then none else some (at_ l (idx (iF n) l).toNat).aq
def jh(l:List cM):List Tok->Str
 | []=>[]
 | .inl c::t=>c::jh l t
 | .inr n::t=>(nD l n).getD []++jh l t
def kY(l:List cM):List Tok->Bool
 | []=>true
 | .inl _::t=>kY l t
 | .inr n::t=>(nD l n).isSome && kY l t
def mV(l:List cM):∀a b:List Tok,jh l (a++b)=jh l a++jh l b
 | [],_=>rfl
 | .inl _::a,b=>by simp[jh,mV l a b]
 | .inr _::a,b=>by simp[jh,mV l a b]
def mz(l:List cM):∀a b:List Tok,kY l (a++b)=(kY l a && kY l b)
 | [],_=>by simp[kY]
 | .inl _::a,b=>by simp[kY,mz l a b]
 | .inr _::a,b=>by simp[kY,mz l a b,Bool.and_assoc]
def eD(l:List cM):Prop:=∀a∈l,a.aq.length<=1048576
def Ec{l:List cM}(h:eD l)(n:Str):((nD l n).getD []).length<=1048576:=by
 unfold nD;split
 ·simp
 ·rename_i hn;have:=gu (p:=iF n) l;exact h _ (at_mem Yt)
def pU{l:List cM}(h:eD l):∀t:List Tok,(jh l t).length<=t.length * 1048576
 | []=>by simp[jh]
 | .inl c::t=>by simp only[jh,length_cons];have:=pU h t;omega
 | .inr n::t=>by
  simp only[jh,length_cons,length_append];have:=pU h t
  have:=Ec h n;omega
def Bz(s:Str):(tk s).1.length<=s.length:=by
 induction h:s.length using Nat.strongRecOn generalizing s with
 | _ n ih =>
  cases s with
  | nil=>rw[MD];simp
  | cons c r =>
   simp only[length_cons]at h;rw[uC];split
   ·cases r with
    | nil=>simp
    | cons d r' =>
     simp only[length_cons]at h ⊢;split
     ·have:=ih r'.length Yt r' rfl;simp only[lS,length_cons];omega
     ·split
      ·have h1:=(dropWhile_suffix (p:=nmU) (l:=r')).length_le
       have:=ih (r'.dropWhile nmU).length Yt _ rfl;simp only[lS,length_cons];omega
      ·simp
   ·have:=ih r.length Yt r rfl;simp only[lS,length_cons];omega
def II(s:Str)(k:Nat):UInt8.ofNat (at8 s k).toNat=at_ s k:=by rw[qb,Int.toNat_natCast,UInt8.ofNat_toNat]
def ac8{s:Str}{k:Nat}(h:k<s.length):(s.take (k+1)).drop k=[at_ s k]:=by rw[drop_take,bT h];simp
def jC.snd{s:Str}{k:Nat}{d:List Tok}(h:jC s k d):(tk s).2=(tk (s.drop k)).2:=by unfold jC at h;have:=congrArg Prod.snd h;exact this
def jC.fst{s:Str}{k:Nat}{d:List Tok}(h:jC s k d):(tk s).1=d++(tk (s.drop k)).1:=by unfold jC at h;have:=congrArg Prod.fst h;exact this
def jC.more{s:Str}{k:Nat}{d:List Tok}(h:jC s k d)(hok:(tk s).2=true)(hk:k<s.length)(h36:at8 s k=36):k+1<s.length/\(at8 s (k+1:Nat)≠36->dP s (k+1)≠k+1):=by
 rw[h.snd]at hok;constructor
 ·rcases Nat.lt_or_ge (k+1) s.length with h1|h1
  ·exact h1
  ·rw[uD hk h36 (λh=>by omega) (λh=>by omega)]at hok;cases hok
 ·intro h2 h3;rw[uD hk h36 (λ_=>h2) (Ck h3)]at hok;cases hok
def flB(l:List cM)(p:List Tok×Bool):Bool:=p.2 && kY l p.1
def flS(l:List cM)(p:List Tok×Bool):Str:=bif flB l p then jh l p.1 else []
def Un{s:Str}{k:Nat}{d:List Tok}{l:List cM}{n:Str}{j:Nat}(h:jC s k d)(e:tk (s.drop k)=lS (.inr n) (tk (s.drop j)))(hn:idx (iF n) l<0):flB l (tk s)=false:=by unfold flB;rw[h.fst,e,mz];simp[lS,kY,nD,hn]
def Um{s:Str}{k:Nat}{d:List Tok}{l:List cM}(h:jC s k d)(hk:k<=s.length)(he:k<s.length->(tk s).2=false)(hall:kY l d=true)(hd:(tk s).2=false->d=[]):jh l d=flS l (tk s)/\(tk s).2=flB l (tk s):=by
 by_cases hlt:k<s.length
 ·have h1:=he hlt;rw[hd h1];simp[flS,flB,h1,jh]
 ·have:=h.fin hlt;simp[flS,flB,this,hall]
