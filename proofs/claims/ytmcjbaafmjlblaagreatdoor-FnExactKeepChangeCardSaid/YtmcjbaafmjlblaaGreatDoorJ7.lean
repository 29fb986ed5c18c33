/- A part. -/
import Derived.Test.YtmcjbaafmjlblaaGreatDoorJ5
import Derived.Test.YtmcjbaafmjlblaaGreatDoorJ6
set_option linter.all false
set_option maxRecDepth 20000
set_option maxHeartbeats 4000000
namespace Go.Proofs
open Go.Ab Go.Dt
instance YO(L:Nat->Nat)(x a b:Int):Ctr L Tryz.prog 192 [] [.v (.int .i64 x),.v (.int .i64 a),.v (.int .i64 b)] (.v (.bool (decide (a<=x) && decide (x<=b)))) [] True:=by
 refine Ctr.bd Tryz.func192 Tryz.ntmps192 rfl rfl fun hp=>?_
 all_goals exact uU
instance TF(L:Nat->Nat)(n:Int):Ctr L Tryz.prog 308 [] [.v (.int .u8 n)] (.v (.bool (ltI n))) [] (0<=n/\n<=255):=by
 refine Ctr.bd Tryz.func308 Tryz.ntmps308 rfl rfl fun hp=>?_
 (repeat' first|(with_reducible first|refine Z ?_|refine Y ?_|(refine hK _ _ ?_;clear hK K)|refine And.intro ?_ ?_|exact Ct|intro (K:_->_->Prop) hK|(refine gI fun hg=>?_;try simp only [hC,reduceCtorEq] at hg;try simp only [hg]))|(refine AW.i rfl (fun h=>?_) (fun h=>?_)<;>try simp only [hC,reduceCtorEq] at h)|((with_reducible refine E ?_;repeat refine Y ?_);refine eF rfl ?_)|simp (disch:=omega) only [go_sem,ltI]|(with_reducible intro hg;try simp only [hC,reduceCtorEq] at hg)|exact Cl|fail)
instance U7(L:Nat->Nat)(n:Int):Ctr L Tryz.prog 309 [] [.v (.int .u8 n)] (.v (.bool (mB n))) [] (0<=n/\n<=255):=by
 refine Ctr.bd Tryz.func309 Tryz.ntmps309 rfl rfl fun hp=>?_
 (repeat' first|(with_reducible first|refine Z ?_|refine Y ?_|(refine hK _ _ ?_;clear hK K)|refine And.intro ?_ ?_|exact Ct|intro (K:_->_->Prop) hK|(refine gI fun hg=>?_;try simp only [hC,reduceCtorEq] at hg;try simp only [hg]))|(refine AW.i rfl (fun h=>?_) (fun h=>?_)<;>try simp only [hC,reduceCtorEq] at h)|((with_reducible refine E ?_;repeat refine Y ?_);refine eF rfl ?_)|simp (disch:=omega) only [go_sem,mB]|(with_reducible intro hg;try simp only [hC,reduceCtorEq] at hg)|exact Cl|fail)
instance U8(L:Nat->Nat)(n:Int):Ctr L Tryz.prog 252 [] [.v (.int .u8 n)] (.v (.bool (ltI n))) [] True:=by
 refine Ctr.bd Tryz.func252 Tryz.ntmps252 rfl rfl fun hp=>?_
 (repeat' first|(with_reducible first|refine Z ?_|refine Y ?_|(refine hK _ _ ?_;clear hK K)|refine And.intro ?_ ?_|exact Ct|intro (K:_->_->Prop) hK|(refine gI fun hg=>?_;try simp only [hC,reduceCtorEq] at hg;try simp only [hg]))|(refine AW.i rfl (fun h=>?_) (fun h=>?_)<;>try simp only [hC,reduceCtorEq] at h)|((with_reducible refine E ?_;repeat refine Y ?_);refine eF rfl ?_)|simp (disch:=omega) only [go_sem,ltI]|(with_reducible intro hg;try simp only [hC,reduceCtorEq] at hg)|exact Cl|fail)
instance U9(L:Nat->Nat)(n:Int):Ctr L Tryz.prog 270 [] [.v (.int .u8 n)] (.v (.bool (mB n))) [] True:=by
 refine Ctr.bd Tryz.func270 Tryz.ntmps270 rfl rfl fun hp=>?_
 (repeat' first|(with_reducible first|refine Z ?_|refine Y ?_|(refine hK _ _ ?_;clear hK K)|refine And.intro ?_ ?_|exact Ct|intro (K:_->_->Prop) hK|(refine gI fun hg=>?_;try simp only [hC,reduceCtorEq] at hg;try simp only [hg]))|(refine AW.i rfl (fun h=>?_) (fun h=>?_)<;>try simp only [hC,reduceCtorEq] at h)|((with_reducible refine E ?_;repeat refine Y ?_);refine eF rfl ?_)|simp (disch:=omega) only [go_sem,mB]|(with_reducible intro hg;try simp only [hC,reduceCtorEq] at hg)|exact Cl|fail)
instance Ro(L:Nat->Nat)(n:Int):Ctr L Tryz.prog 253 [] [.v (.int .u8 n)] (.v (.bool (nmI n))) [] True:=by
 refine Ctr.bd Tryz.func253 Tryz.ntmps253 rfl rfl fun hp=>?_
 (repeat' first|(with_reducible first|refine Z ?_|refine Y ?_|(refine hK _ _ ?_;clear hK K)|refine And.intro ?_ ?_|exact Ct|intro (K:_->_->Prop) hK|(refine gI fun hg=>?_;try simp only [hC,reduceCtorEq] at hg;try simp only [hg]))|(refine AW.i rfl (fun h=>?_) (fun h=>?_)<;>try simp only [hC,reduceCtorEq] at h)|((with_reducible refine E ?_;repeat refine Y ?_);refine eF rfl ?_)|simp (disch:=omega) only [go_sem,nmI]|(with_reducible intro hg;try simp only [hC,reduceCtorEq] at hg)|exact Cl|fail)
end Go.Proofs
namespace Go.Dt
def idx{α:Type}(p:α->Bool):List α->Int
 | []=>-1
 | x::xs=>if p x then 0 else if idx p xs<0 then -1 else idx p xs+1
theorem ou{α:Type}(p:α->Bool):∀ l:List α,-1<=idx p l
 | []=>by simp [idx]
 | x::xs=>by
  have:=ou p xs
  simp only [idx];split
  ·omega
  ·split<;>omega
theorem Eu{α:Type}{p:α->Bool}:∀ {l:List α},(∀ x∈l,p x=false)->idx p l = -1
 | [],_=>rfl
 | x::xs,h=>by
  have h1:=h x (by simp)
  have h2:=Eu (l:=xs) fun y hy=>h y (by simp [hy])
  simp [idx,h1,h2]
theorem KD{α:Type}{p:α->Bool}:∀ {l:List α} {k:Nat} (hk:k<l.length),(∀ x∈l.take k,p x=false)->p l[k]=true->idx p l=k
 | x::xs,0,_,_,h=>by
  have:p x=true:=by simpa using h
  simp [idx,this]
 | x::xs,k+1,hk,h,e=>by
  have h1:=h x (by simp)
  have h2:=KD (l:=xs) (k:=k) (by simpa using hk) (fun y hy=>h y (by simp [hy])) (by simpa using e)
  simp only [idx,h1,h2]
  simp;omega
theorem Jm{α:Type}{p:α->Bool}{l:List α}{k:Nat}(hk:k<l.length)(h:∀ x∈l.take k,p x=false)(e:p l[k]=false):∀ x∈l.take (k+1),p x=false:=by
 intro x hx
 rw [List.take_succ_eq_append_getElem hk,List.mem_append] at hx
 rcases hx with hx|hx
 ·exact h x hx
 ·simp at hx;rw [hx];exact e
end Go.Dt
namespace Go.Dt
open Go.Ab
theorem kI{α:Type}[Inhabited α]{p:α->Bool}{l:List α}{k:Nat}(hk:k<l.length)(h:∀ x∈l.take k,p x=false)(e:p (at_ l k)=true):idx p l=k:=by
 refine KD hk h ?_
 have:l[k]=at_ l k:=by unfold at_;rw [List.getElem?_eq_getElem hk];rfl
 rw [this];exact e
theorem bJ{α:Type}[Inhabited α]{p:α->Bool}{l:List α}{k:Nat}(hk:k<l.length)(h:∀ x∈l.take k,p x=false)(e:p (at_ l k)=false):∀ x∈l.take (k+1),p x=false:=by
 refine Jm hk h ?_
 have:l[k]=at_ l k:=by unfold at_;rw [List.getElem?_eq_getElem hk];rfl
 rw [this];exact e
theorem nL{α:Type}{p:α->Bool}{l:List α}{k:Nat}(hk:¬ k<l.length)(h:∀ x∈l.take k,p x=false):idx p l = -1 :=
 Eu (by rw [List.take_of_length_le (by omega)] at h;exact h)
theorem gJ{α:Type}{p:α->Bool}:∀ (l:List α),idx p l<l.length
 | []=>by simp [idx]
 | x::xs=>by
  have:=gJ (p:=p) xs
  simp only [idx,List.length_cons]
  split
  ·omega
  ·split<;>omega
def Sj(n:Str)(a:mE):Bool:=a.ae == n
def Si(l:List mE)(n:Str):Option Str:=if idx (Sj n) l<0 then none else some (at_ l (idx (Sj n) l).toNat).av
def LU(l:List mE):List Tok->Str
 | []=>[]
 | .inl c::t=>c::LU l t
 | .inr n::t=>(Si l n).getD []++LU l t
def Nq(l:List mE):List Tok->Bool
 | []=>true
 | .inl _::t=>Nq l t
 | .inr n::t=>(Si l n).isSome && Nq l t
def Y6(l:List mE):Prop:=∀ a∈l,a.av.length<=1048576
theorem Np(s:Str)(k:Nat):UInt8.ofNat (at8 s k).toNat=at_ s k:=by rw [Br,Int.toNat_natCast,UInt8.ofNat_toNat]
def flB(l:List mE)(p:List Tok×Bool):Bool:=p.2 && Nq l p.1
def flS(l:List mE)(p:List Tok×Bool):Str:=bif flB l p then LU l p.1 else []
end Go.Dt
