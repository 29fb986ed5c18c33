/-
  Part of a proof: Nm1, Idx, Fl0.
-/
import Derived.Test.YtmcjbaafmjlblaaGreatDoorG1
import Derived.Test.YtmcjbaafmjlblaaGreatDoorG2
import Derived.Test.YtmcjbaafmjlblaaGreatDoorG4
import Derived.Test.YtmcjbaafmjlblaaGreatDoorG5
set_option linter.unusedSimpArgs false
set_option linter.unusedVariables false
namespace Go.Proofs.YtmcjbaafmjlblaaGreatDoor
open Go.Ab Go.Dt
set_option maxRecDepth 20000
instance l1In_i(L:Nat→Nat)(x a b:Int):Ctr L Tryz.prog 192 [] [.v (.int .i64 x),.v (.int .i64 a),.v (.int .i64 b)] (.v (.bool (decide (a≤x) && decide (x≤b)))) [] True:=by
 refine Ctr.of_body en192 Tryz.func192 rfl rfl fun hp=>(?_);rw [Tryz.ntmps192]
 all_goals exact uU
instance l3Letter_i(L:Nat→Nat)(n:Int):Ctr L Tryz.prog 308 [] [.v (.int .u8 n)] (.v (.bool (ltI n))) [] (0≤n∧n≤255):=by
 refine Ctr.of_body en308 Tryz.func308 rfl rfl fun hp=>(?_);rw [Tryz.ntmps308]
 (repeat' first|(with_reducible first|refine Z ?_|refine Y ?_|(refine hK _ _ ?_;clear hK K)|refine And.intro ?_ ?_|exact Ct|intro (K:_→_→Prop) hK|(refine gI fun hg=>?_;try simp only [hC,reduceCtorEq] at hg;try simp only [hg]))|(refine AW.i rfl (fun h=>?_) (fun h=>?_)<;>try simp only [hC,reduceCtorEq] at h)|((with_reducible refine E ?_;repeat refine Y ?_);refine eF rfl ?_)|simp (disch:=omega) only [go_sem,ltI]|(with_reducible intro hg;try simp only [hC,reduceCtorEq] at hg)|exact Cl|fail)
instance l3Digit_i(L:Nat→Nat)(n:Int):Ctr L Tryz.prog 309 [] [.v (.int .u8 n)] (.v (.bool (digI n))) [] (0≤n∧n≤255):=by
 refine Ctr.of_body en309 Tryz.func309 rfl rfl fun hp=>(?_);rw [Tryz.ntmps309]
 (repeat' first|(with_reducible first|refine Z ?_|refine Y ?_|(refine hK _ _ ?_;clear hK K)|refine And.intro ?_ ?_|exact Ct|intro (K:_→_→Prop) hK|(refine gI fun hg=>?_;try simp only [hC,reduceCtorEq] at hg;try simp only [hg]))|(refine AW.i rfl (fun h=>?_) (fun h=>?_)<;>try simp only [hC,reduceCtorEq] at h)|((with_reducible refine E ?_;repeat refine Y ?_);refine eF rfl ?_)|simp (disch:=omega) only [go_sem,digI]|(with_reducible intro hg;try simp only [hC,reduceCtorEq] at hg)|exact Cl|fail)
instance isLower_i(L:Nat→Nat)(n:Int):Ctr L Tryz.prog 252 [] [.v (.int .u8 n)] (.v (.bool (ltI n))) [] True:=by
 refine Ctr.of_body en252 Tryz.func252 rfl rfl fun hp=>(?_);rw [Tryz.ntmps252]
 (repeat' first|(with_reducible first|refine Z ?_|refine Y ?_|(refine hK _ _ ?_;clear hK K)|refine And.intro ?_ ?_|exact Ct|intro (K:_→_→Prop) hK|(refine gI fun hg=>?_;try simp only [hC,reduceCtorEq] at hg;try simp only [hg]))|(refine AW.i rfl (fun h=>?_) (fun h=>?_)<;>try simp only [hC,reduceCtorEq] at h)|((with_reducible refine E ?_;repeat refine Y ?_);refine eF rfl ?_)|simp (disch:=omega) only [go_sem,ltI]|(with_reducible intro hg;try simp only [hC,reduceCtorEq] at hg)|exact Cl|fail)
instance isDigit_i(L:Nat→Nat)(n:Int):Ctr L Tryz.prog 270 [] [.v (.int .u8 n)] (.v (.bool (digI n))) [] True:=by
 refine Ctr.of_body en270 Tryz.func270 rfl rfl fun hp=>(?_);rw [Tryz.ntmps270]
 (repeat' first|(with_reducible first|refine Z ?_|refine Y ?_|(refine hK _ _ ?_;clear hK K)|refine And.intro ?_ ?_|exact Ct|intro (K:_→_→Prop) hK|(refine gI fun hg=>?_;try simp only [hC,reduceCtorEq] at hg;try simp only [hg]))|(refine AW.i rfl (fun h=>?_) (fun h=>?_)<;>try simp only [hC,reduceCtorEq] at h)|((with_reducible refine E ?_;repeat refine Y ?_);refine eF rfl ?_)|simp (disch:=omega) only [go_sem,digI]|(with_reducible intro hg;try simp only [hC,reduceCtorEq] at hg)|exact Cl|fail)
instance isNameByte_i(L:Nat→Nat)(n:Int):Ctr L Tryz.prog 253 [] [.v (.int .u8 n)] (.v (.bool (nmI n))) [] True:=by
 refine Ctr.of_body en253 Tryz.func253 rfl rfl fun hp=>(?_);rw [Tryz.ntmps253]
 (repeat' first|(with_reducible first|refine Z ?_|refine Y ?_|(refine hK _ _ ?_;clear hK K)|refine And.intro ?_ ?_|exact Ct|intro (K:_→_→Prop) hK|(refine gI fun hg=>?_;try simp only [hC,reduceCtorEq] at hg;try simp only [hg]))|(refine AW.i rfl (fun h=>?_) (fun h=>?_)<;>try simp only [hC,reduceCtorEq] at h)|((with_reducible refine E ?_;repeat refine Y ?_);refine eF rfl ?_)|simp (disch:=omega) only [go_sem,nmI]|(with_reducible intro hg;try simp only [hC,reduceCtorEq] at hg)|exact Cl|fail)
end Go.Proofs.YtmcjbaafmjlblaaGreatDoor
namespace Go.Dt
def idx{α:Type}(p:α→Bool):List α→Int
 | []=>-1
 | x::xs=>if p x then 0 else if idx p xs<0 then -1 else idx p xs+1
theorem idx_ge{α:Type}(p:α→Bool):∀ l:List α,-1≤idx p l
 | []=>by simp [idx]
 | x::xs=>by
  have:=idx_ge p xs
  simp only [idx];split
  ·omega
  ·split<;>omega
theorem idx_none{α:Type}{p:α→Bool}:∀ {l:List α},(∀ x∈l,p x=false)→idx p l = -1
 | [],_=>rfl
 | x::xs,h=>by
  have h1:=h x (by simp)
  have h2:=idx_none (l:=xs) fun y hy=>h y (by simp [hy])
  simp [idx,h1,h2]
theorem idx_at{α:Type}{p:α→Bool}:∀ {l:List α} {k:Nat} (hk:k<l.length),(∀ x∈l.take k,p x=false)→p l[k]=true→idx p l=k
 | x::xs,0,_,_,h=>by
  have:p x=true:=by simpa using h
  simp [idx,this]
 | x::xs,k+1,hk,h,e=>by
  have h1:=h x (by simp)
  have h2:=idx_at (l:=xs) (k:=k) (by simpa using hk) (fun y hy=>h y (by simp [hy])) (by simpa using e)
  simp only [idx,h1,h2]
  simp;omega
theorem take_step{α:Type}{p:α→Bool}{l:List α}{k:Nat}(hk:k<l.length)(h:∀ x∈l.take k,p x=false)(e:p l[k]=false):∀ x∈l.take (k+1),p x=false:=by
 intro x hx
 rw [List.take_succ_eq_append_getElem hk,List.mem_append] at hx
 rcases hx with hx|hx
 ·exact h x hx
 ·simp at hx;rw [hx];exact e
end Go.Dt
namespace Go.Dt
open Go.Ab
theorem idx_at'{α:Type}[Inhabited α]{p:α→Bool}{l:List α}{k:Nat}(hk:k<l.length)(h:∀ x∈l.take k,p x=false)(e:p (at_ l k)=true):idx p l=k:=by
 refine idx_at hk h ?_
 have:l[k]=at_ l k:=by unfold at_;rw [List.getElem?_eq_getElem hk];rfl
 rw [this];exact e
theorem take_step'{α:Type}[Inhabited α]{p:α→Bool}{l:List α}{k:Nat}(hk:k<l.length)(h:∀ x∈l.take k,p x=false)(e:p (at_ l k)=false):∀ x∈l.take (k+1),p x=false:=by
 refine take_step hk h ?_
 have:l[k]=at_ l k:=by unfold at_;rw [List.getElem?_eq_getElem hk];rfl
 rw [this];exact e
theorem idx_end{α:Type}{p:α→Bool}{l:List α}{k:Nat}(hk:¬ k<l.length)(h:∀ x∈l.take k,p x=false):idx p l = -1 :=
 idx_none (by rw [List.take_of_length_le (by omega)] at h;exact h)
theorem idx_lt{α:Type}{p:α→Bool}:∀ (l:List α),idx p l<l.length
 | []=>by simp [idx]
 | x::xs=>by
  have:=idx_lt (p:=p) xs
  simp only [idx,List.length_cons]
  split
  ·omega
  ·split<;>omega
def argP(n:Str)(a:GArg):Bool:=a.fName == n
def argV(l:List GArg)(n:Str):Option Str:=if idx (argP n) l<0 then none else some (at_ l (idx (argP n) l).toNat).fValue
def outF(l:List GArg):List Tok→Str
 | []=>[]
 | .inl c::t=>c::outF l t
 | .inr n::t=>(argV l n).getD []++outF l t
def allF(l:List GArg):List Tok→Bool
 | []=>true
 | .inl _::t=>allF l t
 | .inr n::t=>(argV l n).isSome && allF l t
def ArgsOk(l:List GArg):Prop:=∀ a∈l,a.fValue.length≤1048576
theorem at8_byte(s:Str)(k:Nat):UInt8.ofNat (at8 s k).toNat=at_ s k:=by rw [at8_nat,Int.toNat_natCast,UInt8.ofNat_toNat]
theorem tkAt.snd{s:Str}{k:Nat}{d:List Tok}(h:tkAt s k d):(tk s).2=(tk (s.drop k)).2:=by
 unfold tkAt at h
 have:=congrArg Prod.snd h
 exact this
theorem tkAt.fst{s:Str}{k:Nat}{d:List Tok}(h:tkAt s k d):(tk s).1=d++(tk (s.drop k)).1:=by
 unfold tkAt at h
 have:=congrArg Prod.fst h
 exact this
theorem tkAt.more{s:Str}{k:Nat}{d:List Tok}(h:tkAt s k d)(hok:(tk s).2=true)(hk:k<s.length)(h36:at8 s k=36):k+1<s.length∧(at8 s (k+1:Nat)≠36→nameEnd s (k+1)≠k+1):=by
 rw [h.snd] at hok
 constructor
 ·rcases Nat.lt_or_ge (k+1) s.length with h1|h1
  ·exact h1
  ·rw [tk_bad hk h36 (fun h=>by omega) (fun h=>by omega)] at hok;cases hok
 ·intro h2 h3
  rw [tk_bad hk h36 (fun _=>h2) (nameEnd_no h3)] at hok;cases hok
def flB(l:List GArg)(p:List Tok×Bool):Bool:=p.2 && allF l p.1
def flS(l:List GArg)(p:List Tok×Bool):Str:=bif flB l p then outF l p.1 else []
end Go.Dt
