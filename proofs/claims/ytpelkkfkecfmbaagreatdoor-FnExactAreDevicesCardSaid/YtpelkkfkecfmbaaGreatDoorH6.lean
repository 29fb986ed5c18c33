/- Part of a proof. -/
import Derived.Test.YtpelkkfkecfmbaaGreatDoorProg
import Derived.Test.YtpelkkfkecfmbaaGreatDoorH5
set_option linter.all false
set_option maxRecDepth 20000
set_option maxHeartbeats 4000000
open Go.Proofs.Tryz
namespace Go.Proofs
open Go.Ab
instance:fQ prog:=⟨LQ⟩
abbrev tyS(t n:Nat)(z:List Value)(p:List (Nat×Nat)):Prop:=ty prog t=some (true,n)/\zer prog t=some z/\lI prog t=true/\plc prog t=some (p,z)
abbrev tyL(t a b c:Nat):Prop:=ty prog t=some (false,1)/\zer prog t=some [.slice none 0 0]/\lI prog t=true/\byS prog t=false/\knd prog t=some false/\elm prog t=some (a,b,c)
abbrev tyF(t i o:Nat)(b:Bool)(s:Nat):Prop:=fld prog t i=some (o,b,s)
abbrev UB(t:Nat):Prop:=ty prog t=some (false,1)/\zer prog t=some [.int .i64 0]/\ikd prog t=some .i64/\lI prog t=true
abbrev UA(t:Nat):Prop:=tyS t 5 [.bool false,.int .i64 0,.int .i64 0,.string ⟨([]:List UInt8).toArray⟩,.slice none 0 0] [(0,1),(1,1),(2,1),(3,1),(4,1)]/\tyF t 0 0 false 1/\tyF t 1 1 false 1/\tyF t 2 2 false 1/\tyF t 3 3 false 1/\tyF t 4 4 false 1
abbrev Uz(t:Nat):Prop:=tyS t 10 [.slice none 0 0,.slice none 0 0,.slice none 0 0,.int .i64 0,.slice none 0 0,.bool false,.int .i64 0,.int .i64 0,.string ⟨([]:List UInt8).toArray⟩,.slice none 0 0] [(0,1),(1,1),(2,1),(3,1),(4,1),(5,5)]/\tyF t 0 0 false 1/\tyF t 1 1 false 1/\tyF t 2 2 false 1/\tyF t 3 3 false 1/\tyF t 4 4 false 1/\tyF t 5 5 true 5
abbrev Uy(t:Nat):Prop:=tyS t 15 [.string ⟨([]:List UInt8).toArray⟩,.slice none 0 0,.slice none 0 0,.slice none 0 0,.int .i64 0,.slice none 0 0,.bool false,.int .i64 0,.int .i64 0,.string ⟨([]:List UInt8).toArray⟩,.slice none 0 0,.slice none 0 0,.bool false,.int .i64 0,.bool false] [(0,1),(1,10),(11,1),(12,1),(13,1),(14,1)]/\tyF t 0 0 false 1/\tyF t 1 1 true 10/\tyF t 2 11 false 1/\tyF t 3 12 false 1/\tyF t 4 13 false 1/\tyF t 5 14 false 1
abbrev Ux(t:Nat):Prop:=tyS t 3 [.string ⟨([]:List UInt8).toArray⟩,.string ⟨([]:List UInt8).toArray⟩,.slice none 0 0] [(0,1),(1,1),(2,1)]/\tyF t 0 0 false 1/\tyF t 1 1 false 1/\tyF t 2 2 false 1
abbrev Uw(t:Nat):Prop:=tyS t 5 [.int .i64 0,.slice none 0 0,.slice none 0 0,.string ⟨([]:List UInt8).toArray⟩,.string ⟨([]:List UInt8).toArray⟩] [(0,1),(1,1),(2,1),(3,1),(4,1)]/\tyF t 0 0 false 1/\tyF t 1 1 false 1/\tyF t 2 2 false 1/\tyF t 3 3 false 1/\tyF t 4 4 false 1
abbrev Uv(t:Nat):Prop:=tyS t 19 [.int .i64 0,.string ⟨([]:List UInt8).toArray⟩,.int .i64 0,.slice none 0 0,.slice none 0 0,.string ⟨([]:List UInt8).toArray⟩,.string ⟨([]:List UInt8).toArray⟩,.slice none 0 0,.slice none 0 0,.string ⟨([]:List UInt8).toArray⟩,.bool false,.bool false,.bool false,.bool false,.int .i64 0,.int .i64 0,.slice none 0 0,.slice none 0 0,.slice none 0 0] [(0,1),(1,1),(2,5),(7,1),(8,1),(9,1),(10,1),(11,1),(12,1),(13,1),(14,1),(15,1),(16,1),(17,1),(18,1)]/\tyF t 0 0 false 1/\tyF t 1 1 false 1/\tyF t 2 2 true 5/\tyF t 3 7 false 1/\tyF t 4 8 false 1/\tyF t 5 9 false 1/\tyF t 6 10 false 1/\tyF t 7 11 false 1/\tyF t 8 12 false 1/\tyF t 9 13 false 1/\tyF t 10 14 false 1/\tyF t 11 15 false 1/\tyF t 12 16 false 1/\tyF t 13 17 false 1/\tyF t 14 18 false 1
abbrev Uu(t:Nat):Prop:=tyS t 3 [.slice none 0 0,.int .i64 0,.int .i64 0] [(0,1),(1,1),(2,1)]/\tyF t 0 0 false 1/\tyF t 1 1 false 1/\tyF t 2 2 false 1
abbrev Ut(t:Nat):Prop:=tyS t 2 [.int .i64 0,.int .i64 0] [(0,1),(1,1)]/\tyF t 0 0 false 1/\tyF t 1 1 false 1
abbrev Us(t:Nat):Prop:=tyS t 3 [.bool false,.int .i64 0,.slice none 0 0] [(0,1),(1,1),(2,1)]/\tyF t 0 0 false 1/\tyF t 1 1 false 1/\tyF t 2 2 false 1
abbrev QN(t:Nat):Prop:=tyS t 7 [.int .i64 0,.int .i64 0,.string ⟨([]:List UInt8).toArray⟩,.bool false,.int .i64 0,.slice none 0 0,.slice none 0 0] [(0,1),(1,1),(2,1),(3,3),(6,1)]/\tyF t 0 0 false 1/\tyF t 1 1 false 1/\tyF t 2 2 false 1/\tyF t 3 3 true 3/\tyF t 4 6 false 1
abbrev QM(t:Nat):Prop:=tyS t 2 [.slice none 0 0,.slice none 0 0] [(0,1),(1,1)]/\tyF t 0 0 false 1/\tyF t 1 1 false 1
abbrev QL(t:Nat):Prop:=tyS t 2 [.string ⟨([]:List UInt8).toArray⟩,.slice none 0 0] [(0,1),(1,1)]/\tyF t 0 0 false 1/\tyF t 1 1 false 1
abbrev QK(t:Nat):Prop:=tyS t 2 [.string ⟨([]:List UInt8).toArray⟩,.string ⟨([]:List UInt8).toArray⟩] [(0,1),(1,1)]/\tyF t 0 0 false 1/\tyF t 1 1 false 1
abbrev QJ(t:Nat):Prop:=tyS t 3 [.string ⟨([]:List UInt8).toArray⟩,.int .i64 0,.bool false] [(0,1),(1,1),(2,1)]/\tyF t 0 0 false 1/\tyF t 1 1 false 1/\tyF t 2 2 false 1
abbrev QI(t:Nat):Prop:=ty prog t=some (false,1)/\zer prog t=some [.int .u64 0]/\ikd prog t=some .u64/\lI prog t=true
@[go_sem] def aev:UB 2/\UB 3/\ty prog 4=some (false,1)/\zer prog 4=some [.bool false]/\lI prog 4=true/\isB prog 4=true/\ty prog 5=some (false,1)/\zer prog 5=some [.int .u8 0]/\ikd prog 5=some .u8/\lI prog 5=true/\ty prog 9=some (false,1)/\zer prog 9=some [.string ⟨([]:List UInt8).toArray⟩]/\lI prog 9=true/\knd prog 9=some true/\tyL 22 89 19 272/\tyL 23 74 3 56/\tyL 24 144 3 40/\UA 26/\UA 37/\Uz 28/\Uz 39/\Uy 30/\Uy 41/\tyL 33 98 19 272/\tyL 34 78 3 56/\tyL 35 111 3 40/\tyL 50 30 15 232/\tyL 53 41 15 232/\Ux 74/\Ux 78/\tyL 83 211 2 16/\tyL 84 9 1 16/\Uw 86/\Uw 95/\tyL 87 173 7 96/\Uv 89/\Uv 98/\tyL 93 133 2 16/\tyL 96 138 7 96/\Uu 111:=by and_intros<;>show _=_<;>kernel_rfl
@[go_sem] def adH:Uu 144/\tyL 112 151 3 56/\ty prog 131=some (false,1)/\zer prog 131=some [.slice none 0 0]/\lI prog 131=true/\byS prog 131=true/\knd prog 131=some false/\elm prog 131=some (5,1,1)/\Ut 133/\Ut 211/\tyL 134 181 2 40/\Us 136/\Us 171/\QN 138/\QN 173/\tyL 149 3 1 8/\tyS 151 3 [.int .i64 0,.slice none 0 0,.slice none 0 0] [(0,1),(1,1),(2,1)]/\tyF 151 0 0 false 1/\tyF 151 1 1 false 1/\tyF 151 2 2 false 1/\ty prog 152=some (false,1)/\zer prog 152=some [.pointer none]/\lI prog 152=true/\ty prog 158=some (false,1)/\zer prog 158=some [.pointer none]/\lI prog 158=true/\ty prog 249=some (false,1)/\zer prog 249=some [.pointer none]/\lI prog 249=true/\ty prog 264=some (false,1)/\zer prog 264=some [.pointer none]/\lI prog 264=true/\ty prog 329=some (false,1)/\zer prog 329=some [.pointer none]/\lI prog 329=true/\ty prog 334=some (false,1)/\zer prog 334=some [.pointer none]/\lI prog 334=true/\QM 154/\QM 160:=by and_intros<;>show _=_<;>kernel_rfl
@[go_sem] def aeD:tyL 169 275 2 40/\tyL 179 216 2 32/\QL 181/\QL 275/\QK 216/\QK 325/\tyL 218 136 3 40/\tyL 231 4 1 1/\tyL 255 149 1 24/\tyS 261 5 [.int .i64 0,.int .i64 0,.string ⟨([]:List UInt8).toArray⟩,.bool false,.slice none 0 0] [(0,1),(1,1),(2,1),(3,1),(4,1)]/\tyF 261 0 0 false 1/\tyF 261 1 1 false 1/\tyF 261 2 2 false 1/\tyF 261 3 3 false 1/\tyF 261 4 4 false 1/\tyL 273 325 2 32/\tyL 280 299 3 32/\tyS 284 4 [.slice none 0 0,.int .i64 0,.bool false,.int .i64 0] [(0,1),(1,1),(2,1),(3,1)]/\tyF 284 0 0 false 1/\tyF 284 1 1 false 1/\tyF 284 2 2 false 1/\tyF 284 3 3 false 1/\tyS 297 3 [.slice none 0 0,.int .i64 0,.bool false] [(0,1),(1,1),(2,1)]/\tyF 297 0 0 false 1/\tyF 297 1 1 false 1/\tyF 297 2 2 false 1/\tyS 299 3 [.int .i64 0,.string ⟨([]:List UInt8).toArray⟩,.int .i64 0] [(0,1),(1,1),(2,1)]/\tyF 299 0 0 false 1/\tyF 299 1 1 false 1/\tyF 299 2 2 false 1/\tyL 307 309 3 48/\tyS 309 3 [.int .i64 0,.string ⟨([]:List UInt8).toArray⟩,.slice none 0 0] [(0,1),(1,1),(2,1)]/\tyF 309 0 0 false 1/\tyF 309 1 1 false 1/\tyF 309 2 2 false 1/\QJ 331/\QJ 336/\QI 348/\QI 359/\ty prog 357=some (false,1):=by and_intros<;>show _=_<;>kernel_rfl
@[go_sem] def aeE:zer prog 357=some [.int .u32 0]/\ikd prog 357=some .u32/\lI prog 357=true:=by and_intros<;>show _=_<;>kernel_rfl
end Go.Proofs
namespace Go.Proofs
open Go.Ab Go.Dt
instance adi(L:eaa)(x a b:Int):Ctr L prog 41 [] [.aa x,.aa a,.aa b] (.ac (decide (a<=x) && decide (x<=b))) [] True:=by
 refine Ctr.bd func41 ntmps41 fun hp=>?_
 all_goals exact uU
instance Yb(L:eaa)(n:Int):Ctr L prog 297 [] [.v (.int .u8 n)] (.ac (ltI n)) [] (0<=n/\n<=255):=by
 refine Ctr.bd func297 ntmps297 fun hp=>?_
 (repeat' first|(with_reducible first|refine Z ?_|refine Y ?_|(refine hK _ _ ?_;clear hK K)|refine And.intro ?_ ?_|exact Ct|intro (K:_->_->Prop) hK|(refine gI fun hg=>?_;try simp only [hC,reduceCtorEq] at hg;try simp only [hg]))|(refine AW.i rfl (fun h=>?_) (fun h=>?_)<;>try simp only [hC,reduceCtorEq] at h)|((with_reducible refine E ?_;repeat refine Y ?_);refine eF rfl ?_)|simp (disch:=omega) only [go_sem,ltI]|(with_reducible intro hg;try simp only [hC,reduceCtorEq] at hg)|exact Cl|fail)
instance Zm(L:eaa)(n:Int):Ctr L prog 299 [] [.v (.int .u8 n)] (.ac (gG n)) [] (0<=n/\n<=255):=by
 refine Ctr.bd func299 ntmps299 fun hp=>?_
 (repeat' first|(with_reducible first|refine Z ?_|refine Y ?_|(refine hK _ _ ?_;clear hK K)|refine And.intro ?_ ?_|exact Ct|intro (K:_->_->Prop) hK|(refine gI fun hg=>?_;try simp only [hC,reduceCtorEq] at hg;try simp only [hg]))|(refine AW.i rfl (fun h=>?_) (fun h=>?_)<;>try simp only [hC,reduceCtorEq] at h)|((with_reducible refine E ?_;repeat refine Y ?_);refine eF rfl ?_)|simp (disch:=omega) only [go_sem,gG]|(with_reducible intro hg;try simp only [hC,reduceCtorEq] at hg)|exact Cl|fail)
instance Zp(L:eaa)(n:Int):Ctr L prog 70 [] [.v (.int .u8 n)] (.ac (ltI n)) [] True:=by
 refine Ctr.bd func70 ntmps70 fun hp=>?_
 (repeat' first|(with_reducible first|refine Z ?_|refine Y ?_|(refine hK _ _ ?_;clear hK K)|refine And.intro ?_ ?_|exact Ct|intro (K:_->_->Prop) hK|(refine gI fun hg=>?_;try simp only [hC,reduceCtorEq] at hg;try simp only [hg]))|(refine AW.i rfl (fun h=>?_) (fun h=>?_)<;>try simp only [hC,reduceCtorEq] at h)|((with_reducible refine E ?_;repeat refine Y ?_);refine eF rfl ?_)|simp (disch:=omega) only [go_sem,ltI]|(with_reducible intro hg;try simp only [hC,reduceCtorEq] at hg)|exact Cl|fail)
instance Zq(L:eaa)(n:Int):Ctr L prog 109 [] [.v (.int .u8 n)] (.ac (gG n)) [] True:=by
 refine Ctr.bd func109 ntmps109 fun hp=>?_
 (repeat' first|(with_reducible first|refine Z ?_|refine Y ?_|(refine hK _ _ ?_;clear hK K)|refine And.intro ?_ ?_|exact Ct|intro (K:_->_->Prop) hK|(refine gI fun hg=>?_;try simp only [hC,reduceCtorEq] at hg;try simp only [hg]))|(refine AW.i rfl (fun h=>?_) (fun h=>?_)<;>try simp only [hC,reduceCtorEq] at h)|((with_reducible refine E ?_;repeat refine Y ?_);refine eF rfl ?_)|simp (disch:=omega) only [go_sem,gG]|(with_reducible intro hg;try simp only [hC,reduceCtorEq] at hg)|exact Cl|fail)
instance VL(L:eaa)(n:Int):Ctr L prog 71 [] [.v (.int .u8 n)] (.ac (nmI n)) [] True:=by
 refine Ctr.bd func71 ntmps71 fun hp=>?_
 (repeat' first|(with_reducible first|refine Z ?_|refine Y ?_|(refine hK _ _ ?_;clear hK K)|refine And.intro ?_ ?_|exact Ct|intro (K:_->_->Prop) hK|(refine gI fun hg=>?_;try simp only [hC,reduceCtorEq] at hg;try simp only [hg]))|(refine AW.i rfl (fun h=>?_) (fun h=>?_)<;>try simp only [hC,reduceCtorEq] at h)|((with_reducible refine E ?_;repeat refine Y ?_);refine eF rfl ?_)|simp (disch:=omega) only [go_sem,nmI]|(with_reducible intro hg;try simp only [hC,reduceCtorEq] at hg)|exact Cl|fail)
end Go.Proofs
namespace Go.Dt
def idx{α:Type}(p:α->Bool):List α->Int
 | []=>-1
 | x::xs=>if p x then 0 else if idx p xs<0 then -1 else idx p xs+1
def oY{α:Type}(p:α->Bool):∀ l:List α,-1<=idx p l
 | []=>by simp [idx]
 | x::xs=>by
  have:=oY p xs;simp only [idx];split
  ·omega
  ·split<;>omega
def Gp{α:Type}{p:α->Bool}:∀ {l:List α},(∀ x∈l,p x=false)->idx p l = -1
 | [],_=>rfl
 | x::xs,h=>by
  have h1:=h x QC
  have h2:=Gp (l:=xs) fun y hy=>h y (by simp [hy]);simp [idx,h1,h2]
def Nt{α:Type}{p:α->Bool}:∀ {l:List α} {k:Nat} (hk:k<l.length),(∀ x∈l.take k,p x=false)->p l[k]=true->idx p l=k
 | x::xs,0,_,_,h=>by
  have:p x=true:=by simpa using h
  simp [idx,this]
 | x::xs,k+1,hk,h,e=>by
  have h1:=h x QC
  have h2:=Nt (l:=xs) (k:=k) (by simpa using hk) (fun y hy=>h y (by simp [hy])) (by simpa using e);simp only [idx,h1,h2];simp;omega
def L3{α:Type}{p:α->Bool}{l:List α}{k:Nat}(hk:k<l.length)(h:∀ x∈l.take k,p x=false)(e:p l[k]=false):∀ x∈l.take (k+1),p x=false:=by
 intro x hx;rw [List.take_succ_eq_append_getElem hk,List.mem_append] at hx;rcases hx with hx|hx
 ·exact h x hx
 ·simp at hx;rw [hx];exact e
end Go.Dt
namespace Go.Dt
open Go.Ab
theorem gV{α:Type}[Inhabited α]{p:α->Bool}{l:List α}{k:Nat}(hk:k<l.length)(h:∀ x∈l.take k,p x=false)(e:p (at_ l k)=true):idx p l=k:=by
 refine Nt hk h ?_;have:l[k]=at_ l k:=by unfold at_;rw [List.getElem?_eq_getElem hk];rfl
 rw [this];exact e
theorem aL{α:Type}[Inhabited α]{p:α->Bool}{l:List α}{k:Nat}(hk:k<l.length)(h:∀ x∈l.take k,p x=false)(e:p (at_ l k)=false):∀ x∈l.take (k+1),p x=false:=by
 refine L3 hk h ?_;have:l[k]=at_ l k:=by unfold at_;rw [List.getElem?_eq_getElem hk];rfl
 rw [this];exact e
def jo{α:Type}{p:α->Bool}{l:List α}{k:Nat}(hk:¬ k<l.length)(h:∀ x∈l.take k,p x=false):idx p l = -1 :=
 Gp (by rw [List.take_of_length_le Ir] at h;exact h)
def eO{α:Type}{p:α->Bool}:∀ (l:List α),idx p l<l.length
 | []=>by simp [idx]
 | x::xs=>by
  have:=eO (p:=p) xs;simp only [idx,List.length_cons];split
  ·omega
  ·split<;>omega
def WQ(n:Str)(a:mZ):Bool:=a.ag == n
def WO(l:List mZ)(n:Str):Option Str:=if idx (WQ n) l<0 then none else some (at_ l (idx (WQ n) l).toNat).ax
def O6(l:List mZ):List Tok->Str
 | []=>[]
 | .inl c::t=>c::O6 l t
 | .inr n::t=>(WO l n).getD []++O6 l t
def QB(l:List mZ):List Tok->Bool
 | []=>true
 | .inl _::t=>QB l t
 | .inr n::t=>(WO l n).isSome && QB l t
def adG(l:List mZ):Prop:=∀ a∈l,a.ax.length<=1048576
def Qz(s:Str)(k:Nat):UInt8.ofNat (at8 s k).toNat=at_ s k:=by rw [gZ,Int.toNat_natCast,UInt8.ofNat_toNat]
def flB(l:List mZ)(p:List Tok×Bool):Bool:=p.2 && QB l p.1
def flS(l:List mZ)(p:List Tok×Bool):Str:=bif flB l p then O6 l p.1 else []
end Go.Dt
