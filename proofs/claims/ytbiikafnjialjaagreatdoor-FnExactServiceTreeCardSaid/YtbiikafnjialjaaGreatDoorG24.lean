/- Part of a proof. -/
import Derived.Test.YtbiikafnjialjaaGreatDoorG20
set_option linter.all false
set_option maxRecDepth 20000
set_option maxHeartbeats 4000000
namespace Go.Dt
open Go.Ab
section
def mkL{α:Type}(f:α->Int->α×Int):List α->Int->List α×Int
 | [],k=>([],k)
 | x::xs,k=>((f x k).1::(mkL f xs (f x k).2).1,(mkL f xs (f x k).2).2)
section
variable {α : Type} {f : α -> Int -> α × Int}
theorem gN:∀ (l:List α) (k:Int),(mkL f l k).1.length=l.length
 | [],_=>rfl
 | x::xs,k=>by simp only [mkL,List.length_cons,gN xs]
theorem oO:∀ (l m:List α) (k:Int),mkL f (l++m) k=((mkL f l k).1++(mkL f m (mkL f l k).2).1,(mkL f m (mkL f l k).2).2)
 | [],_,_=>rfl
 | x::xs,m,k=>by simp only [List.cons_append,mkL,oO xs m]
theorem wH(h:∀ x k,k<=(f x k).2):∀ (l:List α) (k:Int),k<=(mkL f l k).2
 | [],k=>Int.le_refl k
 | x::xs,k=>Int.le_trans (h x k) (wH h xs _)
def mkc(f:α->Int->α×Int)(l:List α)(k:Int)(i:Nat):Int:=(mkL f (l.take i) k).2
def mkp(f:α->Int->α×Int)(l:List α)(k:Int)(i:Nat):List α:=(mkL f (l.take i) k).1++l.drop i
theorem jx(l:List α)(k:Int):mkp f l k 0=l:=by simp [mkp,mkL]
theorem jI{l:List α}{k:Int}{i:Nat}(h:¬ i<l.length):mkc f l k i=(mkL f l k).2:=by rw [mkc,List.take_of_length_le (by omega)]
theorem j4{l:List α}{k:Int}{i:Nat}(h:¬ i<l.length):mkp f l k i=(mkL f l k).1:=by rw [mkp,List.take_of_length_le (by omega),List.drop_of_length_le (by omega),List.append_nil]
variable [Inhabited α]
theorem wx{l:List α}{i:Nat}(h:i<l.length):l.take (i+1)=l.take i++[at_ l i]:=by
 rw [List.take_succ_eq_append_getElem h];unfold at_;rw [List.getElem?_eq_getElem h];rfl
theorem dR{l:List α}{k:Int}{i:Nat}(h:i<l.length):mkc f l k (i+1)=(f (at_ l i) (mkc f l k i)).2:=by
 rw [mkc,wx h,oO];rfl
omit [Inhabited α] in
theorem fG(hm:∀ x k,k<=(f x k).2)(l:List α)(k:Int)(i:Nat):mkc f l k i<=(mkL f l k).2:=by
 have:mkL f l k=mkL f (l.take i++l.drop i) k:=by rw [List.take_append_drop]
 rw [this,oO];exact wH hm _ _
omit [Inhabited α] in
theorem kM(hm:∀ x k,k<=(f x k).2)(l:List α)(k:Int)(i:Nat):k<=mkc f l k i:=wH hm _ _
theorem Om{l:List α}{k:Int}{i:Nat}(h:i<l.length):mkp f l k i=(mkL f (l.take i) k).1++(at_ l i::l.drop (i+1)):=by rw [mkp,ct h]
theorem JD{l:List α}{k:Int}{i:Nat}(h:i<l.length):mkp f l k (i+1)=(mkL f (l.take i) k).1++((f (at_ l i) (mkc f l k i)).1::l.drop (i+1)):=by
 rw [mkp,wx h,oO];simp [mkL,mkc]
theorem Oo{l:List α}{k:Int}{i:Nat}(h:i<l.length):at_ (mkL f l k).1 i=(f (at_ l i) (mkc f l k i)).1:=by
 have:mkL f l k=mkL f (l.take (i+1)++l.drop (i+1)) k:=by rw [List.take_append_drop]
 rw [this,oO]
 show at_ ((mkL f (l.take (i+1)) k).1++_) i=_
 rw [wx h,oO]
 unfold at_
 rw [List.append_assoc,List.getElem?_append_right (by rw [gN,List.length_take];omega)]
 have e:i - (mkL f (l.take i) k).1.length=0:=by rw [gN,List.length_take];omega
 rw [e];rfl
omit [Inhabited α] in
theorem kV{e:α->AV}{sz:Nat}(he:∀ x,(e x).cells.length=sz):∀ m:List α,((m.map e).flatMap AV.cells).length=m.length * sz:=by
 intro m
 induction m with
 | nil=>simp
 | cons x xs ih=>rw [List.map_cons,List.flatMap_cons,List.length_append,he,ih,List.length_cons,Nat.succ_mul,Nat.add_comm]
def mkb(e:α->AV)(f:α->Int->α×Int)(l:List α)(k:Int)(i:Nat):List AV:=((mkL f (l.take i) k).1.map e).flatMap AV.cells
omit [Inhabited α] in
theorem j5{e:α->AV}{sz:Nat}(he:∀ x,(e x).cells.length=sz){l:List α}{k:Int}{i:Nat}(h:i<=l.length):(mkb e f l k i).length=i * sz:=by
 rw [mkb,kV he,gN,List.length_take,Nat.min_eq_left h]
theorem lO{e:α->AV}{l:List α}{k:Int}{i:Nat}(h:i<l.length):((mkp f l k i).map e).flatMap AV.cells=mkb e f l k i++((e (at_ l i)).cells++((l.drop (i+1)).map e).flatMap AV.cells):=by
 rw [Om h];simp [mkb]
theorem jy{e:α->AV}{l:List α}{k:Int}{i:Nat}(h:i<l.length):((mkp f l k (i+1)).map e).flatMap AV.cells=mkb e f l k i++((e (f (at_ l i) (mkc f l k i)).1).cells++((l.drop (i+1)).map e).flatMap AV.cells):=by
 rw [JD h];simp [mkb]
end
theorem Je{p e:List AV}{n j:Nat}(h:p.length=n):(p++e).take (n+j)=p++e.take j:=by subst h;rw [List.take_length_add_append]
theorem GS{p e:List AV}{n j:Nat}(h:p.length=n):(p++e).drop (n+j)=e.drop j:=by subst h;rw [List.drop_length_add_append]
theorem Ru{p e:List AV}{n j m:Nat}(h:p.length=n):(p++e).drop (n+j+m)=e.drop (j+m):=by rw [Nat.add_assoc];exact GS h
theorem Pk{p e:List AV}{n j m q:Nat}(h:p.length=n):(p++e).drop (n+j+m+q)=e.drop (j+m+q):=by rw [Nat.add_assoc n j m,Nat.add_assoc n];exact GS h
theorem Rv{p e:List AV}{n j m q r:Nat}(h:p.length=n):(p++e).drop (n+j+m+q+r)=e.drop (j+m+q+r):=by rw [Nat.add_assoc n j m,Nat.add_assoc n,Nat.add_assoc n];exact GS h
theorem Qi{p e:List AV}{n j m:Nat}(h:p.length=n):(p++e).take (n+j+m)=p++e.take (j+m):=by rw [Nat.add_assoc];exact Je h
theorem Nt{p e:List AV}{n j m q:Nat}(h:p.length=n):(p++e).take (n+j+m+q)=p++e.take (j+m+q):=by rw [Nat.add_assoc n j m,Nat.add_assoc n];exact Je h
attribute [go_sem] Qi Nt Pk Rv Je GS Ru List.append_assoc List.append_nil List.take_succ_cons List.drop_succ_cons List.take_zero List.drop_zero
end
section
def au(x:Str)(k:Int):Str×Int:=(mkT k,k+1)
theorem fE(x:Str)(k:Int):k+1<=(au x k).2:=by unfold au;omega
theorem bM{α:Type}{f:α->Int->α×Int}(h:∀ x k,k+1<=(f x k).2):∀ (l:List α) (k:Int),k+l.length<=(mkL f l k).2
 | [],k=>by simp [mkL]
 | x::xs,k=>by have h1:=h x k;have h2:=bM h xs (f x k).2;simp only [mkL,List.length_cons];omega
theorem ez{α:Type}{f:α->Int->α×Int}(h:∀ x k,k+1<=(f x k).2)(x:α)(k:Int):k<=(f x k).2:=by have:=h x k;omega
end
end Go.Dt
namespace Go.Ab
open Go.Ab
theorem bO{α:Type}{e:α->AV}{sz:Nat}(h:∀ x,(e x).elem sz=true)(l:List α):∀ x,x∈l.map e->x.elem sz=true:=by
 intro x hx
 obtain ⟨y,_,rfl⟩:=List.mem_map.1 hx
 exact h y
end Go.Ab
namespace Go.Proofs
open Go.Ab Go.Dt
theorem E4:∀ (l:List Str) (k:Int),mkL au l k=(mks l.length k,k+l.length)
 | [],k=>by simp [mkL,mks]
 | x::xs,k=>by
  have:=E4 xs (k+1)
  simp only [mkL,au,this,List.length_cons,mks]
  congr 1;omega
instance Nc(l:List Str)(k:Int):fu lim Tryz.prog 50 1 (l.map AV.str) [.v (.int .i64 k)] (.v (.int .i64 (mkL au l k).2)) ((mkL au l k).1.map AV.str) (0<=k/\(mkL au l k).2<=1099511627776):=by
 rw [E4];exact Bh l k
end Go.Proofs
