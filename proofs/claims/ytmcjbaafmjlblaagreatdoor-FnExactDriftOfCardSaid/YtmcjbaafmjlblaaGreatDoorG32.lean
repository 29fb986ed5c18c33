/-
  Part of a proof: Ml0, Mm0.
-/
import Derived.Test.YtmcjbaafmjlblaaGreatDoorG3
import Derived.Test.YtmcjbaafmjlblaaGreatDoorG21
set_option linter.unusedSimpArgs false
set_option linter.unusedVariables false
namespace Go.Dt
open Go.Ab
def mkL{α:Type}(f:α→Int→α×Int):List α→Int→List α×Int
 | [],k=>([],k)
 | x::xs,k=>((f x k).1::(mkL f xs (f x k).2).1,(mkL f xs (f x k).2).2)
section
variable {α : Type} {f : α → Int → α × Int}
theorem mkL_len:∀ (l:List α) (k:Int),(mkL f l k).1.length=l.length
 | [],_=>rfl
 | x::xs,k=>by simp only [mkL,List.length_cons,mkL_len xs]
theorem mkL_app:∀ (l m:List α) (k:Int),mkL f (l++m) k=((mkL f l k).1++(mkL f m (mkL f l k).2).1,(mkL f m (mkL f l k).2).2)
 | [],_,_=>rfl
 | x::xs,m,k=>by simp only [List.cons_append,mkL,mkL_app xs m]
theorem mkL_mono(h:∀ x k,k≤(f x k).2):∀ (l:List α) (k:Int),k≤(mkL f l k).2
 | [],k=>Int.le_refl k
 | x::xs,k=>Int.le_trans (h x k) (mkL_mono h xs _)
def mkc(f:α→Int→α×Int)(l:List α)(k:Int)(i:Nat):Int:=(mkL f (l.take i) k).2
def mkp(f:α→Int→α×Int)(l:List α)(k:Int)(i:Nat):List α:=(mkL f (l.take i) k).1++l.drop i
theorem mkp_zero(l:List α)(k:Int):mkp f l k 0=l:=by simp [mkp,mkL]
theorem mkc_end{l:List α}{k:Int}{i:Nat}(h:¬ i<l.length):mkc f l k i=(mkL f l k).2:=by rw [mkc,List.take_of_length_le (by omega)]
theorem mkp_end{l:List α}{k:Int}{i:Nat}(h:¬ i<l.length):mkp f l k i=(mkL f l k).1:=by rw [mkp,List.take_of_length_le (by omega),List.drop_of_length_le (by omega),List.append_nil]
variable [Inhabited α]
theorem take_atM{l:List α}{i:Nat}(h:i<l.length):l.take (i+1)=l.take i++[at_ l i]:=by
 rw [List.take_succ_eq_append_getElem h];unfold at_;rw [List.getElem?_eq_getElem h];rfl
theorem mkc_step{l:List α}{k:Int}{i:Nat}(h:i<l.length):mkc f l k (i+1)=(f (at_ l i) (mkc f l k i)).2:=by
 rw [mkc,take_atM h,mkL_app];rfl
omit [Inhabited α] in
theorem mkc_le(hm:∀ x k,k≤(f x k).2)(l:List α)(k:Int)(i:Nat):mkc f l k i≤(mkL f l k).2:=by
 have:mkL f l k=mkL f (l.take i++l.drop i) k:=by rw [List.take_append_drop]
 rw [this,mkL_app];exact mkL_mono hm _ _
omit [Inhabited α] in
theorem mkc_ge(hm:∀ x k,k≤(f x k).2)(l:List α)(k:Int)(i:Nat):k≤mkc f l k i:=mkL_mono hm _ _
theorem mkp_at{l:List α}{k:Int}{i:Nat}(h:i<l.length):mkp f l k i=(mkL f (l.take i) k).1++(at_ l i::l.drop (i+1)):=by rw [mkp,at_drop h]
theorem mkp_step{l:List α}{k:Int}{i:Nat}(h:i<l.length):mkp f l k (i+1)=(mkL f (l.take i) k).1++((f (at_ l i) (mkc f l k i)).1::l.drop (i+1)):=by
 rw [mkp,take_atM h,mkL_app];simp [mkL,mkc]
theorem mkL_at{l:List α}{k:Int}{i:Nat}(h:i<l.length):at_ (mkL f l k).1 i=(f (at_ l i) (mkc f l k i)).1:=by
 have:mkL f l k=mkL f (l.take (i+1)++l.drop (i+1)) k:=by rw [List.take_append_drop]
 rw [this,mkL_app]
 show at_ ((mkL f (l.take (i+1)) k).1++_) i=_
 rw [take_atM h,mkL_app]
 unfold at_
 rw [List.append_assoc,List.getElem?_append_right (by rw [mkL_len,List.length_take];omega)]
 have e:i - (mkL f (l.take i) k).1.length=0:=by rw [mkL_len,List.length_take];omega
 rw [e];rfl
omit [Inhabited α] in
theorem fm_len{e:α→AV}{sz:Nat}(he:∀ x,(e x).cells.length=sz):∀ m:List α,((m.map e).flatMap AV.cells).length=m.length * sz:=by
 intro m
 induction m with
 | nil=>simp
 | cons x xs ih=>rw [List.map_cons,List.flatMap_cons,List.length_append,he,ih,List.length_cons,Nat.succ_mul,Nat.add_comm]
def mkb(e:α→AV)(f:α→Int→α×Int)(l:List α)(k:Int)(i:Nat):List AV:=((mkL f (l.take i) k).1.map e).flatMap AV.cells
omit [Inhabited α] in
theorem mkb_len{e:α→AV}{sz:Nat}(he:∀ x,(e x).cells.length=sz){l:List α}{k:Int}{i:Nat}(h:i≤l.length):(mkb e f l k i).length=i * sz:=by
 rw [mkb,fm_len he,mkL_len,List.length_take,Nat.min_eq_left h]
theorem mkd_at{e:α→AV}{l:List α}{k:Int}{i:Nat}(h:i<l.length):((mkp f l k i).map e).flatMap AV.cells=mkb e f l k i++((e (at_ l i)).cells++((l.drop (i+1)).map e).flatMap AV.cells):=by
 rw [mkp_at h];simp [mkb]
theorem mkd_next{e:α→AV}{l:List α}{k:Int}{i:Nat}(h:i<l.length):((mkp f l k (i+1)).map e).flatMap AV.cells=mkb e f l k i++((e (f (at_ l i) (mkc f l k i)).1).cells++((l.drop (i+1)).map e).flatMap AV.cells):=by
 rw [mkp_step h];simp [mkb]
end
theorem tk_j{p e:List AV}{n j:Nat}(h:p.length=n):(p++e).take (n+j)=p++e.take j:=by subst h;rw [List.take_length_add_append]
theorem tk_0{p e:List AV}{n:Nat}(h:p.length=n):(p++e).take n=p:=by subst h;rw [List.take_left]
theorem dp_j{p e:List AV}{n j:Nat}(h:p.length=n):(p++e).drop (n+j)=e.drop j:=by subst h;rw [List.drop_length_add_append]
theorem dp_0{p e:List AV}{n:Nat}(h:p.length=n):(p++e).drop n=e:=by subst h;rw [List.drop_left]
theorem dp_jj{p e:List AV}{n j m:Nat}(h:p.length=n):(p++e).drop (n+j+m)=e.drop (j+m):=by rw [Nat.add_assoc];exact dp_j h
theorem dp_jjj{p e:List AV}{n j m q:Nat}(h:p.length=n):(p++e).drop (n+j+m+q)=e.drop (j+m+q):=by rw [Nat.add_assoc n j m,Nat.add_assoc n];exact dp_j h
theorem dp_j4{p e:List AV}{n j m q r:Nat}(h:p.length=n):(p++e).drop (n+j+m+q+r)=e.drop (j+m+q+r):=by rw [Nat.add_assoc n j m,Nat.add_assoc n,Nat.add_assoc n];exact dp_j h
theorem tk_jj{p e:List AV}{n j m:Nat}(h:p.length=n):(p++e).take (n+j+m)=p++e.take (j+m):=by rw [Nat.add_assoc];exact tk_j h
theorem tk_jjj{p e:List AV}{n j m q:Nat}(h:p.length=n):(p++e).take (n+j+m+q)=p++e.take (j+m+q):=by rw [Nat.add_assoc n j m,Nat.add_assoc n];exact tk_j h
attribute [go_sem] tk_jj tk_jjj dp_jjj dp_j4 tk_j dp_j dp_jj List.append_assoc List.append_nil List.take_succ_cons List.drop_succ_cons List.take_zero List.drop_zero
end Go.Dt
namespace Go.Dt
open Go.Ab
def stString(x:Str)(k:Int):Str×Int:=(mkT k,k+1)
theorem stString_ge(x:Str)(k:Int):k+1≤(stString x k).2:=by unfold stString;omega
theorem mkL_up{α:Type}{f:α→Int→α×Int}(h:∀ x k,k+1≤(f x k).2):∀ (l:List α) (k:Int),k+l.length≤(mkL f l k).2
 | [],k=>by simp [mkL]
 | x::xs,k=>by have h1:=h x k;have h2:=mkL_up h xs (f x k).2;simp only [mkL,List.length_cons];omega
theorem up_ge{α:Type}{f:α→Int→α×Int}(h:∀ x k,k+1≤(f x k).2)(x:α)(k:Int):k≤(f x k).2:=by have:=h x k;omega
end Go.Dt
