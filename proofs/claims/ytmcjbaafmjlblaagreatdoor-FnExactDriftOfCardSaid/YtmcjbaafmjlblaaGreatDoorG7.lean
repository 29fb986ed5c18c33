/-
  Part of a proof: Tx0.
-/
import Derived.Test.YtmcjbaafmjlblaaGreatDoorG2
import Derived.Test.YtmcjbaafmjlblaaGreatDoorG6
set_option linter.unusedSimpArgs false
set_option linter.unusedVariables false
namespace Go.Dt
open Go.Ab
def allTo(p:Nat→Bool):Nat→Bool
 | 0=>true
 | k+1=>allTo p k && p k
theorem allTo_false{p:Nat→Bool}:∀ {n j:Nat},j<n→p j=false→allTo p n=false
 | 0,_,h,_=>by omega
 | n+1,j,h,e=>by
  simp only [allTo]
  by_cases hj:j=n
  ·subst hj;simp [e]
  ·rw [allTo_false (n:=n) (by omega) e];rfl
theorem allTo_step{p:Nat→Bool}{k:Nat}(h:allTo p k=true)(e:p k=true):allTo p (k+1)=true:=by simp [allTo,h,e]
theorem allTo_get{p:Nat→Bool}:∀ {n j:Nat},allTo p n=true→j<n→p j=true
 | 0,_,_,h=>by omega
 | n+1,j,h,hj=>by
  simp only [allTo,Bool.and_eq_true] at h
  by_cases e:j=n
  ·subst e;exact h.2
  ·exact allTo_get h.1 (by omega)
theorem allTo_list{α:Type}[Inhabited α](q:α→Bool)(l:List α):allTo (fun j=>q (at_ l j)) l.length=l.all q:=by
 have key:∀ n,n≤l.length→allTo (fun j=>q (at_ l j)) n=(l.take n).all q:=by
  intro n
  induction n with
  | zero=>intro _;simp [allTo]
  | succ n ih =>
   intro h
   rw [allTo,ih (by omega)]
   have:l.take (n+1)=l.take n++[at_ l n]:=by
    rw [List.take_succ_eq_append_getElem (by omega)]
    unfold at_;rw [List.getElem?_eq_getElem (by omega)];rfl
   rw [this];simp
 have:=key l.length (Nat.le_refl _)
 rwa [List.take_length] at this
theorem szSl_neg{α:Type}{f:α→Int→Int}{l:List α}{r:Int}(h:r - l.length<0):szSl f l r = -1:=by unfold szSl thn;rw [if_pos h]
theorem szSl_pos{α:Type}{f:α→Int→Int}{l:List α}{r:Int}(h:0≤r - l.length):szSl f l r=szGo f l (r - l.length):=by unfold szSl thn;rw [if_neg (by omega)]
theorem szGo_at{α:Type}[Inhabited α]{f:α→Int→Int}{l:List α}{k:Nat}{r:Int}(h:k<l.length):szGo f (l.drop k) r=if f (at_ l k) r<0 then -1 else szGo f (l.drop (k+1)) (f (at_ l k) r):=by
 rw [at_drop h,szGo,thn]
theorem szGo_end{α:Type}{f:α→Int→Int}{l:List α}{k:Nat}{r:Int}(h:¬ k<l.length):szGo f (l.drop k) r=r:=by
 rw [List.drop_eq_nil_of_le (by omega),szGo]
theorem rawL_n(n:Nat):rawL n=140737488355328:=rfl
attribute [go_sem] rawL_n
class Lok(L:Nat→Nat):Prop where
 le:∀ z,L z≤4611686018427387904
theorem lim_le(z:Nat):lim z≤4611686018427387904:=by
 have:=limT_b (z - 1000000000)
 unfold lim;split
 ·omega
 ·split<;>omega
instance:Lok lim:=⟨lim_le⟩
instance:Lok rawL:=⟨fun z=>by unfold rawL;omega⟩
def chN(s:Str)(j:Nat):Bool:=ltI (at8 s j) || (!(j == 0) && nmI (at8 s j))
def isName(s:Str):Bool:=allTo (chN s) s.length && (decide (1≤s.length) && decide (s.length≤16) && !(at8 s (s.length - 1:Nat) == 45))
def chT(s:Str)(j:Nat):Bool:=decide (32≤at8 s j) && decide (at8 s j≤126)
def isText(s:Str):Bool:=allTo (chT s) s.length && decide (s.length≤40)
end Go.Dt
