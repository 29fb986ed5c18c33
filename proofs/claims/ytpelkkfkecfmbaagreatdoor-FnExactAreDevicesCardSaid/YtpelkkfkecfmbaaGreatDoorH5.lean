/- Part of a proof. -/
import Derived.Test.YtpelkkfkecfmbaaGreatDoorH3
import Derived.Test.YtpelkkfkecfmbaaGreatDoorH4
set_option linter.all false
namespace Go.Dt
open Go.Ab
def ltI(n:Int):Bool:=decide (97<=n) && decide (n<=122)
def gG(n:Int):Bool:=decide (48<=n) && decide (n<=57)
def nmI(n:Int):Bool:=ltI n || gG n || n == 45
def aaF(c:UInt8):Bool:=ltI c.toNat
def nmU(c:UInt8):Bool:=nmI c.toNat
def Ya:lim 1=1099511627776:=rfl
def X9{n:Nat}(h:1<n)(h2:n<1000000000):lim n=2147483648:=by unfold lim;rw [if_neg Ir,if_pos h2]
attribute [go_sem] Ya X9
abbrev Tok:=UInt8 ⊕ Str
def Ki(x:Tok)(p:List Tok×Bool):List Tok×Bool:=(x::p.1,p.2)
def tk(s:Str):List Tok×Bool :=
 match s with
 | []=>([],true)
 | c::r=>if c == 36 then (match r with
   | []=>([],false)
   | d::r'=>if d == 36 then Ki (.inl 36) (tk r') else if aaF d then Ki (.inr (d::r'.takeWhile nmU)) (tk (r'.dropWhile nmU)) else ([],false)) else Ki (.inl c) (tk r)
termination_by s.length
decreasing_by
 all_goals simp_wf
 ·omega
 ·have:=(List.dropWhile_suffix (p:=nmU) (l:=r')).length_le;omega
def FB:List Tok->List Str
 | []=>[]
 | .inl _::l=>FB l
 | .inr s::l=>s::FB l
def nmL(p:List Tok×Bool):List Str:=bif p.2 then FB p.1 else []
def acn(s:Str)(k:Nat):Nat:=if (decide (k<s.length) && ltI (at8 s k))=true then k+((s.drop k).takeWhile nmU).length else k
def E1{s:Str}{j:Nat}(h:j<s.length)(hn:nmI (at8 s j)=true):((s.drop j).takeWhile nmU).length=1+((s.drop (j+1)).takeWhile nmU).length:=by have:nmU (at_ s j)=true:=hn;rw [bq h,List.takeWhile_cons_of_pos this,List.length_cons];omega
def XC{s:Str}{j:Nat}(h:j<s.length->nmI (at8 s j)=false):(s.drop j).takeWhile nmU=[]:=by
 by_cases hj:j<s.length
 ·have:¬ nmU (at_ s j)=true:=by have:=h hj;unfold nmU;rw [gZ] at this;rw [this];simp
  rw [bq hj,List.takeWhile_cons_of_neg this]
 ·rw [List.drop_eq_nil_of_le Ir];rfl
def Pj{n:Int}(h:ltI n=true):nmI n=true:=by simp [nmI,h]
def aew(s:Str)(k:Nat)(done:List Tok):Prop:=tk s=(done++(tk (s.drop k)).1,(tk (s.drop k)).2)
end Go.Dt
