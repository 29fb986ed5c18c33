/- A part. -/
import Derived.Test.YtmcjbaafmjlblaaGreatDoorJ3
import Derived.Test.YtmcjbaafmjlblaaGreatDoorJ4
set_option linter.all false
namespace Go.Dt
open Go.Ab
def ltI(n:Int):Bool:=decide (97<=n) && decide (n<=122)
def mB(n:Int):Bool:=decide (48<=n) && decide (n<=57)
def nmI(n:Int):Bool:=ltI n || mB n || n == 45
def V7(c:UInt8):Bool:=ltI c.toNat
def nmU(c:UInt8):Bool:=nmI c.toNat
theorem TE:lim 1=1099511627776:=rfl
theorem TD{n:Nat}(h:1<n)(h2:n<1000000000):lim n=2147483648:=by unfold lim;rw [if_neg (by omega),if_pos h2]
attribute [go_sem] TE TD
abbrev Tok:=UInt8 ⊕ Str
def HT(x:Tok)(p:List Tok×Bool):List Tok×Bool:=(x::p.1,p.2)
def tk(s:Str):List Tok×Bool :=
 match s with
 | []=>([],true)
 | c::r=>if c == 36 then (match r with
   | []=>([],false)
   | d::r'=>if d == 36 then HT (.inl 36) (tk r') else if V7 d then HT (.inr (d::r'.takeWhile nmU)) (tk (r'.dropWhile nmU)) else ([],false)) else HT (.inl c) (tk r)
termination_by s.length
decreasing_by
 all_goals simp_wf
 ·omega
 ·have:=(List.dropWhile_suffix (p:=nmU) (l:=r')).length_le
  omega
def Dy:List Tok->List Str
 | []=>[]
 | .inl _::l=>Dy l
 | .inr s::l=>s::Dy l
def nmL(p:List Tok×Bool):List Str:=bif p.2 then Dy p.1 else []
def XY(s:Str)(k:Nat):Nat:=if (decide (k<s.length) && ltI (at8 s k))=true then k+((s.drop k).takeWhile nmU).length else k
def ZA(s:Str)(k:Nat)(done:List Tok):Prop:=tk s=(done++(tk (s.drop k)).1,(tk (s.drop k)).2)
end Go.Dt
