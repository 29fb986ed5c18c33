/-
  Part of a proof: Str1.
-/
import Derived.Test.YtmcjbaafmjlblaaGreatDoorG2
import Derived.Test.YtmcjbaafmjlblaaGreatDoorG3
set_option linter.unusedSimpArgs false
set_option linter.unusedVariables false
namespace Go.Dt
open Go.Ab
def ltI(n:Int):Bool:=decide (97≤n) && decide (n≤122)
def digI(n:Int):Bool:=decide (48≤n) && decide (n≤57)
def nmI(n:Int):Bool:=ltI n || digI n || n == 45
def letU(c:UInt8):Bool:=ltI c.toNat
def nmU(c:UInt8):Bool:=nmI c.toNat
theorem lim_1:lim 1=1099511627776:=rfl
theorem lim_n{n:Nat}(h:1<n)(h2:n<1000000000):lim n=2147483648:=by unfold lim;rw [if_neg (by omega),if_pos h2]
attribute [go_sem] lim_1 lim_n
abbrev Tok:=UInt8 ⊕ Str
def tcons(x:Tok)(p:List Tok×Bool):List Tok×Bool:=(x::p.1,p.2)
def tk(s:Str):List Tok×Bool :=
 match s with
 | []=>([],true)
 | c::r=>if c == 36 then (match r with
   | []=>([],false)
   | d::r'=>if d == 36 then tcons (.inl 36) (tk r') else if letU d then tcons (.inr (d::r'.takeWhile nmU)) (tk (r'.dropWhile nmU)) else ([],false)) else tcons (.inl c) (tk r)
termination_by s.length
decreasing_by
 all_goals simp_wf
 ·omega
 ·have:=(List.dropWhile_suffix (p:=nmU) (l:=r')).length_le
  omega
def rights:List Tok→List Str
 | []=>[]
 | .inl _::l=>rights l
 | .inr s::l=>s::rights l
def nmL(p:List Tok×Bool):List Str:=bif p.2 then rights p.1 else []
def nameEnd(s:Str)(k:Nat):Nat:=if (decide (k<s.length) && ltI (at8 s k))=true then k+((s.drop k).takeWhile nmU).length else k
theorem tw_yes{s:Str}{j:Nat}(h:j<s.length)(hn:nmI (at8 s j)=true):((s.drop j).takeWhile nmU).length=1+((s.drop (j+1)).takeWhile nmU).length:=by
 have:nmU (at_ s j)=true:=hn
 rw [at_drop h,List.takeWhile_cons_of_pos this,List.length_cons];omega
theorem tk_nil:tk []=([],true):=by rw [tk.eq_def]
theorem tk_cons(c:UInt8)(r:Str):tk (c::r)=if c == 36 then (match r with
   | []=>([],false)
   | d::r'=>if d == 36 then tcons (.inl 36) (tk r') else if letU d then tcons (.inr (d::r'.takeWhile nmU)) (tk (r'.dropWhile nmU)) else ([],false)) else tcons (.inl c) (tk r):=by
 rw [tk.eq_def];rfl
theorem at8_36(s:Str)(k:Nat):(at_ s k == 36)=(at8 s k == 36):=by
 rw [at8_nat]
 by_cases h:at_ s k=36
 ·rw [h];rfl
 ·have h2:((at_ s k).toNat:Int)≠36:=fun e=>h (by
   have:(at_ s k).toNat=36:=by omega
   rw [← UInt8.ofNat_toNat (x:=at_ s k),this];rfl)
  rw [beq_eq_false_iff_ne.2 h,beq_eq_false_iff_ne.2 h2]
theorem nm_of_lt{n:Int}(h:ltI n=true):nmI n=true:=by simp [nmI,h]
theorem nameEnd_no{s:Str}{k:Nat}(h:nameEnd s k=k)(hk:k<s.length):ltI (at8 s k)=false:=by
 cases hl:ltI (at8 s k) with
 | false=>rfl
 | true =>
  unfold nameEnd at h
  rw [if_pos (by simp [hk,hl]),tw_yes hk (nm_of_lt hl)] at h
  omega
theorem tk_bad{s:Str}{k:Nat}(h:k<s.length)(h1:at8 s k=36)(h2:k+1<s.length→at8 s (k+1:Nat)≠36)(h3:k+1<s.length→ltI (at8 s (k+1:Nat))=false):tk (s.drop k)=([],false):=by
 rw [at_drop h,tk_cons,at8_36,h1]
 by_cases hk:k+1<s.length
 ·have h4:=h3 hk
  rw [at_drop hk]
  simp only [at8_36,beq_eq_false_iff_ne.2 (h2 hk),letU,← at8_nat,h4]
  simp
 ·rw [List.drop_eq_nil_of_le (by omega)];simp
def tkAt(s:Str)(k:Nat)(done:List Tok):Prop:=tk s=(done++(tk (s.drop k)).1,(tk (s.drop k)).2)
theorem tkAt.next{s:Str}{k j:Nat}{done:List Tok}{x:Tok}(h:tkAt s k done)(e:tk (s.drop k)=tcons x (tk (s.drop j))):tkAt s j (done++[x]):=by
 unfold tkAt at h ⊢;rw [h,e];simp [tcons]
theorem tkAt.bad{s:Str}{k:Nat}{done:List Tok}(h:tkAt s k done)(e:tk (s.drop k)=([],false)):tk s=(done,false):=by
 unfold tkAt at h;rw [h,e];simp
theorem tkAt.fin{s:Str}{k:Nat}{done:List Tok}(h:tkAt s k done)(hk:¬ k<s.length):tk s=(done,true):=by
 unfold tkAt at h;rw [h,List.drop_eq_nil_of_le (by omega),tk_nil];simp
end Go.Dt
