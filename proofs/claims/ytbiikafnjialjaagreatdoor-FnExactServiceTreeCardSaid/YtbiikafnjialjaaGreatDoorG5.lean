/- Part of a proof. -/
import Derived.Test.YtbiikafnjialjaaGreatDoorG3
import Derived.Test.YtbiikafnjialjaaGreatDoorG4
set_option linter.all false
namespace Go.Dt
open Go.Ab
def ltI(n:Int):Bool:=decide (97<=n) && decide (n<=122)
def l8(n:Int):Bool:=decide (48<=n) && decide (n<=57)
def nmI(n:Int):Bool:=ltI n || l8 n || n == 45
def Gf(c:UInt8):Bool:=ltI c.toNat
def nmU(c:UInt8):Bool:=nmI c.toNat
theorem QS:lim 1=1099511627776:=rfl
theorem QR{n:Nat}(h:1<n)(h2:n<1000000000):lim n=2147483648:=by unfold lim;rw [if_neg (by omega),if_pos h2]
attribute [go_sem] QS QR
abbrev Tok:=UInt8 ⊕ Str
def jB(x:Tok)(p:List Tok×Bool):List Tok×Bool:=(x::p.1,p.2)
def tk(s:Str):List Tok×Bool :=
 match s with
 | []=>([],true)
 | c::r=>if c == 36 then (match r with
   | []=>([],false)
   | d::r'=>if d == 36 then jB (.inl 36) (tk r') else if Gf d then jB (.inr (d::r'.takeWhile nmU)) (tk (r'.dropWhile nmU)) else ([],false)) else jB (.inl c) (tk r)
termination_by s.length
decreasing_by
 all_goals simp_wf
 ·omega
 ·have:=(List.dropWhile_suffix (p:=nmU) (l:=r')).length_le
  omega
def dI:List Tok->List Str
 | []=>[]
 | .inl _::l=>dI l
 | .inr s::l=>s::dI l
def nmL(p:List Tok×Bool):List Str:=bif p.2 then dI p.1 else []
theorem dN:∀ a b:List Tok,dI (a++b)=dI a++dI b
 | [],_=>rfl
 | .inl _::a,b=>by simp [dI,dN a b]
 | .inr _::a,b=>by simp [dI,dN a b]
def cX(s:Str)(k:Nat):Nat:=if (decide (k<s.length) && ltI (at8 s k))=true then k+((s.drop k).takeWhile nmU).length else k
theorem lL{s:Str}{j:Nat}(h:j<s.length)(hn:nmI (at8 s j)=true):((s.drop j).takeWhile nmU).length=1+((s.drop (j+1)).takeWhile nmU).length:=by
 have:nmU (at_ s j)=true:=hn
 rw [ct h,List.takeWhile_cons_of_pos this,List.length_cons];omega
theorem FH{s:Str}{j:Nat}(h:j<s.length->nmI (at8 s j)=false):(s.drop j).takeWhile nmU=[]:=by
 by_cases hj:j<s.length
 ·have:¬ nmU (at_ s j)=true:=by have:=h hj;unfold nmU;rw [nk] at this;rw [this];simp
  rw [ct hj,List.takeWhile_cons_of_neg this]
 ·rw [List.drop_eq_nil_of_le (by omega)];rfl
theorem oI(s:Str)(k:Nat)(h:k<=s.length):k<=cX s k/\cX s k<=s.length:=by
 unfold cX
 split
 ·have:=(List.takeWhile_prefix (p:=nmU) (l:=s.drop k)).length_le
  simp only [List.length_drop] at this
  omega
 ·omega
theorem Ha:tk []=([],true):=by rw [tk.eq_def]
theorem qV(c:UInt8)(r:Str):tk (c::r)=if c == 36 then (match r with
   | []=>([],false)
   | d::r'=>if d == 36 then jB (.inl 36) (tk r') else if Gf d then jB (.inr (d::r'.takeWhile nmU)) (tk (r'.dropWhile nmU)) else ([],false)) else jB (.inl c) (tk r):=by
 rw [tk.eq_def];rfl
theorem pR(s:Str)(k:Nat):(at_ s k == 36)=(at8 s k == 36):=by
 rw [nk]
 by_cases h:at_ s k=36
 ·rw [h];rfl
 ·have h2:((at_ s k).toNat:Int)≠36:=fun e=>h (by
   have:(at_ s k).toNat=36:=by omega
   rw [<- UInt8.ofNat_toNat (x:=at_ s k),this];rfl)
  rw [beq_eq_false_iff_ne.2 h,beq_eq_false_iff_ne.2 h2]
theorem rM{s:Str}{k:Nat}(h:k<s.length)(h36:at8 s k≠36):tk (s.drop k)=jB (.inl (at_ s k)) (tk (s.drop (k+1))):=by
 rw [ct h,qV,pR,beq_eq_false_iff_ne.2 h36];simp
theorem xo{s:Str}{k:Nat}(h:k+1<s.length)(h1:at8 s k=36)(h2:at8 s (k+1:Nat)=36):tk (s.drop k)=jB (.inl 36) (tk (s.drop (k+2))):=by
 rw [ct (by omega:k<s.length),qV,pR,h1,ct h]
 simp only [pR,h2,beq_self_eq_true,if_true]
theorem kL{n:Int}(h:ltI n=true):nmI n=true:=by simp [nmI,h]
theorem F7{s:Str}{k:Nat}(h:cX s k≠k):k<s.length/\ltI (at8 s k)=true/\cX s k=k+1+((s.drop (k+1)).takeWhile nmU).length:=by
 unfold cX at h ⊢
 split at h
 ·rename_i hc
  simp at hc
  rw [if_pos (by simp [hc])]
  refine ⟨hc.1,hc.2,?_⟩
  rw [lL hc.1 (kL hc.2)];omega
 ·exact absurd rfl h
theorem x8{s:Str}{k:Nat}(h:cX s k=k)(hk:k<s.length):ltI (at8 s k)=false:=by
 cases hl:ltI (at8 s k) with
 | false=>rfl
 | true =>
  unfold cX at h
  rw [if_pos (by simp [hk,hl]),lL hk (kL hl)] at h
  omega
theorem qW{s:Str}{k:Nat}(h:k<s.length)(h1:at8 s k=36)(h2:k+1<s.length->at8 s (k+1:Nat)≠36)(h3:k+1<s.length->ltI (at8 s (k+1:Nat))=false):tk (s.drop k)=([],false):=by
 rw [ct h,qV,pR,h1]
 by_cases hk:k+1<s.length
 ·have h4:=h3 hk
  rw [ct hk]
  simp only [pR,beq_eq_false_iff_ne.2 (h2 hk),Gf,<- nk,h4]
  simp
 ·rw [List.drop_eq_nil_of_le (by omega)];simp
theorem qU{s:Str}{k:Nat}(h:k<s.length)(h1:at8 s k=36)(h2:k+1<s.length->at8 s (k+1:Nat)≠36)(h3:cX s (k+1)≠k+1) :
  tk (s.drop k)=jB (.inr ((s.take (cX s (k+1))).drop (k+1))) (tk (s.drop (cX s (k+1)))):=by
 obtain ⟨hk,hl,he⟩:=F7 h3
 have e1:(s.drop (k+1)).dropWhile nmU=s.drop (cX s (k+1))/\(s.drop (k+1)).takeWhile nmU=(s.take (cX s (k+1))).drop (k+1):=by
  have hsp:(s.drop (k+1)).takeWhile nmU++(s.drop (k+1)).dropWhile nmU=s.drop (k+1):=List.takeWhile_append_dropWhile
  have hlen:cX s (k+1)=k+1+((s.drop (k+1)).takeWhile nmU).length:=by
   rw [he,lL hk (kL hl)];omega
  constructor
  ·have:=congrArg (List.drop ((s.drop (k+1)).takeWhile nmU).length) hsp
   rw [List.drop_left,List.drop_drop] at this
   rw [this,hlen]
  ·have:=congrArg (List.take ((s.drop (k+1)).takeWhile nmU).length) hsp
   rw [List.take_left] at this
   rw [this,List.drop_take,hlen]
   congr 1;omega
 rw [ct h,qV,pR,h1]
 rw [ct hk] at e1
 have hn:nmU (at_ s (k+1))=true:=kL hl
 rw [List.dropWhile_cons_of_pos hn,List.takeWhile_cons_of_pos hn] at e1
 rw [ct hk]
 simp only [pR,beq_eq_false_iff_ne.2 (h2 hk),Gf,<- nk,hl,e1.1,e1.2]
 simp
def gV(s:Str)(k:Nat)(done:List Tok):Prop:=tk s=(done++(tk (s.drop k)).1,(tk (s.drop k)).2)
theorem pX(s:Str):gV s 0 []:=by simp [gV]
theorem gV.next{s:Str}{k j:Nat}{done:List Tok}{x:Tok}(h:gV s k done)(e:tk (s.drop k)=jB x (tk (s.drop j))):gV s j (done++[x]):=by
 unfold gV at h ⊢;rw [h,e];simp [jB]
theorem gV.bad{s:Str}{k:Nat}{done:List Tok}(h:gV s k done)(e:tk (s.drop k)=([],false)):tk s=(done,false):=by
 unfold gV at h;rw [h,e];simp
theorem gV.fin{s:Str}{k:Nat}{done:List Tok}(h:gV s k done)(hk:¬ k<s.length):tk s=(done,true):=by
 unfold gV at h;rw [h,List.drop_eq_nil_of_le (by omega),Ha];simp
end Go.Dt
