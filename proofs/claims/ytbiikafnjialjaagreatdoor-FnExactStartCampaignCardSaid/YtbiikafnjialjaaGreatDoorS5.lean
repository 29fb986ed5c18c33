/- Part of a proof. -/
import Derived.Test.YtbiikafnjialjaaGreatDoorS3
import Derived.Test.YtbiikafnjialjaaGreatDoorS4
set_option linter.all false
open List
namespace Go.Dt
open Go.Ab
def ltI(n:Int):Bool:=decide (97<=n) && decide (n<=122)
def om(n:Int):Bool:=decide (48<=n) && decide (n<=57)
def nmI(n:Int):Bool:=ltI n || om n || n == 45
def KE(c:UInt8):Bool:=ltI c.toNat
def nmU(c:UInt8):Bool:=nmI c.toNat
def Yy:lim 1=1099511627776:=rfl
def Yx{n:Nat}(h:1<n)(h2:n<1000000000):lim n=2147483648:=by unfold lim;rw[if_neg Um,if_pos h2]
attribute [go_sem] Yy Yx
abbrev Tok:=UInt8 ⊕ Str
def lH(x:Tok)(p:List Tok×Bool):List Tok×Bool:=(x::p.1,p.2)
def tk(s:Str):List Tok×Bool :=
 match s with
 | []=>([],true)
 | c::r=>if c == 36 then (match r with
   | []=>([],false)
   | d::r'=>if d == 36 then lH (.inl 36) (tk r') else if KE d then lH (.inr (d::r'.takeWhile nmU)) (tk (r'.dropWhile nmU)) else ([],false)) else lH (.inl c) (tk r)
termination_by s.length
decreasing_by
 all_goals simp_wf
 ·omega
 ·have:=(dropWhile_suffix (p:=nmU) (l:=r')).length_le;omega
def eJ:List Tok->List Str
 | []=>[]
 | .inl _::l=>eJ l
 | .inr s::l=>s::eJ l
def nmL(p:List Tok×Bool):List Str:=bif p.2 then eJ p.1 else []
def eU:∀a b:List Tok,eJ (a++b)=eJ a++eJ b
 | [],_=>rfl
 | .inl _::a,b=>by simp[eJ,eU a b]
 | .inr _::a,b=>by simp[eJ,eU a b]
def dG(s:Str)(k:Nat):Nat:=if (decide (k<s.length) && ltI (at8 s k))=true then k+((s.drop k).takeWhile nmU).length else k
def nO{s:Str}{j:Nat}(h:j<s.length)(hn:nmI (at8 s j)=true):((s.drop j).takeWhile nmU).length=1+((s.drop (j+1)).takeWhile nmU).length:=by have:nmU (at_ s j)=true:=hn;rw[bA h,takeWhile_cons_of_pos this,length_cons];omega
def J6{s:Str}{j:Nat}(h:j<s.length->nmI (at8 s j)=false):(s.drop j).takeWhile nmU=[]:=by
 by_cases hj:j<s.length
 ·have:¬nmU (at_ s j)=true:=by have:=h hj;unfold nmU;rw[pP]at this;rw[this];simp
  rw[bA hj,takeWhile_cons_of_neg this]
 ·rw[drop_eq_nil_of_le Um];rfl
def qM(s:Str)(k:Nat)(h:k<=s.length):k<=dG s k/\dG s k<=s.length:=by
 unfold dG;split
 ·have:=(takeWhile_prefix (p:=nmU) (l:=s.drop k)).length_le;simp only[length_drop]at this;omega
 ·omega
def LH:tk []=([],true):=by rw[tk.eq_def]
def tU(c:UInt8)(r:Str):tk (c::r)=if c == 36 then (match r with
   | []=>([],false)
   | d::r'=>if d == 36 then lH (.inl 36) (tk r') else if KE d then lH (.inr (d::r'.takeWhile nmU)) (tk (r'.dropWhile nmU)) else ([],false)) else lH (.inl c) (tk r):=by
 rw[tk.eq_def];rfl
def rZ(s:Str)(k:Nat):(at_ s k == 36)=(at8 s k == 36):=by
 rw[pP];by_cases h:at_ s k=36
 ·rw[h];rfl
 ·have h2:((at_ s k).toNat:Int)≠36:=λe=>h (by
   have:(at_ s k).toNat=36:=by omega
   rw[<- UInt8.ofNat_toNat (x:=at_ s k),this];rfl)
  rw[beq_eq_false_iff_ne.2 h,beq_eq_false_iff_ne.2 h2]
def uS{s:Str}{k:Nat}(h:k<s.length)(h36:at8 s k≠36):tk (s.drop k)=lH (.inl (at_ s k)) (tk (s.drop (k+1))):=by rw[bA h,tU,rZ,beq_eq_false_iff_ne.2 h36];simp
def AK{s:Str}{k:Nat}(h:k+1<s.length)(h1:at8 s k=36)(h2:at8 s (k+1:Nat)=36):tk (s.drop k)=lH (.inl 36) (tk (s.drop (k+2))):=by rw[bA (by omega:k<s.length),tU,rZ,h1,bA h];simp only[rZ,h2,beq_self_eq_true,if_true]
def mP{n:Int}(h:ltI n=true):nmI n=true:=by simp[nmI,h]
def Ky{s:Str}{k:Nat}(h:dG s k≠k):k<s.length/\ltI (at8 s k)=true/\dG s k=k+1+((s.drop (k+1)).takeWhile nmU).length:=by
 unfold dG at h ⊢;split at h
 ·rename_i hc;simp at hc;rw[if_pos (by simp[hc])];refine⟨hc.1,hc.2,?_⟩;rw[nO hc.1 (mP hc.2)];omega
 ·exact absurd rfl h
def BA{s:Str}{k:Nat}(h:dG s k=k)(hk:k<s.length):ltI (at8 s k)=false:=by
 cases hl:ltI (at8 s k)with
 | false=>rfl
 | true =>
  unfold dG at h;rw[if_pos (by simp[hk,hl]),nO hk (mP hl)]at h;omega
def tV{s:Str}{k:Nat}(h:k<s.length)(h1:at8 s k=36)(h2:k+1<s.length->at8 s (k+1:Nat)≠36)(h3:k+1<s.length->ltI (at8 s (k+1:Nat))=false):tk (s.drop k)=([],false):=by
 rw[bA h,tU,rZ,h1];by_cases hk:k+1<s.length
 ·have h4:=h3 hk;rw[bA hk];simp only[rZ,beq_eq_false_iff_ne.2 (h2 hk),KE,<- pP,h4];simp
 ·rw[drop_eq_nil_of_le Um];simp
def tT{s:Str}{k:Nat}(h:k<s.length)(h1:at8 s k=36)(h2:k+1<s.length->at8 s (k+1:Nat)≠36)(h3:dG s (k+1)≠k+1) :
  tk (s.drop k)=lH (.inr ((s.take (dG s (k+1))).drop (k+1))) (tk (s.drop (dG s (k+1)))):=by
 obtain⟨hk,hl,he⟩:=Ky h3
 have e1:(s.drop (k+1)).dropWhile nmU=s.drop (dG s (k+1))/\(s.drop (k+1)).takeWhile nmU=(s.take (dG s (k+1))).drop (k+1):=by
  have hsp:(s.drop (k+1)).takeWhile nmU++(s.drop (k+1)).dropWhile nmU=s.drop (k+1):=takeWhile_append_dropWhile
  have hlen:dG s (k+1)=k+1+((s.drop (k+1)).takeWhile nmU).length:=by
   rw[he,nO hk (mP hl)];omega
  constructor
  ·have:=congrArg (List.drop ((s.drop (k+1)).takeWhile nmU).length) hsp;rw[drop_left,drop_drop]at this;rw[this,hlen]
  ·have:=congrArg (take ((s.drop (k+1)).takeWhile nmU).length) hsp;rw[take_left]at this;rw[this,drop_take,hlen]
   congr 1;omega
 rw[bA h,tU,rZ,h1];rw[bA hk]at e1;have hn:nmU (at_ s (k+1))=true:=mP hl;rw[dropWhile_cons_of_pos hn,takeWhile_cons_of_pos hn]at e1;rw[bA hk];simp only[rZ,beq_eq_false_iff_ne.2 (h2 hk),KE,<- pP,hl,e1.1,e1.2];simp
def jn(s:Str)(k:Nat)(done:List Tok):Prop:=tk s=(done++(tk (s.drop k)).1,(tk (s.drop k)).2)
def sx(s:Str):jn s 0 []:=by simp[jn]
def jn.next{s:Str}{k j:Nat}{done:List Tok}{x:Tok}(h:jn s k done)(e:tk (s.drop k)=lH x (tk (s.drop j))):jn s j (done++[x]):=by unfold jn at h ⊢;rw[h,e];simp[lH]
def jn.bad{s:Str}{k:Nat}{done:List Tok}(h:jn s k done)(e:tk (s.drop k)=([],false)):tk s=(done,false):=by unfold jn at h;rw[h,e];simp
def jn.fin{s:Str}{k:Nat}{done:List Tok}(h:jn s k done)(hk:¬k<s.length):tk s=(done,true):=by unfold jn at h;rw[h,drop_eq_nil_of_le Um,LH];simp
