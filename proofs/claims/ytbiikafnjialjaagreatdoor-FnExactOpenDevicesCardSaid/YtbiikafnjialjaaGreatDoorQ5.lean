/- Part of a proof. -/
import Derived.Test.YtbiikafnjialjaaGreatDoorQ3
import Derived.Test.YtbiikafnjialjaaGreatDoorQ4
set_option linter.all false
open List
namespace Go.Dt
open Go.Ab
def ltI(n:Int):Bool:=decide (97<=n) && decide (n<=122)
def oH(n:Int):Bool:=decide (48<=n) && decide (n<=57)
def nmI(n:Int):Bool:=ltI n || oH n || n == 45
def Ly(c:UInt8):Bool:=ltI c.toNat
def nmU(c:UInt8):Bool:=nmI c.toNat
def Zb:lim 1=1099511627776:=rfl
def Za{n:Nat}(h:1<n)(h2:n<1000000000):lim n=2147483648:=by unfold lim;rw[if_neg Yt,if_pos h2]
attribute [go_sem] Zb Za
abbrev Tok:=UInt8 ⊕ Str
def lS(x:Tok)(p:List Tok×Bool):List Tok×Bool:=(x::p.1,p.2)
def tk(s:Str):List Tok×Bool :=
 match s with
 | []=>([],true)
 | c::r=>if c == 36 then (match r with
   | []=>([],false)
   | d::r'=>if d == 36 then lS (.inl 36) (tk r') else if Ly d then lS (.inr (d::r'.takeWhile nmU)) (tk (r'.dropWhile nmU)) else ([],false)) else lS (.inl c) (tk r)
termination_by s.length
decreasing_by
 all_goals simp_wf
 ·omega
 ·have:=(dropWhile_suffix (p:=nmU) (l:=r')).length_le;omega
def eX:List Tok->List Str
 | []=>[]
 | .inl _::l=>eX l
 | .inr s::l=>s::eX l
def nmL(p:List Tok×Bool):List Str:=bif p.2 then eX p.1 else []
def fk:∀a b:List Tok,eX (a++b)=eX a++eX b
 | [],_=>rfl
 | .inl _::a,b=>by simp[eX,fk a b]
 | .inr _::a,b=>by simp[eX,fk a b]
def dP(s:Str)(k:Nat):Nat:=if (decide (k<s.length) && ltI (at8 s k))=true then k+((s.drop k).takeWhile nmU).length else k
def nY{s:Str}{j:Nat}(h:j<s.length)(hn:nmI (at8 s j)=true):((s.drop j).takeWhile nmU).length=1+((s.drop (j+1)).takeWhile nmU).length:=by have:nmU (at_ s j)=true:=hn;rw[bT h,takeWhile_cons_of_pos this,length_cons];omega
def KY{s:Str}{j:Nat}(h:j<s.length->nmI (at8 s j)=false):(s.drop j).takeWhile nmU=[]:=by
 by_cases hj:j<s.length
 ·have:¬nmU (at_ s j)=true:=by have:=h hj;unfold nmU;rw[qb]at this;rw[this];simp
  rw[bT hj,takeWhile_cons_of_neg this]
 ·rw[drop_eq_nil_of_le Yt];rfl
def rz(s:Str)(k:Nat)(h:k<=s.length):k<=dP s k/\dP s k<=s.length:=by
 unfold dP;split
 ·have:=(takeWhile_prefix (p:=nmU) (l:=s.drop k)).length_le;simp only[length_drop]at this;omega
 ·omega
def MD:tk []=([],true):=by rw[tk.eq_def]
def uC(c:UInt8)(r:Str):tk (c::r)=if c == 36 then (match r with
   | []=>([],false)
   | d::r'=>if d == 36 then lS (.inl 36) (tk r') else if Ly d then lS (.inr (d::r'.takeWhile nmU)) (tk (r'.dropWhile nmU)) else ([],false)) else lS (.inl c) (tk r):=by
 rw[tk.eq_def];rfl
def sS(s:Str)(k:Nat):(at_ s k == 36)=(at8 s k == 36):=by
 rw[qb];by_cases h:at_ s k=36
 ·rw[h];rfl
 ·have h2:((at_ s k).toNat:Int)≠36:=λe=>h (by
   have:(at_ s k).toNat=36:=by omega
   rw[<- UInt8.ofNat_toNat (x:=at_ s k),this];rfl)
  rw[beq_eq_false_iff_ne.2 h,beq_eq_false_iff_ne.2 h2]
def vC{s:Str}{k:Nat}(h:k<s.length)(h36:at8 s k≠36):tk (s.drop k)=lS (.inl (at_ s k)) (tk (s.drop (k+1))):=by rw[bT h,uC,sS,beq_eq_false_iff_ne.2 h36];simp
def Bx{s:Str}{k:Nat}(h:k+1<s.length)(h1:at8 s k=36)(h2:at8 s (k+1:Nat)=36):tk (s.drop k)=lS (.inl 36) (tk (s.drop (k+2))):=by rw[bT (by omega:k<s.length),uC,sS,h1,bT h];simp only[sS,h2,beq_self_eq_true,if_true]
def mY{n:Int}(h:ltI n=true):nmI n=true:=by simp[nmI,h]
def Ls{s:Str}{k:Nat}(h:dP s k≠k):k<s.length/\ltI (at8 s k)=true/\dP s k=k+1+((s.drop (k+1)).takeWhile nmU).length:=by
 unfold dP at h ⊢;split at h
 ·rename_i hc;simp at hc;rw[if_pos (by simp[hc])];refine⟨hc.1,hc.2,?_⟩;rw[nY hc.1 (mY hc.2)];omega
 ·exact absurd rfl h
def Ck{s:Str}{k:Nat}(h:dP s k=k)(hk:k<s.length):ltI (at8 s k)=false:=by
 cases hl:ltI (at8 s k)with
 | false=>rfl
 | true =>
  unfold dP at h;rw[if_pos (by simp[hk,hl]),nY hk (mY hl)]at h;omega
def uD{s:Str}{k:Nat}(h:k<s.length)(h1:at8 s k=36)(h2:k+1<s.length->at8 s (k+1:Nat)≠36)(h3:k+1<s.length->ltI (at8 s (k+1:Nat))=false):tk (s.drop k)=([],false):=by
 rw[bT h,uC,sS,h1];by_cases hk:k+1<s.length
 ·have h4:=h3 hk;rw[bT hk];simp only[sS,beq_eq_false_iff_ne.2 (h2 hk),Ly,<- qb,h4];simp
 ·rw[drop_eq_nil_of_le Yt];simp
def uB{s:Str}{k:Nat}(h:k<s.length)(h1:at8 s k=36)(h2:k+1<s.length->at8 s (k+1:Nat)≠36)(h3:dP s (k+1)≠k+1) :
  tk (s.drop k)=lS (.inr ((s.take (dP s (k+1))).drop (k+1))) (tk (s.drop (dP s (k+1)))):=by
 obtain⟨hk,hl,he⟩:=Ls h3
 have e1:(s.drop (k+1)).dropWhile nmU=s.drop (dP s (k+1))/\(s.drop (k+1)).takeWhile nmU=(s.take (dP s (k+1))).drop (k+1):=by
  have hsp:(s.drop (k+1)).takeWhile nmU++(s.drop (k+1)).dropWhile nmU=s.drop (k+1):=takeWhile_append_dropWhile
  have hlen:dP s (k+1)=k+1+((s.drop (k+1)).takeWhile nmU).length:=by
   rw[he,nY hk (mY hl)];omega
  constructor
  ·have:=congrArg (List.drop ((s.drop (k+1)).takeWhile nmU).length) hsp;rw[drop_left,drop_drop]at this;rw[this,hlen]
  ·have:=congrArg (take ((s.drop (k+1)).takeWhile nmU).length) hsp;rw[take_left]at this;rw[this,drop_take,hlen]
   congr 1;omega
 rw[bT h,uC,sS,h1];rw[bT hk]at e1;have hn:nmU (at_ s (k+1))=true:=mY hl;rw[dropWhile_cons_of_pos hn,takeWhile_cons_of_pos hn]at e1;rw[bT hk];simp only[sS,beq_eq_false_iff_ne.2 (h2 hk),Ly,<- qb,hl,e1.1,e1.2];simp
def jC(s:Str)(k:Nat)(done:List Tok):Prop:=tk s=(done++(tk (s.drop k)).1,(tk (s.drop k)).2)
def sX(s:Str):jC s 0 []:=by simp[jC]
def jC.next{s:Str}{k j:Nat}{done:List Tok}{x:Tok}(h:jC s k done)(e:tk (s.drop k)=lS x (tk (s.drop j))):jC s j (done++[x]):=by unfold jC at h ⊢;rw[h,e];simp[lS]
def jC.bad{s:Str}{k:Nat}{done:List Tok}(h:jC s k done)(e:tk (s.drop k)=([],false)):tk s=(done,false):=by unfold jC at h;rw[h,e];simp
def jC.fin{s:Str}{k:Nat}{done:List Tok}(h:jC s k done)(hk:¬k<s.length):tk s=(done,true):=by unfold jC at h;rw[h,drop_eq_nil_of_le Yt,MD];simp
