/- Part of a proof. -/
import Derived.Test.YtpelkkfkecfmbaaGreatDoorH20
set_option linter.all false
namespace Go.Dt
open Go Go.Ab
def BU(f:Nat)(n:ae)(x:ah):ah:=.mk x.ag x.ax (if n.af.isEmpty=true then [] else gW f n.af x.af)
def gkE(f:Nat)(s:List ae)(n:ae):List ah :=
 if n.aj=3/\n.bS=true then [.mk n.ag n.aV []]
 else if n.aj=1/\n.aZ=false/\wX s n.ag=true then
  (if (gW f n.af []).isEmpty=true then [] else [.mk n.ag [] (gW f n.af [])])
 else []
def gkS(f:Nat)(s:List ae)(l:List ah)(i:Nat):List ah :=
 if (l.filter (ndP (at_ (dk s) i).ag)).isEmpty=true then gkE f s (at_ (dk s) i) else (l.filter (ndP (at_ (dk s) i).ag)).map (BU f (at_ (dk s) i))
def y7{α:Type}(g:Nat->List α)(i:Nat):(List.range (i+1)).flatMap g=(List.range i).flatMap g++g i:=by rw [List.range_succ,List.flatMap_append];simp
def Tp{f:Nat}{s:List ae}{l:List ah}{i:Nat}(h:l.any (ndP (at_ (dk s) i).ag)=true):gkS f s l i=(l.filter (ndP (at_ (dk s) i).ag)).map (BU f (at_ (dk s) i)):=by rw [gkS,if_neg];intro e;rw [List.isEmpty_iff,List.filter_eq_nil_iff] at e;obtain ⟨x,hx,hp⟩:=List.any_eq_true.1 h;exact e x hx hp
def Tq{f:Nat}{s:List ae}{l:List ah}{i:Nat}(h:l.any (ndP (at_ (dk s) i).ag)=false):gkS f s l i=gkE f s (at_ (dk s) i)/\l.filter (ndP (at_ (dk s) i).ag)=[]:=by
 have e:l.filter (ndP (at_ (dk s) i).ag)=[]:=by
  rw [List.filter_eq_nil_iff];intro x hx hp;rw [List.any_eq_false] at h;exact h x hx hp
 exact ⟨by rw [gkS,e];rfl,e⟩
def Tt(f:Nat)(s:List ae)(n:ae):(gkE f s n).length<=1:=by
 unfold gkE;repeat' split
 all_goals simp
def Wm(f:Nat)(s:List ae)(l:List ah)(i:Nat):(gkS f s l i).length<=l.length+1:=by
 unfold gkS;split
 ·have:=Tt f s (at_ (dk s) i);omega
 ·rw [List.length_map];have:=List.length_filter_le (ndP (at_ (dk s) i).ag) l;omega
def I0(f:Nat)(s:List ae)(l:List ah):∀ i:Nat,((List.range i).flatMap (gkS f s l)).length<=i * (l.length+1)
 | 0=>by simp
 | i+1=>by
  rw [y7,List.length_append,Nat.succ_mul];have:=I0 f s l i;have:=Wm f s l i;omega
def uX{p:ah->Bool}{l:List ah}{k:Nat}(h:k<l.length):(l.take (k+1)).filter p=(l.take k).filter p++(if p (at_ l k)=true then [at_ l k] else []):=by
 rw [tk1 h,List.filter_append];congr 1;by_cases e:p (at_ l k)=true
 ·rw [if_pos e];simp [e]
 ·rw [if_neg e];simp [e]
def D4{p:ah->Bool}{l:List ah}{k:Nat}(h:k<l.length):(l.take (k+1)).any p=((l.take k).any p || p (at_ l k)):=by rw [tk1 h,List.any_append];simp
def flG(f:Nat)(s:List ae)(l:List ah)(i:Nat):List ah:=(List.range i).flatMap (gkS f s l)
def GY(f:Nat)(s:List ae)(l:List ah)(i:Nat):flG f s l (i+1)=flG f s l i++gkS f s l i:=y7 _ i
def TA(f:Nat)(s:List ae)(l:List ah)(i:Nat):(flG f s l i).length<=i * (l.length+1):=I0 f s l i
def Qa(f:Nat)(s:List ae)(l:List ah):flG f s l 0=[]:=rfl
def TI(f:Nat)(s:List ae)(l:List ah):gW (f+1) s l=flG f s l (dk s).length:=rfl
attribute [irreducible] flG
def fkG(f:Nat)(n:ae)(l:List ah)(k:Nat):List ah:=((l.take k).filter (ndP n.ag)).map (BU f n)
def TB{f:Nat}{n:ae}{l:List ah}{k:Nat}(h:k<l.length)(e:(at_ l k).ag=n.ag):fkG f n l (k+1)=fkG f n l k++[BU f n (at_ l k)]:=by rw [fkG,uX h,if_pos (by simpa [ndP] using e),List.map_append];rfl
def Wt{f:Nat}{n:ae}{l:List ah}{k:Nat}(h:k<l.length)(e:¬ (at_ l k).ag=n.ag):fkG f n l (k+1)=fkG f n l k:=by rw [fkG,uX h,if_neg (by simpa [ndP] using e),List.append_nil];rfl
def Qb(f:Nat)(n:ae)(l:List ah):fkG f n l 0=[]:=rfl
def TC(f:Nat)(n:ae)(l:List ah)(k:Nat):(fkG f n l k).length<=k:=by rw [fkG,List.length_map];have:=List.length_filter_le (ndP n.ag) (l.take k);rw [List.length_take] at this;omega
def anG(n:ae)(l:List ah)(k:Nat):Bool:=(l.take k).any (ndP n.ag)
def Uh{n:ae}{l:List ah}{k:Nat}(h:k<l.length)(e:(at_ l k).ag=n.ag):anG n l (k+1)=true:=by rw [anG,D4 h,show ndP n.ag (at_ l k)=true by simpa [ndP] using e,Bool.or_true]
def WS{n:ae}{l:List ah}{k:Nat}(h:k<l.length)(e:¬ (at_ l k).ag=n.ag):anG n l (k+1)=anG n l k:=by rw [anG,D4 h,show ndP n.ag (at_ l k)=false by simpa [ndP] using e,Bool.or_false];rfl
def QA(n:ae)(l:List ah):anG n l 0=false:=rfl
def Tr{f:Nat}{s:List ae}{l:List ah}{i k:Nat}(hk:¬ k<l.length)(h:anG (at_ (dk s) i) l k=true):fkG f (at_ (dk s) i) l k=gkS f s l i:=by rw [anG,List.take_of_length_le Ir] at h;rw [Tp h,fkG,List.take_of_length_le Ir]
def Ts{f:Nat}{s:List ae}{l:List ah}{i k:Nat}(hk:¬ k<l.length)(h:anG (at_ (dk s) i) l k=false):fkG f (at_ (dk s) i) l k=[]/\gkS f s l i=gkE f s (at_ (dk s) i):=by rw [anG,List.take_of_length_le Ir] at h;obtain ⟨a,b⟩:=Tq (f:=f) h;exact ⟨by rw [fkG,List.take_of_length_le Ir,b];rfl,a⟩
attribute [irreducible] fkG anG
end Go.Dt
