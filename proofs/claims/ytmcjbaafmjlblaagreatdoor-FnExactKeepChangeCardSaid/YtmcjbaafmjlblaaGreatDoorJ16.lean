/- A part. -/
import Derived.Shelf.Strconv.Itoa3
import Derived.Shelf.Small.Strs
import Derived.Test.YtmcjbaafmjlblaaGreatDoorJ14
import Derived.Test.YtmcjbaafmjlblaaGreatDoorJ15
set_option linter.all false
set_option maxRecDepth 20000
set_option maxHeartbeats 4000000
namespace Go.Dt
open Go.Ab
section
def dg(u:Nat):Str:=if u=0 then [] else Lib.decDigits u
theorem Hs{u:Nat}(h:u≠0):dg u=dg (u / 10)++[UInt8.ofNat (48+u % 10)]:=by
 rw [dg,if_neg h,Lib.decDigits,dg]
 split
 ·rename_i h10
  rw [if_pos (by omega),List.nil_append,Nat.mod_eq_of_lt h10]
 ·rw [if_neg (by omega)]
theorem R2(u:Nat):(dg u).length<=u / 10+1:=by
 induction u using Nat.strongRecOn with
 | _ u ih =>
  by_cases h:u=0
  ·subst h;simp [dg]
  ·rw [Hs h]
   have:=ih (u / 10) (by omega)
   simp only [List.length_append,List.length_singleton]
   by_cases h10:u / 10=0
   ·rw [h10];simp [dg]
   ·omega
theorem Ki:Lib.itoa 0=[48]:=by rw [Lib.itoa,if_neg (by omega),Lib.decDigits];rfl
theorem GW{n:Int}(h:n≠0):Lib.itoa n=if n<0 then 45::dg n.natAbs else dg n.natAbs:=by
 have e:¬ n.natAbs=0:=by omega
 simp only [Lib.itoa,dg,e,if_false]
 split
 ·rfl
 ·rw [show n.toNat=n.natAbs by omega]
def dgt(s:Str)(j:Nat):Bool:=mB (at8 s j)
def fk(s:Str):Nat->Nat
 | 0=>0
 | k+1=>10 * fk s k+(at8 s k - 48).toNat
theorem Lu(s:Str)(k j:Nat):fk s k<=fk s (k+j):=by
 induction j with
 | zero=>exact Nat.le_refl _
 | succ j ih=>rw [<- Nat.add_assoc,fk];omega
theorem pQ{s:Str}{k:Nat}:dgt s k=true↔48<=at8 s k/\at8 s k<=57:=by simp [dgt,mB]
theorem Da{s:Str}{k:Nat}(h:48<=at8 s k):(fk s (k+1):Int)=10 * fk s k+(at8 s k - 48):=by rw [fk];omega
def rdB(s:Str):Bool:=cO (dgt s) s.length && (decide (fk s s.length<=1000000000) && decide (0<s.length))
def rdN(s:Str):Int:=bif rdB s then fk s s.length else 0
theorem H6{s:Str}{k:Nat}(h:k<s.length)(e:¬ (48<=at8 s k/\at8 s k<=57)):rdB s=false:=by
 rw [rdB,dU h (Bool.eq_false_iff.2 fun h=>e (pQ.1 h))];rfl
theorem JF{s:Str}{k:Nat}(h:k<=s.length)(e:1000000000<fk s k):rdB s=false:=by
 have:=Lu s k (s.length - k)
 rw [show k+(s.length - k)=s.length by omega] at this
 have:decide (fk s s.length<=1000000000)=false:=by simp;omega
 rw [rdB,this];simp
def sgn(s:Str):Bool:=decide (0<s.length) && (at8 s 0 == 45 || at8 s 0 == 43)
def tlS(s:Str):Str:=bif sgn s then s.drop 1 else s
def ic(s:Str):Int:=bif rdB (tlS s) then (if at8 s 0=45 then - rdN (tlS s) else rdN (tlS s)) else 0
def jP(s:Str):Bool:=rdB (tlS s)
theorem H7(s:Str):0<=rdN s/\rdN s<=1000000000:=by
 unfold rdN
 cases h:rdB s with
 | false=>simp
 | true =>
  simp only [rdB,Bool.and_eq_true,decide_eq_true_eq] at h
  simp only [cond_true];omega
theorem Al(s:Str):-1000000000<=ic s/\ic s<=1000000000:=by
 have:=H7 (tlS s)
 unfold ic
 cases rdB (tlS s) with
 | false=>simp
 | true=>simp only [cond_true];split<;>omega
def sK(n:Int)(r:du):Bool:=decide (r.fLo<=n) && decide (n<=r.fHi)
def uX(l:List du)(n:Int):Bool:=l.any (sK n) || decide (l.length=0)
end
section
theorem JE{s:Str}{k:Nat}(hR:cO (dgt s) k=true)(hv:fk s k<=1000000000)(hk:k<=s.length)(h:¬ k<s.length):rdB s=decide ((0:Int)<(s.length:Int))/\(rdN s=fk s k):=by
 obtain rfl:k=s.length:=by omega
 have e:rdB s=decide ((0:Int)<(s.length:Int)):=by
  rw [rdB,hR,decide_eq_true hv,Bool.true_and,Bool.true_and]
  exact decide_eq_decide.2 (by omega)
 refine ⟨e,?_⟩
 rw [rdN,e]
 by_cases h0:s.length=0
 ·rw [h0];rfl
 ·rw [decide_eq_true (by omega)];rfl
theorem Ln{α:Type}[Inhabited α]{p:α->Bool}{l:List α}{k:Nat}(h:k<l.length)(e:p (at_ l k)=true):l.any p=true:=List.any_eq_true.2 ⟨_,at_mem h,e⟩
theorem HJ{α:Type}{p:α->Bool}{l:List α}{k:Nat}(hk:¬ k<l.length)(h:∀ x∈l.take k,p x=false):l.any p=false:=by
 rw [List.take_of_length_le (by omega)] at h
 rw [List.any_eq_false];intro x hx;rw [h x hx];simp
theorem uj(x:Int):(x.tdiv 10).natAbs=x.natAbs / 10:=by rw [Int.natAbs_tdiv];rfl
end
section
@[go_sem] theorem Y9{y:Int}(h0:0<=y)(h1:y<=255):unb [.v (.int .u8 y)]=some [UInt8.ofNat y.toNat]:=by simp only [unb,if_pos (And.intro h0 h1),Option.map_some]
theorem Dh(x:Int):-9<=x.tmod 10/\x.tmod 10<=9/\(x.tmod 10).natAbs=x.natAbs % 10:=by
 have h:=Int.natAbs_tmod x 10
 have h2:(x.tmod 10).natAbs<10:=by rw [h];exact Nat.mod_lt _ (by decide)
 have h3:=uj x
 exact ⟨by omega,by omega,h⟩
theorem GL(n:Nat):((n:Int) == 0)=decide (n=0):=by
 by_cases h:n=0
 ·simp [h]
 ·simp [h]
theorem jQ{s:Str}:(s.take s.length).drop (Int.toNat 1)=s.drop 1:=by simp
theorem ui{s:Str}(h:0<(s.length:Int)/\(at8 s 0=45\/at8 s 0=43)):tlS s=s.drop 1:=by
 have:sgn s=true:=by simp only [sgn,Bool.and_eq_true,decide_eq_true_eq,Bool.or_eq_true,beq_iff_eq];exact ⟨by omega,h.2⟩
 rw [tlS,this];rfl
theorem HQ{s:Str}(h:0<(s.length:Int)->¬ at8 s 0=45/\¬ at8 s 0=43):tlS s=s:=by
 have:sgn s=false:=by
  simp only [sgn,Bool.and_eq_false_imp,decide_eq_true_eq,Bool.or_eq_false_iff,beq_eq_false_iff_ne,ne_eq]
  exact fun q=>h (by omega)
 rw [tlS,this];rfl
@[go_sem] theorem YJ:rdB []=false:=rfl
end
section
theorem Ht{x:Int}{s t:Str}{c:UInt8}(hx:¬ x=0)(hs:dg x.natAbs++s=t)(hc:c=UInt8.ofNat (48+x.natAbs % 10)):dg (x.tdiv 10).natAbs++c::s=t:=by
 rw [Hs (by omega),List.append_assoc] at hs
 rw [uj,hc];exact hs
theorem Lm{a s t:Str}(h:a++s=t):s.length<=t.length:=by rw [<- h,List.length_append];omega
end
section
theorem HN{t:Str}{k:Nat}{v:Int}(hd:48<=at8 t k/\at8 t k<=57)(h1:fk t k<=1000000000->v=fk t k)(h2:1000000000<fk t k->1000000000<v) :
  (v<=1000000000->(fk t (k+1)<=1000000000->v * 10+(at8 t k - 48)=fk t (k+1))/\(1000000000<fk t (k+1)->1000000000<v * 10+(at8 t k - 48))) /\
  (1000000000<v->(fk t (k+1)<=1000000000->v=fk t (k+1))/\(1000000000<fk t (k+1)->1000000000<v)):=by
 have:=Da (s:=t) (k:=k) hd.1
 refine ⟨fun h=>⟨fun _=>?_,fun _=>?_⟩,fun h=>⟨fun _=>?_,fun _=>?_⟩⟩<;>omega
theorem JD{t:Str}{k:Nat}{v:Int}(hR:cO (dgt t) k=true)(hk:k<=t.length)(h:¬ k<t.length)(h0:¬ t=[])(h1:fk t k<=1000000000->v=fk t k)(h2:1000000000<fk t k->1000000000<v) :
  rdB t=decide (v<=1000000000)/\(v<=1000000000->rdN t=v):=by
 have hl:0<t.length:=List.length_pos_iff.2 h0
 by_cases e:fk t k<=1000000000
 ·obtain ⟨a,b⟩:=JE hR e hk h
  rw [h1 e,a,b]
  exact ⟨by rw [decide_eq_true (by omega),decide_eq_true (by omega)],fun _=>rfl⟩
 ·have:=h2 (by omega)
  rw [JF hk (by omega)]
  exact ⟨by rw [decide_eq_false (by omega)],fun h=>by omega⟩
end
end Go.Dt
namespace Go.Proofs
open Go.Ab Go.Dt
set_option maxHeartbeats 1000000
instance QF(n:Int):Ctr lim Tryz.prog 238 [] [.v (.int .i64 n)] (.str (Lib.itoa n)) [] (-9223372036854775808<=n/\n<=9223372036854775807):=by
 refine Ctr.bd Tryz.func238 Tryz.ntmps238 rfl rfl fun hp=>?_
 (refine vU ?_;with_reducible repeat' first|exact Le.l|apply Sw|intro h)
 ·rw [h,Ki]
 have hl:=R2 n.natAbs
 refine AW.aA [3,4] [0,2] (fun m xs o=>∃ (s:Str) (x:Int),xs=[.str s,.v (.int .i64 x)]/\o=[]/\m=x.natAbs/\dg x.natAbs++s=dg n.natAbs/\s.length<=n.natAbs / 10+1/\-9223372036854775808<=x/\x<=9223372036854775807) n.natAbs [] trivial ⟨[],n,?_,rfl,rfl,?_,?_,?_,?_⟩ ?_
 ·rfl
 ·simp
 ·simp
 ·omega
 ·omega
 rintro m xs o ⟨s,x,rfl,rfl,rfl,hs,hl2,hx1,hx2⟩
 have hd:=uj x
 have hm:=Dh x
 (refine vU ?_;with_reducible repeat' first|exact Le.l|apply Sw|intro h)
 ·have e:=Ht (c:=UInt8.ofNat (48+(0 - x.tmod 10)).toNat) (by assumption) hs (by congr 1;omega)
  exact ⟨_,[_,_],[],by omega,⟨_,_,rfl,rfl,rfl,e,by have:=Lm e;omega,by omega,by omega⟩,rfl,trivial⟩
 ·have e:=Ht (c:=UInt8.ofNat (48+x.tmod 10).toNat) (by assumption) hs (by congr 1;omega)
  exact ⟨_,[_,_],[],by omega,⟨_,_,rfl,rfl,rfl,e,by have:=Lm e;omega,by omega,by omega⟩,rfl,trivial⟩
 ·rename_i hx;subst hx;rw [GW (by omega),if_pos h,<- hs];rfl
 ·rename_i hx;subst hx;rw [GW (by omega),if_neg (by omega),<- hs];rfl
instance Tt(L:Nat->Nat)(s:Str):Ctr L Tryz.prog 260 [] [.str s] (.tup [.v (.int .i64 (rdN s)),.v (.bool (rdB s))]) [] True:=by
 refine Ctr.bd Tryz.func260 Tryz.ntmps260 rfl rfl fun hp=>?_
 refine AW.fact 0 fun hf=>?_
 simp (disch:=omega) only [go_sem,Nat.reduceBEq] at hf
 (refine vU ?_;with_reducible repeat' first|exact Le.l|apply Sw|intro h)
 refine AW.aA [4,5] [0] (fun m xs o=>∃ k:Nat,xs=[.v (.int .i64 (fk s k)),.v (.int .i64 k)]/\o=[]/\m=s.length - k/\k<=s.length/\cO (dgt s) k=true/\fk s k<=1000000000) s.length [] trivial ⟨0,?_,rfl,rfl,?_,rfl,?_⟩ ?_
 ·rfl
 ·omega
 ·simp [fk]
 rintro m xs o ⟨k,rfl,rfl,rfl,hk,hR,hv⟩
 have hst:=@Da s k
 (refine vU ?_;with_reducible repeat' first|exact Le.l|apply Sw|intro h)
 ·have:=H6 (s:=s) (k:=k) (by assumption) (by omega)
  simp [rdN,this]
 ·have:=JF (s:=s) (k:=k+1) (by omega) (by omega)
  simp [rdN,this]
 ·exact ⟨_,[_,_],[],by omega,⟨k+1,rfl,rfl,rfl,by omega,dA hR (pQ.2 (by assumption)),by omega⟩,by rw [hst (by omega)];rfl,trivial⟩
 ·obtain ⟨e1,e2⟩:=JE hR hv hk h
  rw [e1,e2]
instance SD(L:Nat->Nat)[hL:Lok L](l:List du)(n:Int):Ctr L Tryz.prog 239 [] [.sl false 2 (l.map (aR false)),.v (.int .i64 n)] (.v (.bool (uX l n))) [] True:=by
 refine Ctr.bd Tryz.func239 Tryz.ntmps239 rfl rfl fun hp=>?_
 refine AW.fact 0 fun hf=>?_
 simp (disch:=omega) only [go_sem,Nat.reduceBEq] at hf
 have hf:=Nat.le_trans hf (hL.le 2)
 (refine vU ?_;with_reducible repeat' first|exact Le.l|apply Sw|intro h)
 refine AW.aA [5] [0,1] (fun m xs o=>∃ k:Nat,xs=[.v (.int .i64 k)]/\o=[]/\m=l.length - k/\k<=l.length/\∀ x∈l.take k,sK n x=false) l.length [] trivial ⟨0,?_,rfl,rfl,?_,?_⟩ ?_
 ·rfl
 ·omega
 ·simp
 rintro m xs o ⟨k,rfl,rfl,rfl,hk,hR⟩
 (refine vU ?_;with_reducible repeat' first|exact Le.l|apply Sw|intro h)
 ·rw [uX,Ln (by assumption) (by simp [sK,h])];rfl
 ·exact ⟨_,[_],[],by omega,⟨k+1,rfl,rfl,rfl,by omega,bJ (by assumption) hR (by simp [sK];omega)⟩,rfl,trivial⟩
 ·rw [uX,HJ h hR,GL];rfl
instance SS(L:Nat->Nat)[hL:Lok L](l:List du)(n:Int):Ctr L Tryz.prog 247 [] [.sl false 2 (l.map (aR false)),.v (.int .i64 n)] (.v (.bool (uX l n))) [] True:=by
 refine Ctr.bd Tryz.func247 Tryz.ntmps247 rfl rfl fun hp=>?_
 refine AW.fact 0 fun hf=>?_
 simp (disch:=omega) only [go_sem,Nat.reduceBEq] at hf
 have hf:=Nat.le_trans hf (hL.le 2)
 (refine vU ?_;with_reducible repeat' first|exact Le.l|apply Sw|intro h)
 refine AW.aA [9] [0,1,7,8] (fun m xs o=>∃ k:Nat,xs=[.v (.int .i64 k)]/\o=[]/\m=l.length - k/\k<=l.length/\∀ x∈l.take k,sK n x=false) l.length [] trivial ⟨0,?_,rfl,rfl,?_,?_⟩ ?_
 ·rfl
 ·omega
 ·simp
 rintro m xs o ⟨k,rfl,rfl,rfl,hk,hR⟩
 (refine vU ?_;with_reducible repeat' first|exact Le.l|apply Sw|intro h)
 ·rw [uX,Ln (by assumption) (by simp [sK,h])];rfl
 ·exact ⟨_,[_],[],by omega,⟨k+1,rfl,rfl,rfl,by omega,bJ (by assumption) hR (by simp [sK];omega)⟩,rfl,trivial⟩
 ·rw [uX,HJ h hR,GL];rfl
instance Tq(L:Nat->Nat)(s:Str):Ctr L Tryz.prog 237 [] [.str s] (.tup [.v (.int .i64 (ic s)),.v (.bool (jP s))]) [] True:=by
 refine Ctr.bd Tryz.func237 Tryz.ntmps237 rfl rfl fun hp=>?_
 refine AW.fact 0 fun hf=>?_
 simp (disch:=omega) only [go_sem,Nat.reduceBEq] at hf
 have h1:=H7 s
 have h2:=H7 ((s.take s.length).drop (Int.toNat 1))
 rcases Nat.eq_zero_or_pos s.length with h0|h0
 ·obtain rfl:=List.eq_nil_of_length_eq_zero h0
  (refine vU ?_;with_reducible repeat' first|exact Le.l|apply Sw|intro h)
  rfl
 (refine vU ?_;with_reducible repeat' first|exact Le.l|apply Sw|intro h)
 ·rw [jQ] at h;simp only [ic,jP,ui (by assumption),h,cond_false]
 ·rename_i h3 h4;rw [jQ] at h4 ⊢;simp only [ic,jP,ui h3,h4,h,cond_true,if_true,Int.zero_sub]
 ·rename_i h3 h4;rw [jQ] at h4 ⊢;simp only [ic,jP,ui h3,h4,h,cond_true,if_false]
 ·simp only [ic,jP,HQ (by assumption),h,cond_false]
 ·rename_i h3 h4;simp only [ic,jP,HQ h3,h4,h,cond_true,if_false]
instance TN(L:Nat->Nat)(s:Str):Ctr L Tryz.prog 246 [] [.str s] (.tup [.v (.int .i64 (ic s)),.v (.bool (jP s))]) [] True:=by
 refine Ctr.bd Tryz.func246 Tryz.ntmps246 rfl rfl fun hp=>?_
 refine AW.fact 0 fun hf=>?_
 simp (disch:=omega) only [go_sem,Nat.reduceBEq] at hf
 rcases Nat.eq_zero_or_pos s.length with h0|h0
 ·obtain rfl:=List.eq_nil_of_length_eq_zero h0
  (refine vU ?_;with_reducible repeat' first|exact Le.l|apply Sw|intro h)
  rfl
 have hs0:(0:Int)<(s.length:Int):=by omega
 have hsn:¬ s=[]:=fun e=>by rw [e] at h0;exact absurd h0 (by decide)
 (refine vU ?_;with_reducible repeat' first|exact Le.l|apply Sw|intro h)
 ·rename_i h3;rw [jQ] at h;simp only [ic,jP,ui ⟨hs0,h3.2⟩,h];rfl
 ·rename_i h3
  rw [jQ]
  rw [jQ] at h
  have ht:=ui ⟨hs0,h3.2⟩
  have hl:(s.drop 1).length<=s.length:=by simp
  have hne:=h
  clear h
  generalize s.drop 1=t at *
  refine AW.aA [5,6] [0,4] (fun m xs o=>∃ (k:Nat) (v:Int),xs=[.v (.int .i64 v),.v (.int .i64 k)]/\o=[]/\m=t.length - k/\k<=t.length/\cO (dgt t) k=true/\(fk t k<=1000000000->v=fk t k)/\(1000000000<fk t k->1000000000<v)/\0<=v/\v<=10000000009) t.length [] trivial ⟨0,0,?_,rfl,rfl,?_,rfl,fun _=>rfl,?_,?_,?_⟩ ?_
  ·rfl
  ·omega
  ·intro hh;simp [fk] at hh
  ·omega
  ·omega
  rintro m xs o ⟨k,v,rfl,rfl,rfl,hk,hR,e1,e2,hv1,hv2⟩
  (refine vU ?_;with_reducible repeat' first|exact Le.l|apply Sw|intro h)
  ·simp only [ic,jP,ht,H6 (by assumption) (show ¬ (48<=at8 t k/\at8 t k<=57) by omega),cond_false]
  ·have e:=(HN (by assumption) e1 e2).1 h
   exact ⟨_,[_,_],[],by omega,⟨k+1,_,rfl,rfl,rfl,by omega,dA hR (pQ.2 (by assumption)),e.1,e.2,by omega,by omega⟩,rfl,trivial⟩
  ·have e:=(HN (by assumption) e1 e2).2 h
   exact ⟨_,[_,_],[],by omega,⟨k+1,_,rfl,rfl,rfl,by omega,dA hR (pQ.2 (by assumption)),e.1,e.2,by omega,by omega⟩,rfl,trivial⟩
  all_goals
   obtain ⟨a,b⟩:=JD hR hk (by assumption) hne e1 e2
  ·simp only [ic,jP,ht,a,decide_eq_false (show ¬ v<=1000000000 by omega),cond_false]
  ·rename_i hv;simp only [ic,jP,ht,a,decide_eq_true hv,b hv,h,cond_true,if_true,Int.zero_sub]
  ·rename_i hv;simp only [ic,jP,ht,a,decide_eq_true hv,b hv,h,cond_true,if_false]
 ·exact absurd h hsn
 ·rename_i h3
  have ht:=HQ fun _=>h3 h
  have hne:=h
  refine AW.aA [5,6] [0,4] (fun m xs o=>∃ (k:Nat) (v:Int),xs=[.v (.int .i64 v),.v (.int .i64 k)]/\o=[]/\m=s.length - k/\k<=s.length/\cO (dgt s) k=true/\(fk s k<=1000000000->v=fk s k)/\(1000000000<fk s k->1000000000<v)/\0<=v/\v<=10000000009) s.length [] trivial ⟨0,0,?_,rfl,rfl,?_,rfl,fun _=>rfl,?_,?_,?_⟩ ?_
  ·rfl
  ·omega
  ·intro hh;simp [fk] at hh
  ·omega
  ·omega
  rintro m xs o ⟨k,v,rfl,rfl,rfl,hk,hR,e1,e2,hv1,hv2⟩
  (refine vU ?_;with_reducible repeat' first|exact Le.l|apply Sw|intro h)
  ·simp only [ic,jP,ht,H6 (by assumption) (show ¬ (48<=at8 s k/\at8 s k<=57) by omega),cond_false]
  ·have e:=(HN (by assumption) e1 e2).1 h
   exact ⟨_,[_,_],[],by omega,⟨k+1,_,rfl,rfl,rfl,by omega,dA hR (pQ.2 (by assumption)),e.1,e.2,by omega,by omega⟩,rfl,trivial⟩
  ·have e:=(HN (by assumption) e1 e2).2 h
   exact ⟨_,[_,_],[],by omega,⟨k+1,_,rfl,rfl,rfl,by omega,dA hR (pQ.2 (by assumption)),e.1,e.2,by omega,by omega⟩,rfl,trivial⟩
  all_goals
   obtain ⟨a,b⟩:=JD hR hk (by assumption) hne e1 e2
  ·simp only [ic,jP,ht,a,decide_eq_false (show ¬ v<=1000000000 by omega),cond_false]
  ·rename_i hv;simp only [ic,jP,ht,a,decide_eq_true hv,b hv,(h3 hsn).1,cond_true,if_false]
end Go.Proofs
namespace Go.Ab
open Go.RowKit (Below)
open Go.Sort (grow)
theorem Te{P:Program}{L:Nat->Nat}{B:Nat->Prop}{w:World}{name:String}{g:Nat}(hg:P.globalNamed name=some g)(hl:g<1048576)(h:L 1000000000=2097152+g)(ht:Tb L B w):Lib.TabIs P w name .u64 Lib.pow10Tab:=by
 obtain ⟨_,T,z,e⟩:=ht 0 g _ rfl hl h
 simp [Lib.TabIs,World.var?,hg,e]
theorem HU{P:Program}{L:Nat->Nat}{w:World}{name:String}{g:Nat}(hg:P.globalNamed name=some g)(hL:∀ k c g',tabs k=some c->g'<1048576->L (1000000000+k)=2097152+g'->k=0/\g'=g)(h:Lib.TabIs P w name .u64 Lib.pow10Tab):Tb L (fun b=>b<w.heap.size) w:=by
 intro k g' c hc hl hk
 obtain ⟨rfl,rfl⟩:=hL k c g' hc hl hk
 obtain rfl:=Option.some.inj hc
 simp only [Lib.TabIs,World.var?,hg,Option.bind_some] at h
 split at h
 ·rename_i cs T z hh
  refine ⟨?_,T,z,?_⟩
  ·rcases Nat.lt_or_ge g' w.heap.size with q|q
   ·exact q
   ·rw [Array.getElem?_eq_none q] at hh;cases hh
  ·rw [hh,Option.some.inj h]
 ·cases h
theorem Hv(u:Nat):(Lib.decDigits u).length<=u / 10+1:=by
 induction u using Nat.strongRecOn with
 | _ u ih =>
  rw [Lib.decDigits]
  split
  ·simp
  ·have:=ih (u / 10) (by omega)
   simp only [List.length_append,List.length_singleton]
   omega
theorem Mx(n:Int)(h0:-9223372036854775808<=n)(h1:n<=9223372036854775807):(Lib.itoa n).length<=4611686018427387904:=by
 unfold Lib.itoa
 split
 ·have:=Hv n.natAbs
  simp only [List.length_cons];omega
 ·have:=Hv n.toNat
  omega
theorem Kj{L:Nat->Nat}{P:Program}{f:FuncId}{T:World->Prop}(hT:∀ w,Tb L (fun b=>b<w.heap.size) w->T w){n:Int}(h0:-9223372036854775808<=n)(h1:n<=9223372036854775807)
  (h:∀ w,T w->Calls P f #[.int .i64 n] w fun e w'=>e=.returned (.string ⟨(Lib.itoa n).toArray⟩)/\∃ k os,w'=grow (w.drewN k) os):fM L P f [.v (.int .i64 n)] (.str (Lib.itoa n)):=by
 intro w F vs hF ht hr
 obtain rfl:vs=[.int .i64 n]:=by
  simp only [aq,Rep] at hr
  obtain ⟨y,vs',f1,f2,rfl,_,⟨rfl,_⟩,rfl,_⟩:=hr
  rfl
 refine (h w (hT w ht)).mono ?_
 rintro e w' ⟨rfl,k,os,rfl⟩
 have hb:Below w.heap.size w (grow (w.drewN k) os):=by
  refine ⟨rfl,rfl,rfl,by simp [grow,World.drewN],fun k hk=>?_⟩
  simp only [grow,World.drewN]
  exact Array.getElem?_append_left hk
 exact ⟨_,F,[],rfl,hb,fun _ h=>h,fun b h=>.inl h,by simp only [Rep];exact ⟨trivial,Mx n h0 h1,trivial⟩,by simp,by simp⟩
end Go.Ab
namespace Go.Proofs
open Go.Shelf
def Tryz.FM:Go.Shelf.Ren:=⟨fun|171=>265|243=>282|246=>291|283=>300|284=>301|285=>302|286=>303|129=>311|317=>310|318=>312|319=>313|320=>314|337=>319|338=>320|n=>n,fun|3=>3|9=>9|2=>2|4=>4|171=>330|0=>0|53=>331|37=>159|5=>5|173=>334|212=>339|51=>340|20=>20|213=>341|46=>342|232=>348|233=>349|n=>n,fun|17=>0|18=>2|19=>3|n=>n⟩
theorem Tryz.Ps:Go.Proofs.LaysM.n171 Tryz.prog Tryz.FM:={
 mixed:=by kernel_rfl
 f129:=Tryz.func311.trans (congrArg some (by kernel_rfl))
 f171:=Tryz.func265.trans (congrArg some (by kernel_rfl))
 f243:=Tryz.func282.trans (congrArg some (by kernel_rfl))
 f246:=Tryz.func291.trans (congrArg some (by kernel_rfl))
 f283:=Tryz.func300.trans (congrArg some (by kernel_rfl))
 f284:=Tryz.func301.trans (congrArg some (by kernel_rfl))
 f285:=Tryz.func302.trans (congrArg some (by kernel_rfl))
 f286:=Tryz.func303.trans (congrArg some (by kernel_rfl))
 f317:=Tryz.func310.trans (congrArg some (by kernel_rfl))
 f318:=Tryz.func312.trans (congrArg some (by kernel_rfl))
 f319:=Tryz.func313.trans (congrArg some (by kernel_rfl))
 f320:=Tryz.func314.trans (congrArg some (by kernel_rfl))
 f337:=Tryz.func319.trans (congrArg some (by kernel_rfl))
 f338:=Tryz.func320.trans (congrArg some (by kernel_rfl))
 t0:=Tryz.underlying0
 a0:=Tryz.isAgg0
 z0:=Tryz.sizeOf0
 v0:=Tryz.zeroValue0
 t2:=Tryz.underlying2
 a2:=Tryz.isAgg2
 z2:=Tryz.sizeOf2
 v2:=Tryz.zeroValue2
 t3:=Tryz.underlying3
 a3:=Tryz.isAgg3
 z3:=Tryz.sizeOf3
 v3:=Tryz.zeroValue3
 t4:=Tryz.underlying4
 a4:=Tryz.isAgg4
 z4:=Tryz.sizeOf4
 v4:=Tryz.zeroValue4
 t5:=Tryz.underlying5
 a5:=Tryz.isAgg5
 z5:=Tryz.sizeOf5
 v5:=Tryz.zeroValue5
 t9:=Tryz.underlying9
 a9:=Tryz.isAgg9
 z9:=Tryz.sizeOf9
 v9:=Tryz.zeroValue9
 t20:=Tryz.underlying20
 a20:=Tryz.isAgg20
 z20:=Tryz.sizeOf20
 v20:=Tryz.zeroValue20
 t37:=Tryz.underlying159
 a37:=Tryz.isAgg159
 z37:=Tryz.sizeOf159
 v37:=Tryz.zeroValue159
 t46:=Tryz.underlying342
 a46:=Tryz.isAgg342
 z46:=Tryz.sizeOf342
 v46:=Tryz.zeroValue342
 t51:=Tryz.underlying340
 a51:=Tryz.isAgg340
 z51:=Tryz.sizeOf340
 v51:=Tryz.zeroValue340
 t53:=Tryz.underlying331
 a53:=Tryz.isAgg331
 z53:=Tryz.sizeOf331
 v53:=Tryz.zeroValue331
 t171:=Tryz.underlying330
 a171:=Tryz.isAgg330
 z171:=Tryz.sizeOf330
 v171:=Tryz.zeroValue330
 t173:=Tryz.underlying334
 a173:=Tryz.isAgg334
 z173:=Tryz.sizeOf334
 v173:=Tryz.zeroValue334
 t212:=Tryz.underlying339
 a212:=Tryz.isAgg339
 z212:=Tryz.sizeOf339
 v212:=Tryz.zeroValue339
 t213:=Tryz.underlying341
 a213:=Tryz.isAgg341
 z213:=Tryz.sizeOf341
 t232:=Tryz.underlying348
 a232:=Tryz.isAgg348
 z232:=Tryz.sizeOf348
 v232:=Tryz.zeroValue348
 t233:=Tryz.underlying349
 a233:=Tryz.isAgg349
 z233:=Tryz.sizeOf349
 v233:=Tryz.zeroValue349
 g17:=by kernel_rfl
 g18:=by kernel_rfl
 g19:=by kernel_rfl
 i0:=by kernel_rfl
 i2:=by kernel_rfl
 i3:=by kernel_rfl
 i4:=by kernel_rfl
 i5:=by kernel_rfl
 i9:=by kernel_rfl
 i20:=by kernel_rfl
 i37:=by kernel_rfl
 i46:=by kernel_rfl
 i51:=by kernel_rfl
 i53:=by kernel_rfl
 i171:=by kernel_rfl
 i173:=by kernel_rfl
 i212:=by kernel_rfl
 i232:=by kernel_rfl
 i233:=by kernel_rfl
 m17:=by kernel_rfl
 m18:=by kernel_rfl
 m19:=by kernel_rfl }
def Tryz.FN:Go.Shelf.Ren:=⟨fun|137=>294|217=>305|266=>317|n=>n,fun|9=>9|5=>5|3=>3|n=>n,fun|n=>n⟩
theorem Tryz.Pt:Go.Proofs.Lays.n137 Tryz.prog Tryz.FN:={
 mixed:=by kernel_rfl
 f137:=Tryz.func294.trans (congrArg some (by kernel_rfl))
 f217:=Tryz.func305.trans (congrArg some (by kernel_rfl))
 f266:=Tryz.func317.trans (congrArg some (by kernel_rfl))
 t3:=Tryz.underlying3
 a3:=Tryz.isAgg3
 z3:=Tryz.sizeOf3
 v3:=Tryz.zeroValue3
 t5:=Tryz.underlying5
 a5:=Tryz.isAgg5
 z5:=Tryz.sizeOf5
 v5:=Tryz.zeroValue5
 t9:=Tryz.underlying9
 a9:=Tryz.isAgg9
 z9:=Tryz.sizeOf9
 v9:=Tryz.zeroValue9 }
end Go.Proofs
namespace Go.Proofs
open Go.Ab Go.Dt
set_option maxHeartbeats 1000000
instance YP(n:Int):Ctr lim Tryz.prog 265 [] [.v (.int .i64 n)] (.str (Lib.itoa n)) [] (-9223372036854775808<=n/\n<=9223372036854775807) :=
 Ctr.lJ (aM 265) fun hp=>Kj (fun w ht=>Te (g:=0) (by kernel_rfl) (by decide) rfl ht) hp.1 hp.2 fun w hT=>Any.strconv_Itoa Tryz.Ps n hp.1 hp.2 w hT
instance Ry(n:Int):Ctr lim Tryz.prog 248 [] [.v (.int .i64 n)] (.str (Lib.itoa n)) [] (-9223372036854775808<=n/\n<=9223372036854775807):=by
 refine Ctr.bd Tryz.func248 Tryz.ntmps248 rfl rfl fun hp=>?_
 all_goals exact uU
theorem fM.Ux{L:Nat->Nat}{f:FuncId}{args:List AV}{vs0:List Value}{res:AV}{v:Value}(ha:∀ F w vs,aq L F w args vs []->vs=vs0)(hr:∀ F w,Rep L F w res v [])(h:∀ w,Calls Tryz.prog f vs0.toArray w fun e w'=>e=.returned v/\w'=w):fM L Tryz.prog f args res:=by
 intro w F vs hF ht hv
 obtain rfl:=ha F w vs hv
 refine (h w).mono ?_
 rintro e w' ⟨rfl,rfl⟩
 exact ⟨_,F,[],rfl,Go.RowKit.Below.refl _ _,fun _ h=>h,fun b h=>.inl h,hr F _,by simp,by simp⟩
instance SN(L:Nat->Nat)(s:Str)(c:Int):Ctr L Tryz.prog 294 [] [.str s,.v (.int .u8 c)] (.v (.int .i64 (Lib.indexByte s (UInt8.ofNat c.toNat)))) [] True :=
 Ctr.lJ (aM 294) fun _=>fM.Ux (vs0:=[.string ⟨s.toArray⟩,.int .u8 c]) (v:=.int .i64 (Lib.indexByte s (UInt8.ofNat c.toNat))) (fun F w vs h=>by
  simp only [aq,Rep] at h
  obtain ⟨y,vs',f1,f2,rfl,_,⟨rfl,_⟩,y2,vs2,f3,f4,rfl,_,⟨rfl,_⟩,rfl,_⟩:=h
  rfl) (fun F w=>by simp [Rep]) fun w=>by
  have h:=Any.strings_IndexByte Tryz.Pt ⟨s.toArray⟩ c w
  exact h
end Go.Proofs
namespace Go.Proofs
open Go.Ab Go.Dt
section
attribute [local go_sem] bq.eta
instance TL(n:Nat)(a g:Nat->Bool):fS lim Tryz.prog 295 1 (bC n a) [.sl false 1 (bC n g)] (.v (.bool (grew n g a))) (bC n (orB a g)) (0<n/\n<=4611686018427387904):=by
 refine fS.of (aM 295) (fun b=>?_) (fun e=>?_) (by simp [dI]) (fg _ _) (fg _ _)
 ·simp only [dI,iC]
  refine Ctr.bd Tryz.func295 Tryz.ntmps295 rfl rfl fun hp=>?_
  (refine vU ?_;with_reducible repeat' first|exact Le.l|apply Sw|intro (K:_->_->Prop) hK|intro h)
  refine AW.aA [5,9] [0,1,8] (fun m xs o=>∃ k:Nat,xs=[.v (.bool (grew k g a)),.v (.int .i64 k)]/\o=[(b,some (bC n (joK a g k)))]/\m=n - k/\k<=n) n [(b,some (bC n a))] (bw rfl) ⟨0,rfl,?_,rfl,?_⟩ ?_
  ·rw [Mv]
  ·omega
  rintro m xs o ⟨k,rfl,rfl,rfl,hk⟩
  (refine vU ?_;with_reducible repeat' first|exact Le.l|apply Sw|intro (K:_->_->Prop) hK|intro h)
  ·rw [Kh] at h
   refine ⟨_,[_,_],_,by omega,⟨k+1,rfl,rfl,rfl,by omega⟩,by rw [qJ,h.1,h.2,Bool.not_false,Bool.and_self,Bool.or_true];rfl,bw ?_⟩
   rw [PB h.1]
  ·rw [Kh] at h
   refine ⟨_,[_,_],_,by omega,⟨k+1,rfl,rfl,rfl,by omega⟩,?_,bw ?_⟩
   ·rw [qJ]
    cases h1:g k with
    | false=>rw [Bool.false_and,Bool.or_false];rfl
    | true=>rw [h h1,Bool.not_true,Bool.and_false,Bool.or_false];rfl
   ·rw [Mw h]
  ·rw [show k=n by omega]
  ·rw [PD n a g h]
 ·have e0:n=0:=by have:=congrArg List.length e;simpa [dI] using this
  subst e0
  exact ⟨⟨(aM 295),fun hp=>absurd hp.1 (by omega)⟩,rfl⟩
theorem BI:∀ (n:Nat) (op:Int) (t:Str) (ks:List bq) (s:Str) (f:Nat->Bool),Ctr lim Tryz.prog 284 [] [.agg [.v (.int .i64 op),.str t,.sl false 3 (ks.map bO)],.str s,.sl false 1 (bC (s.length+1) f)] (.sl true 1 (bC (s.length+1) (ends s (.mk op t ks) f))) [] (mY ks<n/\s.length<=1048576)
 | 0,op,t,ks,s,f=>⟨(aM 284),fun h=>absurd h.1 (Nat.not_lt_zero _)⟩
 | n+1,op,t,ks,s,f=>by
  have ih:=BI n
  refine Ctr.bd Tryz.func284 Tryz.ntmps284 rfl rfl fun hp=>?_
  have hls:=hp.2
  have hq:=fun k=>uG (l:=ks) (k:=k)
  have hq2:=fun k=>y7 (at_ ks k)
  by_cases h1:op=1
  ·subst h1
   rw [jn,if_pos rfl]
   (refine vX ?_;with_reducible repeat' first|exact Le.l|apply Sw|intro (K:_->_->Prop) hK|intro h)
   rename_i b
   refine AW.aA [8] [1,2,3,7] (fun m xs o=>∃ k:Nat,xs=[.v (.int .i64 k)]/\o=[(b,some (bC (s.length+1) (chK t s f k)))]/\m=s.length - k/\k<=s.length) s.length [(b,some (bC (s.length+1) (chK t s f 0)))] (bw (Fg _ _ _ _).symm) ⟨0,?_,rfl,rfl,?_⟩ ?_
   ·rfl
   ·omega
   rintro m xs o ⟨k,rfl,rfl,rfl,hk⟩
   (refine vX ?_;with_reducible repeat' first|exact Le.l|apply Sw|intro (K:_->_->Prop) hK|intro h)
   ·exact ⟨_,[_],_,by omega,⟨k+1,rfl,rfl,rfl,by omega⟩,rfl,bw (HG (by rw [Np])).symm⟩
   ·rw [HI (by omega)]
    refine AW.ret (aJ.imp (Imp.fold 6 (b:=b) (len:=s.length+1) (sz:=1) (cells:=bC (s.length+1) (chE t s f)) (l:=bC (s.length+1) (chE t s f)) gO gO (dI _ _) (by rw [iC,Nat.mul_one,fL]) (fg _ _) ?_))
    refine aJ.fin rfl ?_
    simp (maxSteps:=2000000) (disch:=omega) only [go_sem]
  by_cases h2:op=2
  ·subst h2
   rw [jn,if_neg (by decide),if_pos rfl]
   (refine vX ?_;with_reducible repeat' first|exact Le.l|apply Sw|intro (K:_->_->Prop) hK|intro h)
   rename_i b g1
   refine AW.imp (Imp.fold 7 (b:=b) (len:=s.length+1) (sz:=1) (cells:=bC (s.length+1) (f)) (l:=bC (s.length+1) (f)) gO gO (dI _ _) (by rw [iC,Nat.mul_one,fL]) (fg _ _) ?_)
   try simp (maxSteps:=2000000) (disch:=omega) only [go_sem]
   refine AW.fact 50 fun hf=>?_
   simp (disch:=omega) only [go_sem,Nat.reduceBEq] at hf
   refine AW.aA [7,52] [1,50,51] (fun m xs o=>∃ (k:Nat) (a:Nat->Bool),xs=[.sl true 1 (bC (s.length+1) a),.v (.int .i64 k)]/\o=[]/\m=ks.length - k/\k<=ks.length/\oK s (ks.drop k) a=oK s ks f) ks.length [] trivial ⟨0,f,?_,rfl,rfl,?_,rfl⟩ ?_
   ·rfl
   ·omega
   rintro m xs o ⟨k,a,rfl,rfl,rfl,hk,hR⟩
   have hqk:=hq k
   have MG:=hq2 k
   (refine vU ?_;with_reducible repeat' first|exact Le.l|apply Sw|intro (K:_->_->Prop) hK|intro h)
   ·exact ⟨_,[_,_],[],by omega,⟨k+1,_,rfl,rfl,rfl,by omega,by rw [<- hR,BF (k:=k) (by assumption)]⟩,rfl,trivial⟩
   ·rw [<- hR,Du h]
  by_cases h3:op=3
  ·subst h3
   rw [jn,if_neg (by decide),if_neg (by decide),if_pos rfl]
   (refine vX ?_;with_reducible repeat' first|exact Le.l|apply Sw|intro (K:_->_->Prop) hK|intro h)
   rename_i b g1 g2
   refine AW.imp (Imp.fold 7 (b:=b) (len:=s.length+1) (sz:=1) (cells:=bC (s.length+1) (fun _=>false)) (l:=bC (s.length+1) (fun _=>false)) gO gO (dI _ _) (by rw [iC,Nat.mul_one,fL]) (fg _ _) ?_)
   try simp (maxSteps:=2000000) (disch:=omega) only [go_sem]
   refine AW.fact 64 fun hf=>?_
   simp (disch:=omega) only [go_sem,Nat.reduceBEq] at hf
   refine AW.aA [7,66] [1,2,64,65] (fun m xs o=>∃ (k:Nat) (a:Nat->Bool),xs=[.sl true 1 (bC (s.length+1) a),.v (.int .i64 k)]/\o=[]/\m=ks.length - k/\k<=ks.length/\o8 s (ks.drop k) f a=o8 s ks f (fun _=>false)) ks.length [] trivial ⟨0,_,?_,rfl,rfl,?_,rfl⟩ ?_
   ·rfl
   ·omega
   rintro m xs o ⟨k,a,rfl,rfl,rfl,hk,hR⟩
   have hqk:=hq k
   have MG:=hq2 k
   (refine vU ?_;with_reducible repeat' first|exact Le.l|apply Sw|intro (K:_->_->Prop) hK|intro h)
   ·exact ⟨_,[_,_],[],by omega,⟨k+1,_,rfl,rfl,rfl,by omega,by rw [<- hR,Co (k:=k) (by assumption)]⟩,rfl,trivial⟩
   ·rw [<- hR,Fu h]
  have hq0:=hq 0
  have WK:=hq2 0
  by_cases h4:op=4
  ·subst h4
   rw [jn,if_neg (by decide),if_neg (by decide),if_neg (by decide),if_pos (by decide)]
   (refine vX ?_;with_reducible repeat' first|exact Le.l|apply Sw|intro (K:_->_->Prop) hK|intro h)
   ·rename_i b g1 g2 g3 g4 g5
    rw [sD (by omega)]
    refine AW.ret (aJ.imp (Imp.fold 6 (b:=b) (len:=s.length+1) (sz:=1) (cells:=bC (s.length+1) (f)) (l:=bC (s.length+1) (f)) gO gO (dI _ _) (by rw [iC,Nat.mul_one,fL]) (fg _ _) ?_))
    refine aJ.fin rfl ?_
    simp (maxSteps:=2000000) (disch:=omega) only [go_sem]
   ·rename_i b g1 g2 g3 g4 g5
    rw [qu (by omega),if_pos rfl]
    refine AW.imp (Imp.fold 7 (b:=b) (len:=s.length+1) (sz:=1) (cells:=bC (s.length+1) (f)) (l:=bC (s.length+1) (f)) gO gO (dI _ _) (by rw [iC,Nat.mul_one,fL]) (fg _ _) ?_)
    try simp (maxSteps:=2000000) (disch:=omega) only [go_sem]
    refine AW.aA [7] [1,3] (fun m xs o=>∃ a:Nat->Bool,xs=[.sl true 1 (bC (s.length+1) a)]/\o=[]/\iter (s.length+1) (ends s (at_ ks 0)) m a=iter (s.length+1) (ends s (at_ ks 0)) (s.length+1) f/\nQ a (s.length+1)<=m) (s.length+1) [] trivial ⟨f,?_,rfl,rfl,Bm _ _⟩ ?_
    ·rfl
    rintro m xs o ⟨a,rfl,rfl,hR,hm⟩
    (refine vU ?_;with_reducible repeat' first|exact Le.l|apply Sw|intro (K:_->_->Prop) hK|intro h)
    ·obtain ⟨j,rfl,e1,e2⟩:=BV h hm
     exact ⟨j,[_],[],by omega,⟨_,rfl,rfl,by rw [<- e1];exact hR,e2⟩,rfl,trivial⟩
    ·rw [<- hR,Er h,jC (G9 h)]
  by_cases h5:op=5
  ·subst h5
   rw [jn,if_neg (by decide),if_neg (by decide),if_neg (by decide),if_pos (by decide)]
   (refine vX ?_;with_reducible repeat' first|exact Le.l|apply Sw|intro (K:_->_->Prop) hK|intro h)
   ·rename_i b g1 g2 g3 g4 g5
    rw [sD (by omega)]
    refine AW.ret (aJ.imp (Imp.fold 6 (b:=b) (len:=s.length+1) (sz:=1) (cells:=bC (s.length+1) (f)) (l:=bC (s.length+1) (f)) gO gO (dI _ _) (by rw [iC,Nat.mul_one,fL]) (fg _ _) ?_))
    refine aJ.fin rfl ?_
    simp (maxSteps:=2000000) (disch:=omega) only [go_sem]
   ·rename_i b g1 g2 g3 g4 g5
    rw [qu (by omega),if_neg (by decide)]
    refine AW.imp (Imp.fold 7 (b:=b) (len:=s.length+1) (sz:=1) (cells:=bC (s.length+1) (f)) (l:=bC (s.length+1) (f)) gO gO (dI _ _) (by rw [iC,Nat.mul_one,fL]) (fg _ _) ?_)
    try simp (maxSteps:=2000000) (disch:=omega) only [go_sem]
    refine AW.aA [7] [1,3] (fun m xs o=>xs=[.sl true 1 (bC (s.length+1) f)]/\o=[]) 0 [] trivial ⟨?_,rfl⟩ ?_
    ·rfl
    rintro m xs o ⟨rfl,rfl⟩
    all_goals exact uU
  rw [jn,if_neg h1,if_neg h2,if_neg h3,if_neg (by omega)]
  (refine vX ?_;with_reducible repeat' first|exact Le.l|apply Sw|intro (K:_->_->Prop) hK|intro h)
  rename_i b g1 g2 g3 g4
  refine AW.ret (aJ.imp (Imp.fold 6 (b:=b) (len:=s.length+1) (sz:=1) (cells:=bC (s.length+1) (fun _=>false)) (l:=bC (s.length+1) (fun _=>false)) gO gO (dI _ _) (by rw [iC,Nat.mul_one,fL]) (fg _ _) ?_))
  refine aJ.fin rfl ?_
  simp (maxSteps:=2000000) (disch:=omega) only [go_sem]
end
section
attribute [local go_sem] bq.eta
instance Wc(n:Nat)(a g:Nat->Bool):Ctr lim Tryz.prog 290 [] [.sl false 1 (bC n a),.sl false 1 (bC n g)] (.sl true 1 (bC n (orB a g))) [] (n<=1099511627776):=by
 refine Ctr.bd Tryz.func290 Tryz.ntmps290 rfl rfl fun hp=>?_
 (refine vX ?_;with_reducible repeat' first|exact Le.l|apply Sw|intro h)
 obtain ⟨b,rfl⟩:∃ b,b=h:=⟨_,rfl⟩
 refine AW.aA [6] [0,1,5] (fun m xs o=>∃ k:Nat,xs=[.v (.int .i64 k)]/\o=[(b,some (bC n (boK a g k)))]/\m=n - k/\k<=n) n [(b,some (bC n (boK a g 0)))] (bw (Nj _ _ _).symm) ⟨0,?_,rfl,rfl,?_⟩ ?_
 ·rfl
 ·omega
 rintro m xs o ⟨k,rfl,rfl,rfl,hk⟩
 (refine vX ?_;with_reducible repeat' first|exact Le.l|apply Sw|intro h)
 ·exact ⟨_,[_],_,by omega,⟨k+1,rfl,rfl,rfl,by omega⟩,rfl,bw (P0 rfl).symm⟩
 ·rw [P1 (by omega)]
  refine AW.ret (aJ.imp (Imp.fold 4 (b:=b) (len:=n) (sz:=1) (cells:=bC n (orB a g)) (l:=bC n (orB a g)) gO gO (dI _ _) (by rw [iC,Nat.mul_one,fL]) (fg _ _) ?_))
  refine aJ.fin rfl ?_
  simp (maxSteps:=2000000) (disch:=omega) only [go_sem]
theorem Ej:∀ (n:Nat) (op:Int) (t:Str) (ks:List bq) (s:Str) (f:Nat->Bool),Ctr lim Tryz.prog 278 [] [.agg [.v (.int .i64 op),.str t,.sl false 3 (ks.map bO)],.str s,.sl false 1 (bC (s.length+1) f)] (.sl true 1 (bC (s.length+1) (ends s (.mk op t ks) f))) [] (mY ks<n/\s.length<=1048576)
 | 0,op,t,ks,s,f=>⟨(aM 278),fun h=>absurd h.1 (Nat.not_lt_zero _)⟩
 | n+1,op,t,ks,s,f=>by
  have ih:=Ej n
  refine Ctr.bd Tryz.func278 Tryz.ntmps278 rfl rfl fun hp=>?_
  have hls:=hp.2
  have hq:=fun k=>uG (l:=ks) (k:=k)
  have hq2:=fun k=>y7 (at_ ks k)
  by_cases h1:op=1
  ·subst h1
   rw [jn,if_pos rfl]
   (refine vX ?_;with_reducible repeat' first|exact Le.l|apply Sw|intro h)
   rename_i b
   refine AW.fact 3 fun hf=>?_
   simp (disch:=omega) only [go_sem,Nat.reduceBEq] at hf
   refine AW.aA [8] [1,2,3,7] (fun m xs o=>∃ k:Nat,xs=[.v (.int .i64 k)]/\o=[(b,some (bC (s.length+1) (chK t s f k)))]/\m=s.length - k/\k<=s.length) s.length [(b,some (bC (s.length+1) (chK t s f 0)))] (bw (Fg _ _ _ _).symm) ⟨0,?_,rfl,rfl,?_⟩ ?_
   ·rfl
   ·omega
   rintro m xs o ⟨i,rfl,rfl,rfl,hi⟩
   (refine vX ?_;with_reducible repeat' first|exact Le.l|apply Sw|intro h)
   ·rename_i hi2
    refine AW.aA [9] [1,2,3,7,8] (fun m xs o=>∃ k:Nat,xs=[.v (.int .i64 k)]/\o=[(b,some (bC (s.length+1) (sY t s f i k)))]/\m=t.length - k/\k<=t.length) t.length [(b,some (bC (s.length+1) (sY t s f i 0)))] (bw (KA _ _ _ _ _).symm) ⟨0,?_,rfl,rfl,?_⟩ ?_
    ·rfl
    ·omega
    rintro m xs o ⟨k,rfl,rfl,rfl,hk⟩
    (refine vX ?_;with_reducible repeat' first|exact Le.l|apply Sw|intro h)
    ·exact ⟨_,[_],_,by omega,⟨k+1,rfl,rfl,rfl,by omega⟩,rfl,bw (MB (by rw [PH,P6,MC h.1 h.2])).symm⟩
    ·refine ⟨_,[_],_,by omega,⟨i+1,rfl,rfl,rfl,by omega⟩,rfl,bw ?_⟩
     rw [<- HG (PI h)];rfl
   ·rw [HI (by omega)]
    refine AW.ret (aJ.imp (Imp.fold 6 (b:=b) (len:=s.length+1) (sz:=1) (cells:=bC (s.length+1) (chE t s f)) (l:=bC (s.length+1) (chE t s f)) gO gO (dI _ _) (by rw [iC,Nat.mul_one,fL]) (fg _ _) ?_))
    refine aJ.fin rfl ?_
    simp (maxSteps:=2000000) (disch:=omega) only [go_sem]
  by_cases h2:op=2
  ·subst h2
   rw [jn,if_neg (by decide),if_pos rfl]
   (refine vX ?_;with_reducible repeat' first|exact Le.l|apply Sw|intro h)
   rename_i b g1
   refine AW.imp (Imp.fold 7 (b:=b) (len:=s.length+1) (sz:=1) (cells:=bC (s.length+1) (f)) (l:=bC (s.length+1) (f)) gO gO (dI _ _) (by rw [iC,Nat.mul_one,fL]) (fg _ _) ?_)
   try simp (maxSteps:=2000000) (disch:=omega) only [go_sem]
   refine AW.fact 3 fun hf=>?_
   simp (disch:=omega) only [go_sem,Nat.reduceBEq] at hf
   refine AW.aA [7,10] [1,3] (fun m xs o=>∃ (k:Nat) (a:Nat->Bool),xs=[.sl true 1 (bC (s.length+1) a),.v (.int .i64 k)]/\o=[]/\m=ks.length - k/\k<=ks.length/\oK s (ks.drop k) a=oK s ks f) ks.length [] trivial ⟨0,f,?_,rfl,rfl,?_,rfl⟩ ?_
   ·rfl
   ·omega
   rintro m xs o ⟨k,a,rfl,rfl,rfl,hk,hR⟩
   have hqk:=hq k
   have MG:=hq2 k
   (refine vU ?_;with_reducible repeat' first|exact Le.l|apply Sw|intro h)
   ·exact ⟨_,[_,_],[],by omega,⟨k+1,_,rfl,rfl,rfl,by omega,by rw [<- hR,BF (k:=k) (by assumption)]⟩,rfl,trivial⟩
   ·rw [<- hR,Du h]
  by_cases h3:op=3
  ·subst h3
   rw [jn,if_neg (by decide),if_neg (by decide),if_pos rfl]
   (refine vX ?_;with_reducible repeat' first|exact Le.l|apply Sw|intro h)
   rename_i b g1 g2
   refine AW.imp (Imp.fold 7 (b:=b) (len:=s.length+1) (sz:=1) (cells:=bC (s.length+1) (fun _=>false)) (l:=bC (s.length+1) (fun _=>false)) gO gO (dI _ _) (by rw [iC,Nat.mul_one,fL]) (fg _ _) ?_)
   try simp (maxSteps:=2000000) (disch:=omega) only [go_sem]
   refine AW.fact 3 fun hf=>?_
   simp (disch:=omega) only [go_sem,Nat.reduceBEq] at hf
   refine AW.aA [7,11] [1,2,3] (fun m xs o=>∃ (k:Nat) (a:Nat->Bool),xs=[.sl true 1 (bC (s.length+1) a),.v (.int .i64 k)]/\o=[]/\m=ks.length - k/\k<=ks.length/\o8 s (ks.drop k) f a=o8 s ks f (fun _=>false)) ks.length [] trivial ⟨0,_,?_,rfl,rfl,?_,rfl⟩ ?_
   ·rfl
   ·omega
   rintro m xs o ⟨k,a,rfl,rfl,rfl,hk,hR⟩
   have hqk:=hq k
   have MG:=hq2 k
   (refine vU ?_;with_reducible repeat' first|exact Le.l|apply Sw|intro h)
   ·exact ⟨_,[_,_],[],by omega,⟨k+1,_,rfl,rfl,rfl,by omega,by rw [<- hR,Co (k:=k) (by assumption)]⟩,rfl,trivial⟩
   ·rw [<- hR,Fu h]
  have hq0:=hq 0
  have WK:=hq2 0
  by_cases h4:op=4
  ·subst h4
   rw [jn,if_neg (by decide),if_neg (by decide),if_neg (by decide),if_pos (by decide)]
   (refine vX ?_;with_reducible repeat' first|exact Le.l|apply Sw|intro h)
   rename_i b g1 g2 g3 g4
   refine AW.imp (Imp.fold 7 (b:=b) (len:=s.length+1) (sz:=1) (cells:=bC (s.length+1) (f)) (l:=bC (s.length+1) (f)) gO gO (dI _ _) (by rw [iC,Nat.mul_one,fL]) (fg _ _) ?_)
   try simp (maxSteps:=2000000) (disch:=omega) only [go_sem]
   by_cases hk1:ks.length=1
   ·rw [qu hk1,if_pos rfl]
    refine AW.aA [7] [1,3] (fun m xs o=>∃ a:Nat->Bool,xs=[.sl true 1 (bC (s.length+1) a)]/\o=[]/\iter (s.length+1) (ends s (at_ ks 0)) m a=iter (s.length+1) (ends s (at_ ks 0)) (s.length+1) f/\nQ a (s.length+1)<=m) (s.length+1) [] trivial ⟨f,?_,rfl,rfl,Bm _ _⟩ ?_
    ·rfl
    rintro m xs o ⟨a,rfl,rfl,hR,hm⟩
    (refine vX ?_;with_reducible repeat' first|exact Le.l|apply Sw|intro h)
    refine AW.imp (Imp.unfold 7 (sz:=1) (l:=bC (s.length+1) a) gO (CY _ _) (fg _ _) fun b1 hb1=>?_)
    refine AW.imp (Imp.unfold 12 (sz:=1) (l:=bC (s.length+1) (orB a (ends s (at_ ks 0) a))) gO (CY _ _) (fg _ _) fun b2 hb2=>?_)
    have hb2:=hb2.nf
    simp (maxSteps:=2000000) (disch:=omega) only [go_sem]
    simp only [go_sem] at hb2
    refine AW.aA [13,14] [1,3,7,12] (fun m xs o=>∃ k:Nat,xs=[.v (.bool (grew k (ends s (at_ ks 0) a) a)),.v (.int .i64 k)]/\o=[(b2,some (bC (s.length+1) (orB a (ends s (at_ ks 0) a)))),(b1,some (bC (s.length+1) a))]/\m=s.length+1 - k/\k<=s.length+1) (s.length+1) [(b2,some (bC (s.length+1) (orB a (ends s (at_ ks 0) a)))),(b1,some (bC (s.length+1) a))] ?_ ⟨0,?_,rfl,?_,?_⟩ ?_
    ·exact ja (by omega) rfl rfl
    ·rfl
    ·omega
    ·omega
    rintro m2 xs o ⟨k,rfl,rfl,rfl,hk⟩
    refine vO ?_;intros;refine AW.c (fun h=>?_) fun h=>?_
    ·(refine vX ?_;with_reducible repeat' first|exact Le.l|apply Sw|intro h)
     exact ⟨_,[_,_],_,by omega,⟨k+1,rfl,rfl,rfl,by omega⟩,by rw [GH,qJ];rfl,ja (by omega) rfl rfl⟩
    ·refine AW.imp (Imp.fold 12 (b:=b2) (len:=s.length+1) (sz:=1) (cells:=bC (s.length+1) (orB a (ends s (at_ ks 0) a))) (l:=bC (s.length+1) (orB a (ends s (at_ ks 0) a))) gO gO (dI _ _) (by rw [iC,Nat.mul_one,fL]) (fg _ _) ?_)
     try simp (maxSteps:=2000000) (disch:=omega) only [go_sem]
     (refine vU ?_;with_reducible repeat' first|exact Le.l|apply Sw|intro h)
     ·obtain rfl:k=s.length+1:=by omega
      have h':=h.resolve_right (by decide)
      rw [<- hR,Er h',jC (G9 h')]
     ·obtain rfl:k=s.length+1:=by omega
      obtain ⟨j,rfl,e1,e2⟩:=BV h.1 hm
      exact ⟨j,[_],[],by omega,⟨_,rfl,rfl,by rw [<- e1];exact hR,e2⟩,rfl,trivial⟩
   ·rw [sD hk1]
    refine AW.aA [7] [1,3] (fun m xs o=>xs=[.sl true 1 (bC (s.length+1) f)]/\o=[]) 0 [] trivial ⟨?_,rfl⟩ ?_
    ·rfl
    rintro m xs o ⟨rfl,rfl⟩
    all_goals exact uU
  by_cases h5:op=5
  ·subst h5
   rw [jn,if_neg (by decide),if_neg (by decide),if_neg (by decide),if_pos (by decide)]
   (refine vX ?_;with_reducible repeat' first|exact Le.l|apply Sw|intro h)
   rename_i b g1 g2 g3 g4
   refine AW.imp (Imp.fold 7 (b:=b) (len:=s.length+1) (sz:=1) (cells:=bC (s.length+1) (f)) (l:=bC (s.length+1) (f)) gO gO (dI _ _) (by rw [iC,Nat.mul_one,fL]) (fg _ _) ?_)
   try simp (maxSteps:=2000000) (disch:=omega) only [go_sem]
   by_cases hk1:ks.length=1
   ·rw [qu hk1,if_neg (by decide)]
    refine AW.aA [7] [1,3] (fun m xs o=>∃ a:Nat->Bool,xs=[.sl true 1 (bC (s.length+1) a)]/\o=[]/\a=f) (0) [] trivial ⟨f,?_,rfl,rfl⟩ ?_
    ·rfl
    rintro m xs o ⟨a,rfl,rfl,rfl⟩
    (refine vX ?_;with_reducible repeat' first|exact Le.l|apply Sw|intro h)
    refine AW.imp (Imp.unfold 7 (sz:=1) (l:=bC (s.length+1) a) gO (CY _ _) (fg _ _) fun b1 hb1=>?_)
    refine AW.imp (Imp.unfold 12 (sz:=1) (l:=bC (s.length+1) (orB a (ends s (at_ ks 0) a))) gO (CY _ _) (fg _ _) fun b2 hb2=>?_)
    have hb2:=hb2.nf
    simp (maxSteps:=2000000) (disch:=omega) only [go_sem]
    simp only [go_sem] at hb2
    refine AW.aA [13,14] [1,3,7,12] (fun m xs o=>∃ k:Nat,xs=[.v (.bool (grew k (ends s (at_ ks 0) a) a)),.v (.int .i64 k)]/\o=[(b2,some (bC (s.length+1) (orB a (ends s (at_ ks 0) a)))),(b1,some (bC (s.length+1) a))]/\m=s.length+1 - k/\k<=s.length+1) (s.length+1) [(b2,some (bC (s.length+1) (orB a (ends s (at_ ks 0) a)))),(b1,some (bC (s.length+1) a))] ?_ ⟨0,?_,rfl,?_,?_⟩ ?_
    ·exact ja (by omega) rfl rfl
    ·rfl
    ·omega
    ·omega
    rintro m2 xs o ⟨k,rfl,rfl,rfl,hk⟩
    refine vO ?_;intros;refine AW.c (fun h=>?_) fun h=>?_
    ·(refine vX ?_;with_reducible repeat' first|exact Le.l|apply Sw|intro h)
     exact ⟨_,[_,_],_,by omega,⟨k+1,rfl,rfl,rfl,by omega⟩,by rw [GH,qJ];rfl,ja (by omega) rfl rfl⟩
    ·refine AW.imp (Imp.fold 12 (b:=b2) (len:=s.length+1) (sz:=1) (cells:=bC (s.length+1) (orB a (ends s (at_ ks 0) a))) (l:=bC (s.length+1) (orB a (ends s (at_ ks 0) a))) gO gO (dI _ _) (by rw [iC,Nat.mul_one,fL]) (fg _ _) ?_)
     try simp (maxSteps:=2000000) (disch:=omega) only [go_sem]
     all_goals exact uU
   ·rw [sD hk1]
    refine AW.aA [7] [1,3] (fun m xs o=>xs=[.sl true 1 (bC (s.length+1) f)]/\o=[]) 0 [] trivial ⟨?_,rfl⟩ ?_
    ·rfl
    rintro m xs o ⟨rfl,rfl⟩
    all_goals exact uU
  rw [jn,if_neg h1,if_neg h2,if_neg h3,if_neg (by omega)]
  (refine vX ?_;with_reducible repeat' first|exact Le.l|apply Sw|intro h)
  rename_i b g1 g2 g3 g4
  refine AW.ret (aJ.imp (Imp.fold 6 (b:=b) (len:=s.length+1) (sz:=1) (cells:=bC (s.length+1) (fun _=>false)) (l:=bC (s.length+1) (fun _=>false)) gO gO (dI _ _) (by rw [iC,Nat.mul_one,fL]) (fg _ _) ?_))
  refine aJ.fin rfl ?_
  simp (maxSteps:=2000000) (disch:=omega) only [go_sem]
theorem JJ(op:Int)(t:Str)(ks:List bq)(s:Str)(f:Nat->Bool):Ctr lim Tryz.prog 284 [] [.agg [.v (.int .i64 op),.str t,.sl false 3 (ks.map bO)],.str s,.sl false 1 (bC (s.length+1) f)] (.sl true 1 (bC (s.length+1) (ends s (.mk op t ks) f))) [] (s.length<=1048576):=⟨(aM 284),fun h=>(BI (mY ks+1) op t ks s f).out ⟨by omega,h⟩⟩
theorem Mo(op:Int)(t:Str)(ks:List bq)(s:Str)(f:Nat->Bool):Ctr lim Tryz.prog 278 [] [.agg [.v (.int .i64 op),.str t,.sl false 3 (ks.map bO)],.str s,.sl false 1 (bC (s.length+1) f)] (.sl true 1 (bC (s.length+1) (ends s (.mk op t ks) f))) [] (s.length<=1048576):=⟨(aM 278),fun h=>(Ej (mY ks+1) op t ks s f).out ⟨by omega,h⟩⟩
end
end Go.Proofs
namespace Go.Dt
open Go.Ab
def H9(p s:Str):Bool:=(eK p).2 && L7 (eK p).1 s
end Go.Dt
namespace Go.Proofs
open Go.Ab Go.Dt
attribute [local go_sem] bq.eta
instance V6(op:Int)(t:Str)(ks:List bq)(s:Str)(f:Nat->Bool):vS lim Tryz.prog 284 [.agg [.v (.int .i64 op),.str t,.sl false 3 (ks.map bO)],.str s,.sl false 1 (bC (s.length+1) f)] (.sl false 1 (bC (s.length+1) (ends s (.mk op t ks) f))) (s.length<=1048576) :=
 ⟨(aM 284),fun h=>by
  have:=((JJ op t ks s f).pure h).frz
  simpa only [AV.frz,Lh,cond_true] using this⟩
instance X4(op:Int)(t:Str)(ks:List bq)(s:Str)(f:Nat->Bool):vS lim Tryz.prog 278 [.agg [.v (.int .i64 op),.str t,.sl false 3 (ks.map bO)],.str s,.sl false 1 (bC (s.length+1) f)] (.sl false 1 (bC (s.length+1) (ends s (.mk op t ks) f))) (s.length<=1048576) :=
 ⟨(aM 278),fun h=>by
  have:=((Mo op t ks s f).pure h).frz
  simpa only [AV.frz,Lh,cond_true] using this⟩
instance NQ(x:bq)(s:Str):Ctr lim Tryz.prog 267 [] [.agg [.v (.int .i64 x.fOp),.str x.cg,.sl false 3 (x.af.map bO)],.str s] (.v (.bool (L7 x s))) [] (s.length<=1048576):=by
 refine Ctr.bd Tryz.func267 Tryz.ntmps267 rfl rfl fun hp=>?_
 (refine vN ?_;with_reducible repeat' first|exact Le.l|apply Sw|intro (K:_->_->Prop) hK|intro h)
 refine Z ?_
 (refine vN ?_;with_reducible repeat' first|exact Le.l|apply Sw|intro (K:_->_->Prop) hK|intro h)
 refine Z ?_
 (refine vN ?_;with_reducible repeat' first|exact Le.l|apply Sw|intro (K:_->_->Prop) hK|intro h)
 refine Z ?_
 (refine vN ?_;with_reducible repeat' first|exact Le.l|apply Sw|intro (K:_->_->Prop) hK|intro h)
 refine AW.imp (Imp.fold 5 (b:=h) (len:=s.length+1) (sz:=1) (cells:=bC (s.length+1) (fun c=>if c=0 then true else false)) (l:=bC (s.length+1) (fun c=>if c=0 then true else false)) gO gO (dI _ _) (by rw [iC,Nat.mul_one,fL]) (fg _ _) ?_)
 try simp (maxSteps:=2000000) (disch:=omega) only [go_sem]
 (refine vU ?_;with_reducible repeat' first|exact Le.l|apply Sw|intro (K:_->_->Prop) hK|intro h)
 rfl
instance Nz(x:bq)(s:Str):Ctr lim Tryz.prog 262 [] [.agg [.v (.int .i64 x.fOp),.str x.cg,.sl false 3 (x.af.map bO)],.str s] (.v (.bool (L7 x s))) [] (s.length<=1048576):=by
 refine Ctr.bd Tryz.func262 Tryz.ntmps262 rfl rfl fun hp=>?_
 (refine vN ?_;with_reducible repeat' first|exact Le.l|apply Sw|intro (K:_->_->Prop) hK|intro h)
 refine Z ?_
 (refine vN ?_;with_reducible repeat' first|exact Le.l|apply Sw|intro (K:_->_->Prop) hK|intro h)
 refine Z ?_
 (refine vN ?_;with_reducible repeat' first|exact Le.l|apply Sw|intro (K:_->_->Prop) hK|intro h)
 refine Z ?_
 (refine vN ?_;with_reducible repeat' first|exact Le.l|apply Sw|intro (K:_->_->Prop) hK|intro h)
 refine AW.imp (Imp.fold 5 (b:=h) (len:=s.length+1) (sz:=1) (cells:=bC (s.length+1) (fun c=>if c=0 then true else false)) (l:=bC (s.length+1) (fun c=>if c=0 then true else false)) gO gO (dI _ _) (by rw [iC,Nat.mul_one,fL]) (fg _ _) ?_)
 try simp (maxSteps:=2000000) (disch:=omega) only [go_sem]
 (refine vU ?_;with_reducible repeat' first|exact Le.l|apply Sw|intro (K:_->_->Prop) hK|intro h)
 rfl
instance Ru(p s:Str):Ctr lim Tryz.prog 250 [] [.str p,.str s] (.v (.bool (H9 p s))) [] (s.length<=1048576):=by
 refine Ctr.bd Tryz.func250 Tryz.ntmps250 rfl rfl fun hp=>?_
 (refine vU ?_;with_reducible repeat' first|exact Le.l|apply Sw|intro (K:_->_->Prop) hK|intro h)
 rfl
instance QB(p s:Str):Ctr lim Tryz.prog 241 [] [.str p,.str s] (.v (.bool (H9 p s))) [] (s.length<=1048576):=by
 refine Ctr.bd Tryz.func241 Tryz.ntmps241 rfl rfl fun hp=>?_
 (refine vU ?_;with_reducible repeat' first|exact Le.l|apply Sw|intro (K:_->_->Prop) hK|intro h)
 rfl
end Go.Proofs
namespace Go.Dt
open Go.Ab
def v8:Str:=[116,114,117,101]
def rU:Str:=[102,97,108,115,101]
def tM(s:Str):Str:=if s=[49] then v8 else if s=[48] then rU else s
def cvO(mt:Str->Str->Bool)(x:dx)(s:Str):Bool :=
 if x.ai=1 then jP s && uX x.aB (ic s)
 else if x.ai=2 then isText s && uX x.aB s.length && (decide (x.aW=[]) || mt x.aW s)
 else if x.ai=3 then tM s == v8 || tM s == rU
 else if x.ai=4 then cont x.ax s
 else if x.ai=5 then !decide (s=[]) && isText s
 else if x.ai=6 then decide (s=[]) else false
def cvT(x:dx)(s:Str):Str:=if x.ai=1 then Lib.itoa (ic s) else if x.ai=3 then tM s else s
end Go.Dt
