/- Part of a proof. -/
import Derived.Shelf.Strconv.Itoa3
import Derived.Shelf.Small.Strs
import Derived.Test.YtbiikafnjialjaaGreatDoorG13
import Derived.Test.YtbiikafnjialjaaGreatDoorG14
set_option linter.all false
set_option maxRecDepth 20000
set_option maxHeartbeats 4000000
namespace Go.Dt
open Go.Ab
section
def dg(u:Nat):Str:=if u=0 then [] else Lib.decDigits u
theorem zG{u:Nat}(h:u≠0):dg u=dg (u / 10)++[UInt8.ofNat (48+u % 10)]:=by
 rw [dg,if_neg h,Lib.decDigits,dg]
 split
 ·rename_i h10
  rw [if_pos (by omega),List.nil_append,Nat.mod_eq_of_lt h10]
 ·rw [if_neg (by omega)]
theorem Pm(u:Nat):(dg u).length<=u / 10+1:=by
 induction u using Nat.strongRecOn with
 | _ u ih =>
  by_cases h:u=0
  ·subst h;simp [dg]
  ·rw [zG h]
   have:=ih (u / 10) (by omega)
   simp only [List.length_append,List.length_singleton]
   by_cases h10:u / 10=0
   ·rw [h10];simp [dg]
   ·omega
theorem Az:Lib.itoa 0=[48]:=by rw [Lib.itoa,if_neg (by omega),Lib.decDigits];rfl
theorem zk{n:Int}(h:n≠0):Lib.itoa n=if n<0 then 45::dg n.natAbs else dg n.natAbs:=by
 have e:¬ n.natAbs=0:=by omega
 simp only [Lib.itoa,dg,e,if_false]
 split
 ·rfl
 ·rw [show n.toNat=n.natAbs by omega]
def dgt(s:Str)(j:Nat):Bool:=l8 (at8 s j)
def fc(s:Str):Nat->Nat
 | 0=>0
 | k+1=>10 * fc s k+(at8 s k - 48).toNat
theorem Ja(s:Str)(k j:Nat):fc s k<=fc s (k+j):=by
 induction j with
 | zero=>exact Nat.le_refl _
 | succ j ih=>rw [<- Nat.add_assoc,fc];omega
theorem oV{s:Str}{k:Nat}:dgt s k=true↔48<=at8 s k/\at8 s k<=57:=by simp [dgt,l8]
theorem BQ{s:Str}{k:Nat}(h:48<=at8 s k):(fc s (k+1):Int)=10 * fc s k+(at8 s k - 48):=by rw [fc];omega
def rdB(s:Str):Bool:=bL (dgt s) s.length && (decide (fc s s.length<=1000000000) && decide (0<s.length))
def rdN(s:Str):Int:=bif rdB s then fc s s.length else 0
theorem FZ{s:Str}{k:Nat}(h:k<s.length)(e:¬ (48<=at8 s k/\at8 s k<=57)):rdB s=false:=by
 rw [rdB,cW h (Bool.eq_false_iff.2 fun h=>e (oV.1 h))];rfl
theorem Hw{s:Str}{k:Nat}(h:k<=s.length)(e:1000000000<fc s k):rdB s=false:=by
 have:=Ja s k (s.length - k)
 rw [show k+(s.length - k)=s.length by omega] at this
 have:decide (fc s s.length<=1000000000)=false:=by simp;omega
 rw [rdB,this];simp
def sgn(s:Str):Bool:=decide (0<s.length) && (at8 s 0 == 45 || at8 s 0 == 43)
def tlS(s:Str):Str:=bif sgn s then s.drop 1 else s
def gR(s:Str):Int:=bif rdB (tlS s) then (if at8 s 0=45 then - rdN (tlS s) else rdN (tlS s)) else 0
def jC(s:Str):Bool:=rdB (tlS s)
theorem F2(s:Str):0<=rdN s/\rdN s<=1000000000:=by
 unfold rdN
 cases h:rdB s with
 | false=>simp
 | true =>
  simp only [rdB,Bool.and_eq_true,decide_eq_true_eq] at h
  simp only [cond_true];omega
theorem uK(s:Str):-1000000000<=gR s/\gR s<=1000000000:=by
 have:=F2 (tlS s)
 unfold gR
 cases rdB (tlS s) with
 | false=>simp
 | true=>simp only [cond_true];split<;>omega
def rW(n:Int)(r:df):Bool:=decide (r.fLo<=n) && decide (n<=r.fHi)
def ug(l:List df)(n:Int):Bool:=l.any (rW n) || decide (l.length=0)
end
section
theorem Hv{s:Str}{k:Nat}(hR:bL (dgt s) k=true)(hv:fc s k<=1000000000)(hk:k<=s.length)(h:¬ k<s.length):rdB s=decide ((0:Int)<(s.length:Int))/\(rdN s=fc s k):=by
 obtain rfl:k=s.length:=by omega
 have e:rdB s=decide ((0:Int)<(s.length:Int)):=by
  rw [rdB,hR,decide_eq_true hv,Bool.true_and,Bool.true_and]
  exact decide_eq_decide.2 (by omega)
 refine ⟨e,?_⟩
 rw [rdN,e]
 by_cases h0:s.length=0
 ·rw [h0];rfl
 ·rw [decide_eq_true (by omega)];rfl
theorem I4{α:Type}[Inhabited α]{p:α->Bool}{l:List α}{k:Nat}(h:k<l.length)(e:p (at_ l k)=true):l.any p=true:=List.any_eq_true.2 ⟨_,at_mem h,e⟩
theorem FB{α:Type}{p:α->Bool}{l:List α}{k:Nat}(hk:¬ k<l.length)(h:∀ x∈l.take k,p x=false):l.any p=false:=by
 rw [List.take_of_length_le (by omega)] at h
 rw [List.any_eq_false];intro x hx;rw [h x hx];simp
theorem tC(x:Int):(x.tdiv 10).natAbs=x.natAbs / 10:=by rw [Int.natAbs_tdiv];rfl
end
section
@[go_sem] theorem Ws{y:Int}(h0:0<=y)(h1:y<=255):unb [.v (.int .u8 y)]=some [UInt8.ofNat y.toNat]:=by simp only [unb,if_pos (And.intro h0 h1),Option.map_some]
theorem BW(x:Int):-9<=x.tmod 10/\x.tmod 10<=9/\(x.tmod 10).natAbs=x.natAbs % 10:=by
 have h:=Int.natAbs_tmod x 10
 have h2:(x.tmod 10).natAbs<10:=by rw [h];exact Nat.mod_lt _ (by decide)
 have h3:=tC x
 exact ⟨by omega,by omega,h⟩
theorem E5(n:Nat):((n:Int) == 0)=decide (n=0):=by
 by_cases h:n=0
 ·simp [h]
 ·simp [h]
theorem jE{s:Str}:(s.take s.length).drop (Int.toNat 1)=s.drop 1:=by simp
theorem tz{s:Str}(h:0<(s.length:Int)/\(at8 s 0=45\/at8 s 0=43)):tlS s=s.drop 1:=by
 have:sgn s=true:=by simp only [sgn,Bool.and_eq_true,decide_eq_true_eq,Bool.or_eq_true,beq_iff_eq];exact ⟨by omega,h.2⟩
 rw [tlS,this];rfl
theorem FL{s:Str}(h:0<(s.length:Int)->¬ at8 s 0=45/\¬ at8 s 0=43):tlS s=s:=by
 have:sgn s=false:=by
  simp only [sgn,Bool.and_eq_false_imp,decide_eq_true_eq,Bool.or_eq_false_iff,beq_eq_false_iff_ne,ne_eq]
  exact fun q=>h (by omega)
 rw [tlS,this];rfl
@[go_sem] theorem VX:rdB []=false:=rfl
end
section
theorem Fo{x:Int}{s t:Str}{c:UInt8}(hx:¬ x=0)(hs:dg x.natAbs++s=t)(hc:c=UInt8.ofNat (48+x.natAbs % 10)):dg (x.tdiv 10).natAbs++c::s=t:=by
 rw [zG (by omega),List.append_assoc] at hs
 rw [tC,hc];exact hs
theorem I3{a s t:Str}(h:a++s=t):s.length<=t.length:=by rw [<- h,List.length_append];omega
end
section
theorem FG{t:Str}{k:Nat}{v:Int}(hd:48<=at8 t k/\at8 t k<=57)(h1:fc t k<=1000000000->v=fc t k)(h2:1000000000<fc t k->1000000000<v) :
  (v<=1000000000->(fc t (k+1)<=1000000000->v * 10+(at8 t k - 48)=fc t (k+1))/\(1000000000<fc t (k+1)->1000000000<v * 10+(at8 t k - 48))) /\
  (1000000000<v->(fc t (k+1)<=1000000000->v=fc t (k+1))/\(1000000000<fc t (k+1)->1000000000<v)):=by
 have:=BQ (s:=t) (k:=k) hd.1
 refine ⟨fun h=>⟨fun _=>?_,fun _=>?_⟩,fun h=>⟨fun _=>?_,fun _=>?_⟩⟩<;>omega
theorem Hu{t:Str}{k:Nat}{v:Int}(hR:bL (dgt t) k=true)(hk:k<=t.length)(h:¬ k<t.length)(h0:¬ t=[])(h1:fc t k<=1000000000->v=fc t k)(h2:1000000000<fc t k->1000000000<v) :
  rdB t=decide (v<=1000000000)/\(v<=1000000000->rdN t=v):=by
 have hl:0<t.length:=List.length_pos_iff.2 h0
 by_cases e:fc t k<=1000000000
 ·obtain ⟨a,b⟩:=Hv hR e hk h
  rw [h1 e,a,b]
  exact ⟨by rw [decide_eq_true (by omega),decide_eq_true (by omega)],fun _=>rfl⟩
 ·have:=h2 (by omega)
  rw [Hw hk (by omega)]
  exact ⟨by rw [decide_eq_false (by omega)],fun h=>by omega⟩
end
end Go.Dt
namespace Go.Proofs
open Go.Ab Go.Dt
set_option maxHeartbeats 1000000
instance NS(n:Int):Ctr lim Tryz.prog 169 [] [.v (.int .i64 n)] (.str (Lib.itoa n)) [] (-9223372036854775808<=n/\n<=9223372036854775807):=by
 refine Ctr.bd Tryz.func169 Tryz.ntmps169 rfl rfl fun hp=>?_
 (refine vU ?_;with_reducible repeat' first|exact Le.l|apply Sw|intro h)
 ·rw [h,Az]
 have hl:=Pm n.natAbs
 refine AW.aw [3,4] [0,2] (fun m xs o=>∃ (s:Str) (x:Int),xs=[.str s,.v (.int .i64 x)]/\o=[]/\m=x.natAbs/\dg x.natAbs++s=dg n.natAbs/\s.length<=n.natAbs / 10+1/\-9223372036854775808<=x/\x<=9223372036854775807) n.natAbs [] trivial ⟨[],n,?_,rfl,rfl,?_,?_,?_,?_⟩ ?_
 ·rfl
 ·simp
 ·simp
 ·omega
 ·omega
 rintro m xs o ⟨s,x,rfl,rfl,rfl,hs,hl2,hx1,hx2⟩
 have hd:=tC x
 have hm:=BW x
 (refine vU ?_;with_reducible repeat' first|exact Le.l|apply Sw|intro h)
 ·have e:=Fo (c:=UInt8.ofNat (48+(0 - x.tmod 10)).toNat) (by assumption) hs (by congr 1;omega)
  exact ⟨_,[_,_],[],by omega,⟨_,_,rfl,rfl,rfl,e,by have:=I3 e;omega,by omega,by omega⟩,rfl,trivial⟩
 ·have e:=Fo (c:=UInt8.ofNat (48+x.tmod 10).toNat) (by assumption) hs (by congr 1;omega)
  exact ⟨_,[_,_],[],by omega,⟨_,_,rfl,rfl,rfl,e,by have:=I3 e;omega,by omega,by omega⟩,rfl,trivial⟩
 ·rename_i hx;subst hx;rw [zk (by omega),if_pos h,<- hs];rfl
 ·rename_i hx;subst hx;rw [zk (by omega),if_neg (by omega),<- hs];rfl
instance QF(L:Nat->Nat)(s:Str):Ctr L Tryz.prog 228 [] [.str s] (.tup [.v (.int .i64 (rdN s)),.v (.bool (rdB s))]) [] True:=by
 refine Ctr.bd Tryz.func228 Tryz.ntmps228 rfl rfl fun hp=>?_
 refine AW.fact 0 fun hf=>?_
 simp (disch:=omega) only [go_sem,Nat.reduceBEq] at hf
 (refine vU ?_;with_reducible repeat' first|exact Le.l|apply Sw|intro h)
 refine AW.aw [4,5] [0] (fun m xs o=>∃ k:Nat,xs=[.v (.int .i64 (fc s k)),.v (.int .i64 k)]/\o=[]/\m=s.length - k/\k<=s.length/\bL (dgt s) k=true/\fc s k<=1000000000) s.length [] trivial ⟨0,?_,rfl,rfl,?_,rfl,?_⟩ ?_
 ·rfl
 ·omega
 ·simp [fc]
 rintro m xs o ⟨k,rfl,rfl,rfl,hk,hR,hv⟩
 have hst:=@BQ s k
 (refine vU ?_;with_reducible repeat' first|exact Le.l|apply Sw|intro h)
 ·have:=FZ (s:=s) (k:=k) (by assumption) (by omega)
  simp [rdN,this]
 ·have:=Hw (s:=s) (k:=k+1) (by omega) (by omega)
  simp [rdN,this]
 ·exact ⟨_,[_,_],[],by omega,⟨k+1,rfl,rfl,rfl,by omega,cj hR (oV.2 (by assumption)),by omega⟩,by rw [hst (by omega)];rfl,trivial⟩
 ·obtain ⟨e1,e2⟩:=Hv hR hv hk h
  rw [e1,e2]
instance PO(L:Nat->Nat)[hL:Lok L](l:List df)(n:Int):Ctr L Tryz.prog 170 [] [.sl false 2 (l.map (aI false)),.v (.int .i64 n)] (.v (.bool (ug l n))) [] True:=by
 refine Ctr.bd Tryz.func170 Tryz.ntmps170 rfl rfl fun hp=>?_
 refine AW.fact 0 fun hf=>?_
 simp (disch:=omega) only [go_sem,Nat.reduceBEq] at hf
 have hf:=Nat.le_trans hf (hL.le 2)
 (refine vU ?_;with_reducible repeat' first|exact Le.l|apply Sw|intro h)
 refine AW.aw [5] [0,1] (fun m xs o=>∃ k:Nat,xs=[.v (.int .i64 k)]/\o=[]/\m=l.length - k/\k<=l.length/\∀ x∈l.take k,rW n x=false) l.length [] trivial ⟨0,?_,rfl,rfl,?_,?_⟩ ?_
 ·rfl
 ·omega
 ·simp
 rintro m xs o ⟨k,rfl,rfl,rfl,hk,hR⟩
 (refine vU ?_;with_reducible repeat' first|exact Le.l|apply Sw|intro h)
 ·rw [ug,I4 (by assumption) (by simp [rW,h])];rfl
 ·exact ⟨_,[_],[],by omega,⟨k+1,rfl,rfl,rfl,by omega,bD (by assumption) hR (by simp [rW];omega)⟩,rfl,trivial⟩
 ·rw [ug,FB h hR,E5];rfl
instance P5(L:Nat->Nat)[hL:Lok L](l:List df)(n:Int):Ctr L Tryz.prog 188 [] [.sl false 2 (l.map (aI false)),.v (.int .i64 n)] (.v (.bool (ug l n))) [] True:=by
 refine Ctr.bd Tryz.func188 Tryz.ntmps188 rfl rfl fun hp=>?_
 refine AW.fact 0 fun hf=>?_
 simp (disch:=omega) only [go_sem,Nat.reduceBEq] at hf
 have hf:=Nat.le_trans hf (hL.le 2)
 (refine vU ?_;with_reducible repeat' first|exact Le.l|apply Sw|intro h)
 refine AW.aw [9] [0,1,7,8] (fun m xs o=>∃ k:Nat,xs=[.v (.int .i64 k)]/\o=[]/\m=l.length - k/\k<=l.length/\∀ x∈l.take k,rW n x=false) l.length [] trivial ⟨0,?_,rfl,rfl,?_,?_⟩ ?_
 ·rfl
 ·omega
 ·simp
 rintro m xs o ⟨k,rfl,rfl,rfl,hk,hR⟩
 (refine vU ?_;with_reducible repeat' first|exact Le.l|apply Sw|intro h)
 ·rw [ug,I4 (by assumption) (by simp [rW,h])];rfl
 ·exact ⟨_,[_],[],by omega,⟨k+1,rfl,rfl,rfl,by omega,bD (by assumption) hR (by simp [rW];omega)⟩,rfl,trivial⟩
 ·rw [ug,FB h hR,E5];rfl
instance QB(L:Nat->Nat)(s:Str):Ctr L Tryz.prog 168 [] [.str s] (.tup [.v (.int .i64 (gR s)),.v (.bool (jC s))]) [] True:=by
 refine Ctr.bd Tryz.func168 Tryz.ntmps168 rfl rfl fun hp=>?_
 refine AW.fact 0 fun hf=>?_
 simp (disch:=omega) only [go_sem,Nat.reduceBEq] at hf
 have h1:=F2 s
 have h2:=F2 ((s.take s.length).drop (Int.toNat 1))
 rcases Nat.eq_zero_or_pos s.length with h0|h0
 ·obtain rfl:=List.eq_nil_of_length_eq_zero h0
  (refine vU ?_;with_reducible repeat' first|exact Le.l|apply Sw|intro h)
  rfl
 (refine vU ?_;with_reducible repeat' first|exact Le.l|apply Sw|intro h)
 ·rw [jE] at h;simp only [gR,jC,tz (by assumption),h,cond_false]
 ·rename_i h3 h4;rw [jE] at h4 ⊢;simp only [gR,jC,tz h3,h4,h,cond_true,if_true,Int.zero_sub]
 ·rename_i h3 h4;rw [jE] at h4 ⊢;simp only [gR,jC,tz h3,h4,h,cond_true,if_false]
 ·simp only [gR,jC,FL (by assumption),h,cond_false]
 ·rename_i h3 h4;simp only [gR,jC,FL h3,h4,h,cond_true,if_false]
instance QZ(L:Nat->Nat)(s:Str):Ctr L Tryz.prog 187 [] [.str s] (.tup [.v (.int .i64 (gR s)),.v (.bool (jC s))]) [] True:=by
 refine Ctr.bd Tryz.func187 Tryz.ntmps187 rfl rfl fun hp=>?_
 refine AW.fact 0 fun hf=>?_
 simp (disch:=omega) only [go_sem,Nat.reduceBEq] at hf
 rcases Nat.eq_zero_or_pos s.length with h0|h0
 ·obtain rfl:=List.eq_nil_of_length_eq_zero h0
  (refine vU ?_;with_reducible repeat' first|exact Le.l|apply Sw|intro h)
  rfl
 have hs0:(0:Int)<(s.length:Int):=by omega
 have hsn:¬ s=[]:=fun e=>by rw [e] at h0;exact absurd h0 (by decide)
 (refine vU ?_;with_reducible repeat' first|exact Le.l|apply Sw|intro h)
 ·rename_i h3;rw [jE] at h;simp only [gR,jC,tz ⟨hs0,h3.2⟩,h];rfl
 ·rename_i h3
  rw [jE]
  rw [jE] at h
  have ht:=tz ⟨hs0,h3.2⟩
  have hl:(s.drop 1).length<=s.length:=by simp
  have hne:=h
  clear h
  generalize s.drop 1=t at *
  refine AW.aw [5,6] [0,4] (fun m xs o=>∃ (k:Nat) (v:Int),xs=[.v (.int .i64 v),.v (.int .i64 k)]/\o=[]/\m=t.length - k/\k<=t.length/\bL (dgt t) k=true/\(fc t k<=1000000000->v=fc t k)/\(1000000000<fc t k->1000000000<v)/\0<=v/\v<=10000000009) t.length [] trivial ⟨0,0,?_,rfl,rfl,?_,rfl,fun _=>rfl,?_,?_,?_⟩ ?_
  ·rfl
  ·omega
  ·intro hh;simp [fc] at hh
  ·omega
  ·omega
  rintro m xs o ⟨k,v,rfl,rfl,rfl,hk,hR,e1,e2,hv1,hv2⟩
  (refine vU ?_;with_reducible repeat' first|exact Le.l|apply Sw|intro h)
  ·simp only [gR,jC,ht,FZ (by assumption) (show ¬ (48<=at8 t k/\at8 t k<=57) by omega),cond_false]
  ·have e:=(FG (by assumption) e1 e2).1 h
   exact ⟨_,[_,_],[],by omega,⟨k+1,_,rfl,rfl,rfl,by omega,cj hR (oV.2 (by assumption)),e.1,e.2,by omega,by omega⟩,rfl,trivial⟩
  ·have e:=(FG (by assumption) e1 e2).2 h
   exact ⟨_,[_,_],[],by omega,⟨k+1,_,rfl,rfl,rfl,by omega,cj hR (oV.2 (by assumption)),e.1,e.2,by omega,by omega⟩,rfl,trivial⟩
  all_goals
   obtain ⟨a,b⟩:=Hu hR hk (by assumption) hne e1 e2
  ·simp only [gR,jC,ht,a,decide_eq_false (show ¬ v<=1000000000 by omega),cond_false]
  ·rename_i hv;simp only [gR,jC,ht,a,decide_eq_true hv,b hv,h,cond_true,if_true,Int.zero_sub]
  ·rename_i hv;simp only [gR,jC,ht,a,decide_eq_true hv,b hv,h,cond_true,if_false]
 ·exact absurd h hsn
 ·rename_i h3
  have ht:=FL fun _=>h3 h
  have hne:=h
  refine AW.aw [5,6] [0,4] (fun m xs o=>∃ (k:Nat) (v:Int),xs=[.v (.int .i64 v),.v (.int .i64 k)]/\o=[]/\m=s.length - k/\k<=s.length/\bL (dgt s) k=true/\(fc s k<=1000000000->v=fc s k)/\(1000000000<fc s k->1000000000<v)/\0<=v/\v<=10000000009) s.length [] trivial ⟨0,0,?_,rfl,rfl,?_,rfl,fun _=>rfl,?_,?_,?_⟩ ?_
  ·rfl
  ·omega
  ·intro hh;simp [fc] at hh
  ·omega
  ·omega
  rintro m xs o ⟨k,v,rfl,rfl,rfl,hk,hR,e1,e2,hv1,hv2⟩
  (refine vU ?_;with_reducible repeat' first|exact Le.l|apply Sw|intro h)
  ·simp only [gR,jC,ht,FZ (by assumption) (show ¬ (48<=at8 s k/\at8 s k<=57) by omega),cond_false]
  ·have e:=(FG (by assumption) e1 e2).1 h
   exact ⟨_,[_,_],[],by omega,⟨k+1,_,rfl,rfl,rfl,by omega,cj hR (oV.2 (by assumption)),e.1,e.2,by omega,by omega⟩,rfl,trivial⟩
  ·have e:=(FG (by assumption) e1 e2).2 h
   exact ⟨_,[_,_],[],by omega,⟨k+1,_,rfl,rfl,rfl,by omega,cj hR (oV.2 (by assumption)),e.1,e.2,by omega,by omega⟩,rfl,trivial⟩
  all_goals
   obtain ⟨a,b⟩:=Hu hR hk (by assumption) hne e1 e2
  ·simp only [gR,jC,ht,a,decide_eq_false (show ¬ v<=1000000000 by omega),cond_false]
  ·rename_i hv;simp only [gR,jC,ht,a,decide_eq_true hv,b hv,(h3 hsn).1,cond_true,if_false]
end Go.Proofs
namespace Go.Ab
open Go.RowKit (Below)
open Go.Sort (grow)
theorem Ql{P:Program}{L:Nat->Nat}{B:Nat->Prop}{w:World}{name:String}{g:Nat}(hg:P.globalNamed name=some g)(hl:g<1048576)(h:L 1000000000=2097152+g)(ht:Tb L B w):Lib.TabIs P w name .u64 Lib.pow10Tab:=by
 obtain ⟨_,T,z,e⟩:=ht 0 g _ rfl hl h
 simp [Lib.TabIs,World.var?,hg,e]
theorem Qj{P:Program}{L:Nat->Nat}{w:World}{name:String}{g:Nat}(hg:P.globalNamed name=some g)(hL:∀ k c g',tabs k=some c->g'<1048576->L (1000000000+k)=2097152+g'->k=0/\g'=g)(h:Lib.TabIs P w name .u64 Lib.pow10Tab):Tb L (fun b=>b<w.heap.size) w:=by
 intro k g' c hc hl hk
 obtain ⟨rfl,rfl⟩:=hL k c g' hc hl hk
 obtain rfl:=Option.some.inj hc
 simp only [Lib.TabIs,World.var?,hg,Option.bind_some] at h
 split at h
 ·rename_i cs T z hh
  refine ⟨?_,T,z,?_⟩
  ·rcases Nat.lt_or_ge g' w.heap.size with q|q
   ·exact q
   ·rw [Array.getElem?_eq_none q] at hh;cases hh
  ·rw [hh,Option.some.inj h]
 ·cases h
theorem Fp(u:Nat):(Lib.decDigits u).length<=u / 10+1:=by
 induction u using Nat.strongRecOn with
 | _ u ih =>
  rw [Lib.decDigits]
  split
  ·simp
  ·have:=ih (u / 10) (by omega)
   simp only [List.length_append,List.length_singleton]
   omega
theorem JU(n:Int)(h0:-9223372036854775808<=n)(h1:n<=9223372036854775807):(Lib.itoa n).length<=4611686018427387904:=by
 unfold Lib.itoa
 split
 ·have:=Fp n.natAbs
  simp only [List.length_cons];omega
 ·have:=Fp n.toNat
  omega
theorem H2{L:Nat->Nat}{P:Program}{f:FuncId}{T:World->Prop}(hT:∀ w,Tb L (fun b=>b<w.heap.size) w->T w){n:Int}(h0:-9223372036854775808<=n)(h1:n<=9223372036854775807)
  (h:∀ w,T w->Calls P f #[.int .i64 n] w fun e w'=>e=.returned (.string ⟨(Lib.itoa n).toArray⟩)/\∃ k os,w'=grow (w.drewN k) os):eS L P f [.v (.int .i64 n)] (.str (Lib.itoa n)):=by
 intro w F vs hF ht hr
 obtain rfl:vs=[.int .i64 n]:=by
  simp only [aj,Rep] at hr
  obtain ⟨y,vs',f1,f2,rfl,_,⟨rfl,_⟩,rfl,_⟩:=hr
  rfl
 refine (h w (hT w ht)).mono ?_
 rintro e w' ⟨rfl,k,os,rfl⟩
 have hb:Below w.heap.size w (grow (w.drewN k) os):=by
  refine ⟨rfl,rfl,rfl,by simp [grow,World.drewN],fun k hk=>?_⟩
  simp only [grow,World.drewN]
  exact Array.getElem?_append_left hk
 exact ⟨_,F,[],rfl,hb,fun _ h=>h,fun b h=>.inl h,by simp only [Rep];exact ⟨trivial,JU n h0 h1,trivial⟩,by simp,by simp⟩
end Go.Ab
namespace Go.Proofs
open Go.Shelf
def Tryz.Ed:Go.Shelf.Ren:=⟨fun|171=>245|243=>285|246=>314|283=>334|284=>335|285=>336|286=>337|129=>354|317=>353|318=>355|319=>356|320=>357|337=>367|338=>368|n=>n,fun|3=>3|9=>9|2=>2|4=>4|171=>385|0=>0|53=>386|37=>205|5=>5|173=>389|212=>401|51=>402|20=>20|213=>403|46=>375|232=>412|233=>413|n=>n,fun|17=>0|18=>2|19=>3|n=>n⟩
theorem Tryz.Mg:Go.Proofs.LaysM.n171 Tryz.prog Tryz.Ed:={
 mixed:=by kernel_rfl
 f129:=Tryz.func354.trans (congrArg some (by kernel_rfl))
 f171:=Tryz.func245.trans (congrArg some (by kernel_rfl))
 f243:=Tryz.func285.trans (congrArg some (by kernel_rfl))
 f246:=Tryz.func314.trans (congrArg some (by kernel_rfl))
 f283:=Tryz.func334.trans (congrArg some (by kernel_rfl))
 f284:=Tryz.func335.trans (congrArg some (by kernel_rfl))
 f285:=Tryz.func336.trans (congrArg some (by kernel_rfl))
 f286:=Tryz.func337.trans (congrArg some (by kernel_rfl))
 f317:=Tryz.func353.trans (congrArg some (by kernel_rfl))
 f318:=Tryz.func355.trans (congrArg some (by kernel_rfl))
 f319:=Tryz.func356.trans (congrArg some (by kernel_rfl))
 f320:=Tryz.func357.trans (congrArg some (by kernel_rfl))
 f337:=Tryz.func367.trans (congrArg some (by kernel_rfl))
 f338:=Tryz.func368.trans (congrArg some (by kernel_rfl))
 t0:=Tryz.underlying0
 a0:=Tryz.isAgg0
 z0:=Tryz.sizeOf0
 v0:=Tryz.zeroValue0
 t2:=Tryz.underlying2
 a2:=Tryz.isAgg2
 z2:=Tryz.sizeOf2
 v2:=Tryz.zeroValue2
 t3:=Tryz.underlying3
 a3:=Tryz.isAgg3
 z3:=Tryz.sizeOf3
 v3:=Tryz.zeroValue3
 t4:=Tryz.underlying4
 a4:=Tryz.isAgg4
 z4:=Tryz.sizeOf4
 v4:=Tryz.zeroValue4
 t5:=Tryz.underlying5
 a5:=Tryz.isAgg5
 z5:=Tryz.sizeOf5
 v5:=Tryz.zeroValue5
 t9:=Tryz.underlying9
 a9:=Tryz.isAgg9
 z9:=Tryz.sizeOf9
 v9:=Tryz.zeroValue9
 t20:=Tryz.underlying20
 a20:=Tryz.isAgg20
 z20:=Tryz.sizeOf20
 v20:=Tryz.zeroValue20
 t37:=Tryz.underlying205
 a37:=Tryz.isAgg205
 z37:=Tryz.sizeOf205
 v37:=Tryz.zeroValue205
 t46:=Tryz.underlying375
 a46:=Tryz.isAgg375
 z46:=Tryz.sizeOf375
 v46:=Tryz.zeroValue375
 t51:=Tryz.underlying402
 a51:=Tryz.isAgg402
 z51:=Tryz.sizeOf402
 v51:=Tryz.zeroValue402
 t53:=Tryz.underlying386
 a53:=Tryz.isAgg386
 z53:=Tryz.sizeOf386
 v53:=Tryz.zeroValue386
 t171:=Tryz.underlying385
 a171:=Tryz.isAgg385
 z171:=Tryz.sizeOf385
 v171:=Tryz.zeroValue385
 t173:=Tryz.underlying389
 a173:=Tryz.isAgg389
 z173:=Tryz.sizeOf389
 v173:=Tryz.zeroValue389
 t212:=Tryz.underlying401
 a212:=Tryz.isAgg401
 z212:=Tryz.sizeOf401
 v212:=Tryz.zeroValue401
 t213:=Tryz.underlying403
 a213:=Tryz.isAgg403
 z213:=Tryz.sizeOf403
 t232:=Tryz.underlying412
 a232:=Tryz.isAgg412
 z232:=Tryz.sizeOf412
 v232:=Tryz.zeroValue412
 t233:=Tryz.underlying413
 a233:=Tryz.isAgg413
 z233:=Tryz.sizeOf413
 v233:=Tryz.zeroValue413
 g17:=by kernel_rfl
 g18:=by kernel_rfl
 g19:=by kernel_rfl
 i0:=by kernel_rfl
 i2:=by kernel_rfl
 i3:=by kernel_rfl
 i4:=by kernel_rfl
 i5:=by kernel_rfl
 i9:=by kernel_rfl
 i20:=by kernel_rfl
 i37:=by kernel_rfl
 i46:=by kernel_rfl
 i51:=by kernel_rfl
 i53:=by kernel_rfl
 i171:=by kernel_rfl
 i173:=by kernel_rfl
 i212:=by kernel_rfl
 i232:=by kernel_rfl
 i233:=by kernel_rfl
 m17:=by kernel_rfl
 m18:=by kernel_rfl
 m19:=by kernel_rfl }
def Tryz.Ee:Go.Shelf.Ren:=⟨fun|137=>317|217=>339|266=>360|n=>n,fun|9=>9|5=>5|3=>3|n=>n,fun|n=>n⟩
theorem Tryz.Mh:Go.Proofs.Lays.n137 Tryz.prog Tryz.Ee:={
 mixed:=by kernel_rfl
 f137:=Tryz.func317.trans (congrArg some (by kernel_rfl))
 f217:=Tryz.func339.trans (congrArg some (by kernel_rfl))
 f266:=Tryz.func360.trans (congrArg some (by kernel_rfl))
 t3:=Tryz.underlying3
 a3:=Tryz.isAgg3
 z3:=Tryz.sizeOf3
 v3:=Tryz.zeroValue3
 t5:=Tryz.underlying5
 a5:=Tryz.isAgg5
 z5:=Tryz.sizeOf5
 v5:=Tryz.zeroValue5
 t9:=Tryz.underlying9
 a9:=Tryz.isAgg9
 z9:=Tryz.sizeOf9
 v9:=Tryz.zeroValue9 }
end Go.Proofs
namespace Go.Proofs
open Go.Ab Go.Dt
set_option maxHeartbeats 1000000
instance V6(n:Int):Ctr lim Tryz.prog 245 [] [.v (.int .i64 n)] (.str (Lib.itoa n)) [] (-9223372036854775808<=n/\n<=9223372036854775807) :=
 Ctr.jH (aW 245) fun hp=>H2 (fun w ht=>Ql (g:=0) (by kernel_rfl) (by decide) rfl ht) hp.1 hp.2 fun w hT=>Any.strconv_Itoa Tryz.Mg n hp.1 hp.2 w hT
instance OQ(n:Int):Ctr lim Tryz.prog 189 [] [.v (.int .i64 n)] (.str (Lib.itoa n)) [] (-9223372036854775808<=n/\n<=9223372036854775807):=by
 refine Ctr.bd Tryz.func189 Tryz.ntmps189 rfl rfl fun hp=>?_
 all_goals exact uU
theorem eS.RG{L:Nat->Nat}{f:FuncId}{args:List AV}{vs0:List Value}{res:AV}{v:Value}(ha:∀ F w vs,aj L F w args vs []->vs=vs0)(hr:∀ F w,Rep L F w res v [])(h:∀ w,Calls Tryz.prog f vs0.toArray w fun e w'=>e=.returned v/\w'=w):eS L Tryz.prog f args res:=by
 intro w F vs hF ht hv
 obtain rfl:=ha F w vs hv
 refine (h w).mono ?_
 rintro e w' ⟨rfl,rfl⟩
 exact ⟨_,F,[],rfl,Go.RowKit.Below.refl _ _,fun _ h=>h,fun b h=>.inl h,hr F _,by simp,by simp⟩
instance P1(L:Nat->Nat)(s:Str)(c:Int):Ctr L Tryz.prog 317 [] [.str s,.v (.int .u8 c)] (.v (.int .i64 (Lib.indexByte s (UInt8.ofNat c.toNat)))) [] True :=
 Ctr.jH (aW 317) fun _=>eS.RG (vs0:=[.string ⟨s.toArray⟩,.int .u8 c]) (v:=.int .i64 (Lib.indexByte s (UInt8.ofNat c.toNat))) (fun F w vs h=>by
  simp only [aj,Rep] at h
  obtain ⟨y,vs',f1,f2,rfl,_,⟨rfl,_⟩,y2,vs2,f3,f4,rfl,_,⟨rfl,_⟩,rfl,_⟩:=h
  rfl) (fun F w=>by simp [Rep]) fun w=>by
  have h:=Any.strings_IndexByte Tryz.Mh ⟨s.toArray⟩ c w
  exact h
end Go.Proofs
namespace Go.Proofs
open Go.Ab Go.Dt
section
attribute [local go_sem] bg.eta
instance QY(n:Nat)(a g:Nat->Bool):fu lim Tryz.prog 318 1 (bC n a) [.sl false 1 (bC n g)] (.v (.bool (grew n g a))) (bC n (orB a g)) (0<n/\n<=4611686018427387904):=by
 refine fu.of (aW 318) (fun b=>?_) (fun e=>?_) (by simp [dE]) (eW _ _) (eW _ _)
 ·simp only [dE,ib]
  refine Ctr.bd Tryz.func318 Tryz.ntmps318 rfl rfl fun hp=>?_
  (refine vU ?_;with_reducible repeat' first|exact Le.l|apply Sw|intro (K:_->_->Prop) hK|intro h)
  refine AW.aw [5,9] [0,1,8] (fun m xs o=>∃ k:Nat,xs=[.v (.bool (grew k g a)),.v (.int .i64 k)]/\o=[(b,some (bC n (joK a g k)))]/\m=n - k/\k<=n) n [(b,some (bC n a))] (aE rfl) ⟨0,rfl,?_,rfl,?_⟩ ?_
  ·rw [JS]
  ·omega
  rintro m xs o ⟨k,rfl,rfl,rfl,hk⟩
  (refine vU ?_;with_reducible repeat' first|exact Le.l|apply Sw|intro (K:_->_->Prop) hK|intro h)
  ·rw [H0] at h
   refine ⟨_,[_,_],_,by omega,⟨k+1,rfl,rfl,rfl,by omega⟩,by rw [qn,h.1,h.2,Bool.not_false,Bool.and_self,Bool.or_true];rfl,aE ?_⟩
   rw [Mn h.1]
  ·rw [H0] at h
   refine ⟨_,[_,_],_,by omega,⟨k+1,rfl,rfl,rfl,by omega⟩,?_,aE ?_⟩
   ·rw [qn]
    cases h1:g k with
    | false=>rw [Bool.false_and,Bool.or_false];rfl
    | true=>rw [h h1,Bool.not_true,Bool.and_false,Bool.or_false];rfl
   ·rw [JT h]
  ·rw [show k=n by omega]
  ·rw [Mo n a g h]
 ·have e0:n=0:=by have:=congrArg List.length e;simpa [dE] using this
  subst e0
  exact ⟨⟨(aW 318),fun hp=>absurd hp.1 (by omega)⟩,rfl⟩
theorem Ae:∀ (n:Nat) (op:Int) (t:Str) (ks:List bg) (s:Str) (f:Nat->Bool),Ctr lim Tryz.prog 287 [] [.agg [.v (.int .i64 op),.str t,.sl false 3 (ks.map bF)],.str s,.sl false 1 (bC (s.length+1) f)] (.sl true 1 (bC (s.length+1) (ends s (.mk op t ks) f))) [] (mG ks<n/\s.length<=1048576)
 | 0,op,t,ks,s,f=>⟨(aW 287),fun h=>absurd h.1 (Nat.not_lt_zero _)⟩
 | n+1,op,t,ks,s,f=>by
  have ih:=Ae n
  refine Ctr.bd Tryz.func287 Tryz.ntmps287 rfl rfl fun hp=>?_
  have hls:=hp.2
  have hq:=fun k=>tO (l:=ks) (k:=k)
  have hq2:=fun k=>xQ (at_ ks k)
  by_cases h1:op=1
  ·subst h1
   rw [jc,if_pos rfl]
   (refine vX ?_;with_reducible repeat' first|exact Le.l|apply Sw|intro (K:_->_->Prop) hK|intro h)
   rename_i b
   refine AW.aw [8] [1,2,3,7] (fun m xs o=>∃ k:Nat,xs=[.v (.int .i64 k)]/\o=[(b,some (bC (s.length+1) (chK t s f k)))]/\m=s.length - k/\k<=s.length) s.length [(b,some (bC (s.length+1) (chK t s f 0)))] (aE (DK _ _ _ _).symm) ⟨0,?_,rfl,rfl,?_⟩ ?_
   ·rfl
   ·omega
   rintro m xs o ⟨k,rfl,rfl,rfl,hk⟩
   (refine vX ?_;with_reducible repeat' first|exact Le.l|apply Sw|intro (K:_->_->Prop) hK|intro h)
   ·exact ⟨_,[_],_,by omega,⟨k+1,rfl,rfl,rfl,by omega⟩,rfl,aE (Fw (by rw [DQ])).symm⟩
   ·rw [Fx (by omega)]
    refine AW.ret (aF.imp (Imp.fold 6 (b:=b) (len:=s.length+1) (sz:=1) (cells:=bC (s.length+1) (chE t s f)) (l:=bC (s.length+1) (chE t s f)) gO gO (dE _ _) (by rw [ib,Nat.mul_one,fF]) (eW _ _) ?_))
    refine aF.fin rfl ?_
    simp (maxSteps:=2000000) (disch:=omega) only [go_sem]
  by_cases h2:op=2
  ·subst h2
   rw [jc,if_neg (by decide),if_pos rfl]
   (refine vX ?_;with_reducible repeat' first|exact Le.l|apply Sw|intro (K:_->_->Prop) hK|intro h)
   rename_i b g1
   refine AW.imp (Imp.fold 7 (b:=b) (len:=s.length+1) (sz:=1) (cells:=bC (s.length+1) (f)) (l:=bC (s.length+1) (f)) gO gO (dE _ _) (by rw [ib,Nat.mul_one,fF]) (eW _ _) ?_)
   try simp (maxSteps:=2000000) (disch:=omega) only [go_sem]
   refine AW.fact 50 fun hf=>?_
   simp (disch:=omega) only [go_sem,Nat.reduceBEq] at hf
   refine AW.aw [7,52] [1,50,51] (fun m xs o=>∃ (k:Nat) (a:Nat->Bool),xs=[.sl true 1 (bC (s.length+1) a),.v (.int .i64 k)]/\o=[]/\m=ks.length - k/\k<=ks.length/\nZ s (ks.drop k) a=nZ s ks f) ks.length [] trivial ⟨0,f,?_,rfl,rfl,?_,rfl⟩ ?_
   ·rfl
   ·omega
   rintro m xs o ⟨k,a,rfl,rfl,rfl,hk,hR⟩
   have hqk:=hq k
   have J2:=hq2 k
   (refine vU ?_;with_reducible repeat' first|exact Le.l|apply Sw|intro (K:_->_->Prop) hK|intro h)
   ·exact ⟨_,[_,_],[],by omega,⟨k+1,_,rfl,rfl,rfl,by omega,by rw [<- hR,zZ (k:=k) (by assumption)]⟩,rfl,trivial⟩
   ·rw [<- hR,Cf h]
  by_cases h3:op=3
  ·subst h3
   rw [jc,if_neg (by decide),if_neg (by decide),if_pos rfl]
   (refine vX ?_;with_reducible repeat' first|exact Le.l|apply Sw|intro (K:_->_->Prop) hK|intro h)
   rename_i b g1 g2
   refine AW.imp (Imp.fold 7 (b:=b) (len:=s.length+1) (sz:=1) (cells:=bC (s.length+1) (fun _=>false)) (l:=bC (s.length+1) (fun _=>false)) gO gO (dE _ _) (by rw [ib,Nat.mul_one,fF]) (eW _ _) ?_)
   try simp (maxSteps:=2000000) (disch:=omega) only [go_sem]
   refine AW.fact 64 fun hf=>?_
   simp (disch:=omega) only [go_sem,Nat.reduceBEq] at hf
   refine AW.aw [7,66] [1,2,64,65] (fun m xs o=>∃ (k:Nat) (a:Nat->Bool),xs=[.sl true 1 (bC (s.length+1) a),.v (.int .i64 k)]/\o=[]/\m=ks.length - k/\k<=ks.length/\oC s (ks.drop k) f a=oC s ks f (fun _=>false)) ks.length [] trivial ⟨0,_,?_,rfl,rfl,?_,rfl⟩ ?_
   ·rfl
   ·omega
   rintro m xs o ⟨k,a,rfl,rfl,rfl,hk,hR⟩
   have hqk:=hq k
   have J2:=hq2 k
   (refine vU ?_;with_reducible repeat' first|exact Le.l|apply Sw|intro (K:_->_->Prop) hK|intro h)
   ·exact ⟨_,[_,_],[],by omega,⟨k+1,_,rfl,rfl,rfl,by omega,by rw [<- hR,Bd (k:=k) (by assumption)]⟩,rfl,trivial⟩
   ·rw [<- hR,DY h]
  have hq0:=hq 0
  have TY:=hq2 0
  by_cases h4:op=4
  ·subst h4
   rw [jc,if_neg (by decide),if_neg (by decide),if_neg (by decide),if_pos (by decide)]
   (refine vX ?_;with_reducible repeat' first|exact Le.l|apply Sw|intro (K:_->_->Prop) hK|intro h)
   ·rename_i b g1 g2 g3 g4 g5
    rw [rP (by omega)]
    refine AW.ret (aF.imp (Imp.fold 6 (b:=b) (len:=s.length+1) (sz:=1) (cells:=bC (s.length+1) (f)) (l:=bC (s.length+1) (f)) gO gO (dE _ _) (by rw [ib,Nat.mul_one,fF]) (eW _ _) ?_))
    refine aF.fin rfl ?_
    simp (maxSteps:=2000000) (disch:=omega) only [go_sem]
   ·rename_i b g1 g2 g3 g4 g5
    rw [p4 (by omega),if_pos rfl]
    refine AW.imp (Imp.fold 7 (b:=b) (len:=s.length+1) (sz:=1) (cells:=bC (s.length+1) (f)) (l:=bC (s.length+1) (f)) gO gO (dE _ _) (by rw [ib,Nat.mul_one,fF]) (eW _ _) ?_)
    try simp (maxSteps:=2000000) (disch:=omega) only [go_sem]
    refine AW.aw [7] [1,3] (fun m xs o=>∃ a:Nat->Bool,xs=[.sl true 1 (bC (s.length+1) a)]/\o=[]/\iter (s.length+1) (ends s (at_ ks 0)) m a=iter (s.length+1) (ends s (at_ ks 0)) (s.length+1) f/\ni a (s.length+1)<=m) (s.length+1) [] trivial ⟨f,?_,rfl,rfl,zH _ _⟩ ?_
    ·rfl
    rintro m xs o ⟨a,rfl,rfl,hR,hm⟩
    (refine vU ?_;with_reducible repeat' first|exact Le.l|apply Sw|intro (K:_->_->Prop) hK|intro h)
    ·obtain ⟨j,rfl,e1,e2⟩:=AA h hm
     exact ⟨j,[_],[],by omega,⟨_,rfl,rfl,by rw [<- e1];exact hR,e2⟩,rfl,trivial⟩
    ·rw [<- hR,CV h,jm (Ff h)]
  by_cases h5:op=5
  ·subst h5
   rw [jc,if_neg (by decide),if_neg (by decide),if_neg (by decide),if_pos (by decide)]
   (refine vX ?_;with_reducible repeat' first|exact Le.l|apply Sw|intro (K:_->_->Prop) hK|intro h)
   ·rename_i b g1 g2 g3 g4 g5
    rw [rP (by omega)]
    refine AW.ret (aF.imp (Imp.fold 6 (b:=b) (len:=s.length+1) (sz:=1) (cells:=bC (s.length+1) (f)) (l:=bC (s.length+1) (f)) gO gO (dE _ _) (by rw [ib,Nat.mul_one,fF]) (eW _ _) ?_))
    refine aF.fin rfl ?_
    simp (maxSteps:=2000000) (disch:=omega) only [go_sem]
   ·rename_i b g1 g2 g3 g4 g5
    rw [p4 (by omega),if_neg (by decide)]
    refine AW.imp (Imp.fold 7 (b:=b) (len:=s.length+1) (sz:=1) (cells:=bC (s.length+1) (f)) (l:=bC (s.length+1) (f)) gO gO (dE _ _) (by rw [ib,Nat.mul_one,fF]) (eW _ _) ?_)
    try simp (maxSteps:=2000000) (disch:=omega) only [go_sem]
    refine AW.aw [7] [1,3] (fun m xs o=>xs=[.sl true 1 (bC (s.length+1) f)]/\o=[]) 0 [] trivial ⟨?_,rfl⟩ ?_
    ·rfl
    rintro m xs o ⟨rfl,rfl⟩
    all_goals exact uU
  rw [jc,if_neg h1,if_neg h2,if_neg h3,if_neg (by omega)]
  (refine vX ?_;with_reducible repeat' first|exact Le.l|apply Sw|intro (K:_->_->Prop) hK|intro h)
  rename_i b g1 g2 g3 g4
  refine AW.ret (aF.imp (Imp.fold 6 (b:=b) (len:=s.length+1) (sz:=1) (cells:=bC (s.length+1) (fun _=>false)) (l:=bC (s.length+1) (fun _=>false)) gO gO (dE _ _) (by rw [ib,Nat.mul_one,fF]) (eW _ _) ?_))
  refine aF.fin rfl ?_
  simp (maxSteps:=2000000) (disch:=omega) only [go_sem]
end
section
attribute [local go_sem] bg.eta
instance Tv(n:Nat)(a g:Nat->Bool):Ctr lim Tryz.prog 310 [] [.sl false 1 (bC n a),.sl false 1 (bC n g)] (.sl true 1 (bC n (orB a g))) [] (n<=1099511627776):=by
 refine Ctr.bd Tryz.func310 Tryz.ntmps310 rfl rfl fun hp=>?_
 (refine vX ?_;with_reducible repeat' first|exact Le.l|apply Sw|intro h)
 obtain ⟨b,rfl⟩:∃ b,b=h:=⟨_,rfl⟩
 refine AW.aw [6] [0,1,5] (fun m xs o=>∃ k:Nat,xs=[.v (.int .i64 k)]/\o=[(b,some (bC n (boK a g k)))]/\m=n - k/\k<=n) n [(b,some (bC n (boK a g 0)))] (aE (KD _ _ _).symm) ⟨0,?_,rfl,rfl,?_⟩ ?_
 ·rfl
 ·omega
 rintro m xs o ⟨k,rfl,rfl,rfl,hk⟩
 (refine vX ?_;with_reducible repeat' first|exact Le.l|apply Sw|intro h)
 ·exact ⟨_,[_],_,by omega,⟨k+1,rfl,rfl,rfl,by omega⟩,rfl,aE (MU rfl).symm⟩
 ·rw [MW (by omega)]
  refine AW.ret (aF.imp (Imp.fold 4 (b:=b) (len:=n) (sz:=1) (cells:=bC n (orB a g)) (l:=bC n (orB a g)) gO gO (dE _ _) (by rw [ib,Nat.mul_one,fF]) (eW _ _) ?_))
  refine aF.fin rfl ?_
  simp (maxSteps:=2000000) (disch:=omega) only [go_sem]
theorem CT:∀ (n:Nat) (op:Int) (t:Str) (ks:List bg) (s:Str) (f:Nat->Bool),Ctr lim Tryz.prog 273 [] [.agg [.v (.int .i64 op),.str t,.sl false 3 (ks.map bF)],.str s,.sl false 1 (bC (s.length+1) f)] (.sl true 1 (bC (s.length+1) (ends s (.mk op t ks) f))) [] (mG ks<n/\s.length<=1048576)
 | 0,op,t,ks,s,f=>⟨(aW 273),fun h=>absurd h.1 (Nat.not_lt_zero _)⟩
 | n+1,op,t,ks,s,f=>by
  have ih:=CT n
  refine Ctr.bd Tryz.func273 Tryz.ntmps273 rfl rfl fun hp=>?_
  have hls:=hp.2
  have hq:=fun k=>tO (l:=ks) (k:=k)
  have hq2:=fun k=>xQ (at_ ks k)
  by_cases h1:op=1
  ·subst h1
   rw [jc,if_pos rfl]
   (refine vX ?_;with_reducible repeat' first|exact Le.l|apply Sw|intro h)
   rename_i b
   refine AW.fact 3 fun hf=>?_
   simp (disch:=omega) only [go_sem,Nat.reduceBEq] at hf
   refine AW.aw [8] [1,2,3,7] (fun m xs o=>∃ k:Nat,xs=[.v (.int .i64 k)]/\o=[(b,some (bC (s.length+1) (chK t s f k)))]/\m=s.length - k/\k<=s.length) s.length [(b,some (bC (s.length+1) (chK t s f 0)))] (aE (DK _ _ _ _).symm) ⟨0,?_,rfl,rfl,?_⟩ ?_
   ·rfl
   ·omega
   rintro m xs o ⟨i,rfl,rfl,rfl,hi⟩
   (refine vX ?_;with_reducible repeat' first|exact Le.l|apply Sw|intro h)
   ·rename_i hi2
    refine AW.aw [9] [1,2,3,7,8] (fun m xs o=>∃ k:Nat,xs=[.v (.int .i64 k)]/\o=[(b,some (bC (s.length+1) (sA t s f i k)))]/\m=t.length - k/\k<=t.length) t.length [(b,some (bC (s.length+1) (sA t s f i 0)))] (aE (Ii _ _ _ _ _).symm) ⟨0,?_,rfl,rfl,?_⟩ ?_
    ·rfl
    ·omega
    rintro m xs o ⟨k,rfl,rfl,rfl,hk⟩
    (refine vX ?_;with_reducible repeat' first|exact Le.l|apply Sw|intro h)
    ·exact ⟨_,[_],_,by omega,⟨k+1,rfl,rfl,rfl,by omega⟩,rfl,aE (JW (by rw [Mt,M4,JX h.1 h.2])).symm⟩
    ·refine ⟨_,[_],_,by omega,⟨i+1,rfl,rfl,rfl,by omega⟩,rfl,aE ?_⟩
     rw [<- Fw (Mu h)];rfl
   ·rw [Fx (by omega)]
    refine AW.ret (aF.imp (Imp.fold 6 (b:=b) (len:=s.length+1) (sz:=1) (cells:=bC (s.length+1) (chE t s f)) (l:=bC (s.length+1) (chE t s f)) gO gO (dE _ _) (by rw [ib,Nat.mul_one,fF]) (eW _ _) ?_))
    refine aF.fin rfl ?_
    simp (maxSteps:=2000000) (disch:=omega) only [go_sem]
  by_cases h2:op=2
  ·subst h2
   rw [jc,if_neg (by decide),if_pos rfl]
   (refine vX ?_;with_reducible repeat' first|exact Le.l|apply Sw|intro h)
   rename_i b g1
   refine AW.imp (Imp.fold 7 (b:=b) (len:=s.length+1) (sz:=1) (cells:=bC (s.length+1) (f)) (l:=bC (s.length+1) (f)) gO gO (dE _ _) (by rw [ib,Nat.mul_one,fF]) (eW _ _) ?_)
   try simp (maxSteps:=2000000) (disch:=omega) only [go_sem]
   refine AW.fact 3 fun hf=>?_
   simp (disch:=omega) only [go_sem,Nat.reduceBEq] at hf
   refine AW.aw [7,10] [1,3] (fun m xs o=>∃ (k:Nat) (a:Nat->Bool),xs=[.sl true 1 (bC (s.length+1) a),.v (.int .i64 k)]/\o=[]/\m=ks.length - k/\k<=ks.length/\nZ s (ks.drop k) a=nZ s ks f) ks.length [] trivial ⟨0,f,?_,rfl,rfl,?_,rfl⟩ ?_
   ·rfl
   ·omega
   rintro m xs o ⟨k,a,rfl,rfl,rfl,hk,hR⟩
   have hqk:=hq k
   have J2:=hq2 k
   (refine vU ?_;with_reducible repeat' first|exact Le.l|apply Sw|intro h)
   ·exact ⟨_,[_,_],[],by omega,⟨k+1,_,rfl,rfl,rfl,by omega,by rw [<- hR,zZ (k:=k) (by assumption)]⟩,rfl,trivial⟩
   ·rw [<- hR,Cf h]
  by_cases h3:op=3
  ·subst h3
   rw [jc,if_neg (by decide),if_neg (by decide),if_pos rfl]
   (refine vX ?_;with_reducible repeat' first|exact Le.l|apply Sw|intro h)
   rename_i b g1 g2
   refine AW.imp (Imp.fold 7 (b:=b) (len:=s.length+1) (sz:=1) (cells:=bC (s.length+1) (fun _=>false)) (l:=bC (s.length+1) (fun _=>false)) gO gO (dE _ _) (by rw [ib,Nat.mul_one,fF]) (eW _ _) ?_)
   try simp (maxSteps:=2000000) (disch:=omega) only [go_sem]
   refine AW.fact 3 fun hf=>?_
   simp (disch:=omega) only [go_sem,Nat.reduceBEq] at hf
   refine AW.aw [7,11] [1,2,3] (fun m xs o=>∃ (k:Nat) (a:Nat->Bool),xs=[.sl true 1 (bC (s.length+1) a),.v (.int .i64 k)]/\o=[]/\m=ks.length - k/\k<=ks.length/\oC s (ks.drop k) f a=oC s ks f (fun _=>false)) ks.length [] trivial ⟨0,_,?_,rfl,rfl,?_,rfl⟩ ?_
   ·rfl
   ·omega
   rintro m xs o ⟨k,a,rfl,rfl,rfl,hk,hR⟩
   have hqk:=hq k
   have J2:=hq2 k
   (refine vU ?_;with_reducible repeat' first|exact Le.l|apply Sw|intro h)
   ·exact ⟨_,[_,_],[],by omega,⟨k+1,_,rfl,rfl,rfl,by omega,by rw [<- hR,Bd (k:=k) (by assumption)]⟩,rfl,trivial⟩
   ·rw [<- hR,DY h]
  have hq0:=hq 0
  have TY:=hq2 0
  by_cases h4:op=4
  ·subst h4
   rw [jc,if_neg (by decide),if_neg (by decide),if_neg (by decide),if_pos (by decide)]
   (refine vX ?_;with_reducible repeat' first|exact Le.l|apply Sw|intro h)
   rename_i b g1 g2 g3 g4
   refine AW.imp (Imp.fold 7 (b:=b) (len:=s.length+1) (sz:=1) (cells:=bC (s.length+1) (f)) (l:=bC (s.length+1) (f)) gO gO (dE _ _) (by rw [ib,Nat.mul_one,fF]) (eW _ _) ?_)
   try simp (maxSteps:=2000000) (disch:=omega) only [go_sem]
   by_cases hk1:ks.length=1
   ·rw [p4 hk1,if_pos rfl]
    refine AW.aw [7] [1,3] (fun m xs o=>∃ a:Nat->Bool,xs=[.sl true 1 (bC (s.length+1) a)]/\o=[]/\iter (s.length+1) (ends s (at_ ks 0)) m a=iter (s.length+1) (ends s (at_ ks 0)) (s.length+1) f/\ni a (s.length+1)<=m) (s.length+1) [] trivial ⟨f,?_,rfl,rfl,zH _ _⟩ ?_
    ·rfl
    rintro m xs o ⟨a,rfl,rfl,hR,hm⟩
    (refine vX ?_;with_reducible repeat' first|exact Le.l|apply Sw|intro h)
    refine AW.imp (Imp.unfold 7 (sz:=1) (l:=bC (s.length+1) a) gO (BK _ _) (eW _ _) fun b1 hb1=>?_)
    refine AW.imp (Imp.unfold 12 (sz:=1) (l:=bC (s.length+1) (orB a (ends s (at_ ks 0) a))) gO (BK _ _) (eW _ _) fun b2 hb2=>?_)
    have hb2:=hb2.nf
    simp (maxSteps:=2000000) (disch:=omega) only [go_sem]
    simp only [go_sem] at hb2
    refine AW.aw [13,14] [1,3,7,12] (fun m xs o=>∃ k:Nat,xs=[.v (.bool (grew k (ends s (at_ ks 0) a) a)),.v (.int .i64 k)]/\o=[(b2,some (bC (s.length+1) (orB a (ends s (at_ ks 0) a)))),(b1,some (bC (s.length+1) a))]/\m=s.length+1 - k/\k<=s.length+1) (s.length+1) [(b2,some (bC (s.length+1) (orB a (ends s (at_ ks 0) a)))),(b1,some (bC (s.length+1) a))] ?_ ⟨0,?_,rfl,?_,?_⟩ ?_
    ·exact fJ (by omega) rfl rfl
    ·rfl
    ·omega
    ·omega
    rintro m2 xs o ⟨k,rfl,rfl,rfl,hk⟩
    refine vO ?_;intros;refine AW.c (fun h=>?_) fun h=>?_
    ·(refine vX ?_;with_reducible repeat' first|exact Le.l|apply Sw|intro h)
     exact ⟨_,[_,_],_,by omega,⟨k+1,rfl,rfl,rfl,by omega⟩,by rw [E2,qn];rfl,fJ (by omega) rfl rfl⟩
    ·refine AW.imp (Imp.fold 12 (b:=b2) (len:=s.length+1) (sz:=1) (cells:=bC (s.length+1) (orB a (ends s (at_ ks 0) a))) (l:=bC (s.length+1) (orB a (ends s (at_ ks 0) a))) gO gO (dE _ _) (by rw [ib,Nat.mul_one,fF]) (eW _ _) ?_)
     try simp (maxSteps:=2000000) (disch:=omega) only [go_sem]
     (refine vU ?_;with_reducible repeat' first|exact Le.l|apply Sw|intro h)
     ·obtain rfl:k=s.length+1:=by omega
      have h':=h.resolve_right (by decide)
      rw [<- hR,CV h',jm (Ff h')]
     ·obtain rfl:k=s.length+1:=by omega
      obtain ⟨j,rfl,e1,e2⟩:=AA h.1 hm
      exact ⟨j,[_],[],by omega,⟨_,rfl,rfl,by rw [<- e1];exact hR,e2⟩,rfl,trivial⟩
   ·rw [rP hk1]
    refine AW.aw [7] [1,3] (fun m xs o=>xs=[.sl true 1 (bC (s.length+1) f)]/\o=[]) 0 [] trivial ⟨?_,rfl⟩ ?_
    ·rfl
    rintro m xs o ⟨rfl,rfl⟩
    all_goals exact uU
  by_cases h5:op=5
  ·subst h5
   rw [jc,if_neg (by decide),if_neg (by decide),if_neg (by decide),if_pos (by decide)]
   (refine vX ?_;with_reducible repeat' first|exact Le.l|apply Sw|intro h)
   rename_i b g1 g2 g3 g4
   refine AW.imp (Imp.fold 7 (b:=b) (len:=s.length+1) (sz:=1) (cells:=bC (s.length+1) (f)) (l:=bC (s.length+1) (f)) gO gO (dE _ _) (by rw [ib,Nat.mul_one,fF]) (eW _ _) ?_)
   try simp (maxSteps:=2000000) (disch:=omega) only [go_sem]
   by_cases hk1:ks.length=1
   ·rw [p4 hk1,if_neg (by decide)]
    refine AW.aw [7] [1,3] (fun m xs o=>∃ a:Nat->Bool,xs=[.sl true 1 (bC (s.length+1) a)]/\o=[]/\a=f) (0) [] trivial ⟨f,?_,rfl,rfl⟩ ?_
    ·rfl
    rintro m xs o ⟨a,rfl,rfl,rfl⟩
    (refine vX ?_;with_reducible repeat' first|exact Le.l|apply Sw|intro h)
    refine AW.imp (Imp.unfold 7 (sz:=1) (l:=bC (s.length+1) a) gO (BK _ _) (eW _ _) fun b1 hb1=>?_)
    refine AW.imp (Imp.unfold 12 (sz:=1) (l:=bC (s.length+1) (orB a (ends s (at_ ks 0) a))) gO (BK _ _) (eW _ _) fun b2 hb2=>?_)
    have hb2:=hb2.nf
    simp (maxSteps:=2000000) (disch:=omega) only [go_sem]
    simp only [go_sem] at hb2
    refine AW.aw [13,14] [1,3,7,12] (fun m xs o=>∃ k:Nat,xs=[.v (.bool (grew k (ends s (at_ ks 0) a) a)),.v (.int .i64 k)]/\o=[(b2,some (bC (s.length+1) (orB a (ends s (at_ ks 0) a)))),(b1,some (bC (s.length+1) a))]/\m=s.length+1 - k/\k<=s.length+1) (s.length+1) [(b2,some (bC (s.length+1) (orB a (ends s (at_ ks 0) a)))),(b1,some (bC (s.length+1) a))] ?_ ⟨0,?_,rfl,?_,?_⟩ ?_
    ·exact fJ (by omega) rfl rfl
    ·rfl
    ·omega
    ·omega
    rintro m2 xs o ⟨k,rfl,rfl,rfl,hk⟩
    refine vO ?_;intros;refine AW.c (fun h=>?_) fun h=>?_
    ·(refine vX ?_;with_reducible repeat' first|exact Le.l|apply Sw|intro h)
     exact ⟨_,[_,_],_,by omega,⟨k+1,rfl,rfl,rfl,by omega⟩,by rw [E2,qn];rfl,fJ (by omega) rfl rfl⟩
    ·refine AW.imp (Imp.fold 12 (b:=b2) (len:=s.length+1) (sz:=1) (cells:=bC (s.length+1) (orB a (ends s (at_ ks 0) a))) (l:=bC (s.length+1) (orB a (ends s (at_ ks 0) a))) gO gO (dE _ _) (by rw [ib,Nat.mul_one,fF]) (eW _ _) ?_)
     try simp (maxSteps:=2000000) (disch:=omega) only [go_sem]
     all_goals exact uU
   ·rw [rP hk1]
    refine AW.aw [7] [1,3] (fun m xs o=>xs=[.sl true 1 (bC (s.length+1) f)]/\o=[]) 0 [] trivial ⟨?_,rfl⟩ ?_
    ·rfl
    rintro m xs o ⟨rfl,rfl⟩
    all_goals exact uU
  rw [jc,if_neg h1,if_neg h2,if_neg h3,if_neg (by omega)]
  (refine vX ?_;with_reducible repeat' first|exact Le.l|apply Sw|intro h)
  rename_i b g1 g2 g3 g4
  refine AW.ret (aF.imp (Imp.fold 6 (b:=b) (len:=s.length+1) (sz:=1) (cells:=bC (s.length+1) (fun _=>false)) (l:=bC (s.length+1) (fun _=>false)) gO gO (dE _ _) (by rw [ib,Nat.mul_one,fF]) (eW _ _) ?_))
  refine aF.fin rfl ?_
  simp (maxSteps:=2000000) (disch:=omega) only [go_sem]
theorem HC(op:Int)(t:Str)(ks:List bg)(s:Str)(f:Nat->Bool):Ctr lim Tryz.prog 287 [] [.agg [.v (.int .i64 op),.str t,.sl false 3 (ks.map bF)],.str s,.sl false 1 (bC (s.length+1) f)] (.sl true 1 (bC (s.length+1) (ends s (.mk op t ks) f))) [] (s.length<=1048576):=⟨(aW 287),fun h=>(Ae (mG ks+1) op t ks s f).out ⟨by omega,h⟩⟩
theorem JP(op:Int)(t:Str)(ks:List bg)(s:Str)(f:Nat->Bool):Ctr lim Tryz.prog 273 [] [.agg [.v (.int .i64 op),.str t,.sl false 3 (ks.map bF)],.str s,.sl false 1 (bC (s.length+1) f)] (.sl true 1 (bC (s.length+1) (ends s (.mk op t ks) f))) [] (s.length<=1048576):=⟨(aW 273),fun h=>(CT (mG ks+1) op t ks s f).out ⟨by omega,h⟩⟩
end
end Go.Proofs
namespace Go.Dt
open Go.Ab
def F8(p s:Str):Bool:=(eC p).2 && JC (eC p).1 s
end Go.Dt
namespace Go.Proofs
open Go.Ab Go.Dt
attribute [local go_sem] bg.eta
instance Tm(op:Int)(t:Str)(ks:List bg)(s:Str)(f:Nat->Bool):zP lim Tryz.prog 287 [.agg [.v (.int .i64 op),.str t,.sl false 3 (ks.map bF)],.str s,.sl false 1 (bC (s.length+1) f)] (.sl false 1 (bC (s.length+1) (ends s (.mk op t ks) f))) (s.length<=1048576) :=
 ⟨(aW 287),fun h=>by
  have:=((HC op t ks s f).pure h).frz
  simpa only [AV.frz,IX,cond_true] using this⟩
instance Vs(op:Int)(t:Str)(ks:List bg)(s:Str)(f:Nat->Bool):zP lim Tryz.prog 273 [.agg [.v (.int .i64 op),.str t,.sl false 3 (ks.map bF)],.str s,.sl false 1 (bC (s.length+1) f)] (.sl false 1 (bC (s.length+1) (ends s (.mk op t ks) f))) (s.length<=1048576) :=
 ⟨(aW 273),fun h=>by
  have:=((JP op t ks s f).pure h).frz
  simpa only [AV.frz,IX,cond_true] using this⟩
instance KU(x:bg)(s:Str):Ctr lim Tryz.prog 247 [] [.agg [.v (.int .i64 x.fOp),.str x.bW,.sl false 3 (x.ag.map bF)],.str s] (.v (.bool (JC x s))) [] (s.length<=1048576):=by
 refine Ctr.bd Tryz.func247 Tryz.ntmps247 rfl rfl fun hp=>?_
 (refine vN ?_;with_reducible repeat' first|exact Le.l|apply Sw|intro (K:_->_->Prop) hK|intro h)
 refine Z ?_
 (refine vN ?_;with_reducible repeat' first|exact Le.l|apply Sw|intro (K:_->_->Prop) hK|intro h)
 refine Z ?_
 (refine vN ?_;with_reducible repeat' first|exact Le.l|apply Sw|intro (K:_->_->Prop) hK|intro h)
 refine Z ?_
 (refine vN ?_;with_reducible repeat' first|exact Le.l|apply Sw|intro (K:_->_->Prop) hK|intro h)
 refine AW.imp (Imp.fold 5 (b:=h) (len:=s.length+1) (sz:=1) (cells:=bC (s.length+1) (fun c=>if c=0 then true else false)) (l:=bC (s.length+1) (fun c=>if c=0 then true else false)) gO gO (dE _ _) (by rw [ib,Nat.mul_one,fF]) (eW _ _) ?_)
 try simp (maxSteps:=2000000) (disch:=omega) only [go_sem]
 (refine vU ?_;with_reducible repeat' first|exact Le.l|apply Sw|intro (K:_->_->Prop) hK|intro h)
 rfl
instance KN(x:bg)(s:Str):Ctr lim Tryz.prog 230 [] [.agg [.v (.int .i64 x.fOp),.str x.bW,.sl false 3 (x.ag.map bF)],.str s] (.v (.bool (JC x s))) [] (s.length<=1048576):=by
 refine Ctr.bd Tryz.func230 Tryz.ntmps230 rfl rfl fun hp=>?_
 (refine vN ?_;with_reducible repeat' first|exact Le.l|apply Sw|intro (K:_->_->Prop) hK|intro h)
 refine Z ?_
 (refine vN ?_;with_reducible repeat' first|exact Le.l|apply Sw|intro (K:_->_->Prop) hK|intro h)
 refine Z ?_
 (refine vN ?_;with_reducible repeat' first|exact Le.l|apply Sw|intro (K:_->_->Prop) hK|intro h)
 refine Z ?_
 (refine vN ?_;with_reducible repeat' first|exact Le.l|apply Sw|intro (K:_->_->Prop) hK|intro h)
 refine AW.imp (Imp.fold 5 (b:=h) (len:=s.length+1) (sz:=1) (cells:=bC (s.length+1) (fun c=>if c=0 then true else false)) (l:=bC (s.length+1) (fun c=>if c=0 then true else false)) gO gO (dE _ _) (by rw [ib,Nat.mul_one,fF]) (eW _ _) ?_)
 try simp (maxSteps:=2000000) (disch:=omega) only [go_sem]
 (refine vU ?_;with_reducible repeat' first|exact Le.l|apply Sw|intro (K:_->_->Prop) hK|intro h)
 rfl
instance OM(p s:Str):Ctr lim Tryz.prog 191 [] [.str p,.str s] (.v (.bool (F8 p s))) [] (s.length<=1048576):=by
 refine Ctr.bd Tryz.func191 Tryz.ntmps191 rfl rfl fun hp=>?_
 (refine vU ?_;with_reducible repeat' first|exact Le.l|apply Sw|intro (K:_->_->Prop) hK|intro h)
 rfl
instance NN(p s:Str):Ctr lim Tryz.prog 172 [] [.str p,.str s] (.v (.bool (F8 p s))) [] (s.length<=1048576):=by
 refine Ctr.bd Tryz.func172 Tryz.ntmps172 rfl rfl fun hp=>?_
 (refine vU ?_;with_reducible repeat' first|exact Le.l|apply Sw|intro (K:_->_->Prop) hK|intro h)
 rfl
end Go.Proofs
namespace Go.Dt
open Go.Ab
def rL:Str:=[116,114,117,101]
def pI:Str:=[102,97,108,115,101]
def qx(s:Str):Str:=if s=[49] then rL else if s=[48] then pI else s
def cvO(mt:Str->Str->Bool)(x:cL)(s:Str):Bool :=
 if x.ai=1 then jC s && ug x.av (gR s)
 else if x.ai=2 then isText s && ug x.av s.length && (decide (x.aN=[]) || mt x.aN s)
 else if x.ai=3 then qx s == rL || qx s == pI
 else if x.ai=4 then cont x.ay s
 else if x.ai=5 then !decide (s=[]) && isText s
 else if x.ai=6 then decide (s=[]) else false
def cvT(x:cL)(s:Str):Str:=if x.ai=1 then Lib.itoa (gR s) else if x.ai=3 then qx s else s
end Go.Dt
