/- Part of a proof. -/
import Derived.Test.YtpelkkfkecfmbaaGreatDoorH6
set_option linter.all false
namespace Go.Dt
open Go Go.Ab
structure bt where
 k:Int
 t:Str
 a:Nat
instance:Inhabited bt:=⟨⟨0,[],0⟩⟩
def nmT(s:Str):Nat->Nat
 | 0=>0
 | n+1=>if at8 s n=45 then nmT s n else n+1
def nmN(s:Str):Nat:=nmT s (1+((s.drop 1).takeWhile nmU).length)
def dgU(c:UInt8):Bool:=gG c.toNat
def dgN(s:Str):Nat:=1+((s.drop 1).takeWhile dgU).length
def qGo:Str->Option (Nat×Str)
 | []=>none
 | c::r =>
  if c=34 then some (1,[])
  else if c=92 then
   match r with
   | []=>none
   | d::q=>if d=34\/d=92 then (qGo q).map fun p=>(p.1+2,d::p.2) else none
  else (qGo r).map fun p=>(p.1+1,c::p.2)
def jF:Str->Option (Nat×Str)
 | []=>none
 | c::r=>if c=34 then (qGo r).map fun p=>(p.1+1,p.2) else none
def mk2:List Str:=[[33,61],[60,61],[62,61],[46,46]]
def mk1:Str:=[123,125,59,91,93,40,41,60,62,61,43,45,47,124,46,44,36,58]
def dJ(s:Str):Int×Str×Nat :=
 if ltI (at8 s 0)=true then (1,s.take (nmN s),nmN s)
 else if gG (at8 s 0)=true then (2,s.take (dgN s),dgN s)
 else if at8 s 0=34 then (match jF s with|some p=>(3,p.2,p.1)|none=>(3,[],0))
 else if mk2.contains (s.take 2)=true then (4,s.take 2,2)
 else if mk1.contains (at_ s 0)=true then (4,s.take 1,1)
 else (0,[],0)
def cmE(s:Str):Nat:=(s.takeWhile (fun c=>c != 10)).length
def tU{s:Str}{i:Nat}(h:i<s.length)(e:at8 s i=35):1<=cmE (s.drop i):=by
 have:(fun c:UInt8=>c != 10) (at_ s i)=true:=by
  rw [gZ] at e;simp only [bne_iff_ne,ne_eq];intro e2;rw [e2] at e;exact absurd e baa
 rw [cmE,bq h,List.takeWhile_cons_of_pos (p:=fun c=>c != 10) this,List.length_cons];omega
def gr(s:Str)(i:Nat):List bt×Int :=
 if h:i<s.length then
  if at8 s i=32\/at8 s i=10 then gr s (i+1)
  else if h35:at8 s i=35 then gr s (i+cmE (s.drop i))
  else if h0:(dJ (s.drop i)).2.2=0 then ([],(i:Int))
  else if (gr s (i+(dJ (s.drop i)).2.2)).2 = -1 then (⟨(dJ (s.drop i)).1,(dJ (s.drop i)).2.1,i⟩::(gr s (i+(dJ (s.drop i)).2.2)).1,-1)
  else ([],(gr s (i+(dJ (s.drop i)).2.2)).2)
 else ([],-1)
termination_by s.length - i
decreasing_by
 ·omega
 ·have:=tU h h35;omega
 ·omega
def eI(s:Str):List bt×Int:=gr s 0
def FD:∀ (n:Nat) (s:Str),s.length<=n->∀ p,qGo s=some p->p.1<=s.length/\p.2.length<=s.length
 | 0,s,h,p,e=>by
  have:s=[]:=List.eq_nil_of_length_eq_zero Ir;subst this;simp [qGo] at e
 | n+1,s,h,p,e=>by
  cases s with
  | nil=>simp [qGo] at e
  | cons c r =>
   rw [qGo.eq_def] at e;simp only at e;split at e
   ·cases e;simp
   ·split at e
    ·cases r with
     | nil=>simp at e
     | cons d q =>
      simp only at e;split at e
      ·simp only [Option.map_eq_some_iff] at e;obtain ⟨p',h1,rfl⟩:=e;have:=FD n q (by simp at h;omega) p' h1;simp only [List.length_cons] at *;omega
      ·cases e
    ·simp only [Option.map_eq_some_iff] at e;obtain ⟨p',h1,rfl⟩:=e;have:=FD n r (by simp at h;omega) p' h1;simp only [List.length_cons] at *;omega
def za:∀ (n:Nat) (s:Str),s.length<=n->∀ p,qGo s=some p->qGo (s.take p.1)=some p
 | 0,s,h,p,e=>by
  have:s=[]:=List.eq_nil_of_length_eq_zero Ir;subst this;simp [qGo] at e
 | n+1,s,h,p,e=>by
  cases s with
  | nil=>simp [qGo] at e
  | cons c r =>
   rw [qGo.eq_def] at e;simp only at e;split at e
   ·rename_i hc;cases e;simp [qGo,hc]
   ·rename_i hc;split at e
    ·rename_i hc2
     cases r with
     | nil=>simp at e
     | cons d q =>
      simp only at e;split at e
      ·rename_i hd;simp only [Option.map_eq_some_iff] at e;obtain ⟨p',h1,rfl⟩:=e;have:=za n q (by simp at h;omega) p' h1;rw [List.take_succ_cons,List.take_succ_cons,qGo.eq_def];simp only [if_neg hc,if_pos hc2,if_pos hd,this,Option.map_some]
      ·cases e
    ·rename_i hc2;simp only [Option.map_eq_some_iff] at e;obtain ⟨p',h1,rfl⟩:=e;have:=za n r (by simp at h;omega) p' h1;rw [List.take_succ_cons,qGo.eq_def];simp only [if_neg hc,if_neg hc2,this,Option.map_some]
def xI{s:Str}{p:Nat×Str}(e:jF s=some p):2<=p.1/\p.1<=s.length/\p.2.length<=s.length:=by
 cases s with
 | nil=>simp [jF] at e
 | cons c r =>
  rw [jF] at e;split at e
  ·simp only [Option.map_eq_some_iff] at e;obtain ⟨p',h1,rfl⟩:=e;have:=FD r.length r (Nat.le_refl _) p' h1
   have h0:1<=p'.1:=by
    cases r with
    | nil=>simp [qGo] at h1
    | cons d q =>
     rw [qGo.eq_def] at h1;simp only at h1;split at h1
     ·cases h1;simp
     ·split at h1
      ·cases q with
       | nil=>simp at h1
       | cons d q =>
        simp only at h1;split at h1
        ·simp only [Option.map_eq_some_iff] at h1;obtain ⟨p',h1,rfl⟩:=h1;simp
        ·cases h1
      ·simp only [Option.map_eq_some_iff] at h1;obtain ⟨p',h1,rfl⟩:=h1;simp
   simp only [List.length_cons];omega
  ·cases e
def Mx{s:Str}{p:Nat×Str}(e:jF s=some p):jF (s.take p.1)=some p:=by
 cases s with
 | nil=>simp [jF] at e
 | cons c r =>
  rw [jF] at e;split at e
  ·rename_i hc;simp only [Option.map_eq_some_iff] at e;obtain ⟨p',h1,rfl⟩:=e;rw [List.take_succ_cons,jF,if_pos hc,za r.length r (Nat.le_refl _) p' h1];rfl
  ·cases e
end Go.Dt
