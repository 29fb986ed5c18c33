/- A part. -/
import Derived.Test.YtmcjbaafmjlblaaGreatDoorJ40
set_option linter.all false
namespace Go.Dt
open Go.Ab
section
def aV(x:bV)(k:Int):bV×Int:=(⟨k,k+1,(mkL cf x.dG (k+1+1)).1⟩,(mkL cf x.dG (k+1+1)).2)
theorem dJ(x:bV)(k:Int):k+1<=(aV x k).2:=by
 have g0:=bG eT x.dG (k+1+1)
 unfold aV;simp only;omega
def j1(x:bu)(k:Int):bu×Int:=(⟨(mkL aT x.aQ k).1,(mkL aV x.aF ((mkL aT x.aQ k).2)).1⟩,(mkL aV x.aF ((mkL aT x.aQ k).2)).2)
theorem uh(x:bu)(k:Int):k<=(j1 x k).2:=by
 have g0:=bG dO x.aQ k
 have g1:=bG dJ x.aF ((mkL aT x.aQ k).2)
 unfold j1;simp only;omega
end
section
theorem Dq(x:bV)(k r:Int)(h0:0<=r)(h:0<=fo x r):(aV x k).2<=k+32+32 * (r - fo x r):=by
 simp only [aV]
 unfold fo at h ⊢
 obtain ⟨a0,h⟩:=aX h
 rw [cE a0]
 have q0:=fJ fT sI x.dG (k+1+1) r h0 a0
 simp only [id]
 omega
theorem mc(x:bu)(k r:Int)(h0:0<=r)(h:0<=cW x r):(j1 x k).2<=k+32 * (r - cW x r):=by
 simp only [j1]
 unfold cW at h ⊢
 obtain ⟨a0,h⟩:=aX h
 rw [cE a0]
 have q0:=fJ dC pj x.aQ k r h0 a0
 obtain ⟨a1,h⟩:=aX h
 rw [cE a1]
 have q1:=fJ jJ Dq x.aF ((mkL aT x.aQ k).2) (aG bM x.aQ r) a0 a1
 simp only [id]
 omega
end
end Go.Dt
namespace Go.Dt
open Go Go.Ab
def gR(l:List bV):List (List au):=l.map bV.dG
def eE(s:List ag)(j:bu):List ah:=if ¬ (j.aF.length<=30/\bp s j.aQ=true) then [] else (eu s j.aQ (gR j.aF)).1
def fq(s:List ag)(j:bu):Bool:=decide (j.aF.length<=30) && bp s j.aQ && (eu s j.aQ (gR j.aF)).2
theorem Hj{l:List bV}{k:Nat}(h:k<l.length):at_ (gR l) k=(at_ l k).dG:=by
 unfold gR at_
 rw [List.getElem?_map,List.getElem?_eq_getElem h];rfl
theorem tw(l:List bV):(gR l).length=l.length:=by unfold gR;rw [List.length_map]
theorem JG{s:List ag}:∀ (es:List (List au)) (l:List ah),(eu s l es).2=false->(eu s l es).1=[]
 | [],l,h=>by rw [eu] at h;simp at h
 | e::es,l,h=>by
  rw [eu] at h ⊢
  split at h
  ·rename_i c
   rw [if_pos c]
  ·rename_i c
   rw [if_neg c]
   exact JG es _ h
def mxN:List ah->Nat
 | []=>0
 | .mk n v ks::xs=>max (max n.length v.length) (max (mxN ks) (mxN xs))
theorem zm:∀ l:List ah,mxN l<=wt l
 | []=>by rw [mxN];omega
 | .mk n v ks::xs=>by
  have:=zm ks;have:=zm xs
  rw [mxN,F5];simp only [ah.ae,ah.av,ah.af];omega
theorem wk:∀ (a b:List au),mxE (a++b)=max (mxE a) (mxE b)
 | [],b=>by rw [List.nil_append,iz];omega
 | x::a,b=>by rw [List.cons_append,j7,j7,wk a b];omega
theorem xR{α:Type}{f:α->List au}{c:Nat}:∀ {l:List α},(∀ x∈l,mxE (f x)<=c)->mxE (l.flatMap f)<=c
 | [],_=>by simp [iz]
 | x::xs,h=>by
  rw [List.flatMap_cons,wk]
  have:=h x (by simp);have:=xR (f:=f) (l:=xs) fun y hy=>h y (by simp [hy]);omega
theorem Au(op:Int):∀ l:List ah,mxE (edO op l)=mxN l
 | []=>by rw [edO,iz,mxN]
 | .mk n v ks::xs=>by rw [edO,j7,mxN,Au op xs];simp only [au.ae,au.av,au.af];rw [Au op ks]
theorem wj{l:List ah}{x:ah}(h:x∈l):x.ae.length<=mxN l/\x.av.length<=mxN l/\mxN x.af<=mxN l:=by
 induction l with
 | nil=>simp at h
 | cons y l ih =>
  cases y with
  | mk n v ks =>
   rw [mxN]
   rcases List.mem_cons.1 h with rfl|h
   ·simp only [ah.ae,ah.av,ah.af];omega
   ·have:=ih h;omega
theorem L6{l:List au}{c:Nat}(h:∀ x∈l,x.ae.length<=c/\x.av.length<=c/\x.af=[]):mxE l<=c:=by
 induction l with
 | nil=>rw [iz];omega
 | cons x xs ih =>
  have h1:=h x (by simp)
  have:=ih fun y hy=>h y (by simp [hy])
  rw [j7,h1.2.2,iz];omega
theorem GI{n:ag}{x:ah}(h:kyB n x=true):mxE (kyE n x)<=mxN x.af:=by
 refine L6 fun y hy=>?_
 rw [kyE] at hy
 split at hy
 ·rename_i h2
  obtain ⟨k,hk,rfl⟩:=List.mem_map.1 hy
  simp only [kyB,h2,decide_true,Bool.not_true,Bool.false_or,List.all_eq_true,decide_eq_true_eq] at h
  obtain ⟨_,p,m⟩:=fK (h k hk)
  simp only [ndP,beq_iff_eq] at p
  have:=wj m
  simp only [au.ae,au.av,au.af,kyT]
  rw [p] at this
  exact ⟨this.1,this.2.1,trivial⟩
 ·simp at hy
theorem K6:∀ (n A:Nat) (s:List ag) (a b:List ah),SizeOf.sizeOf b<n->(∀ x∈a,okX (dk s) x)->(∀ y∈b,okX (dk s) y)->mxN a<=A->mxN b<=A->mxE (dif s a b)<=A
 | 0,_,_,_,_,h,_,_,_,_=>absurd h (Nat.not_lt_zero _)
 | n+1,A,s,a,b,hn,ha,hb,hA,hB=>by
  rw [vC,wk]
  have h1:mxE (a.flatMap (dfA s b))<=A:=xR fun x hx=>by
   have hc:mxE (kyE (nd s x.ae) x)<=mxN x.af:=GI (kE (ha x hx).2)
   have hm:=wj hx
   unfold dfA
   split
   ·rw [iz];omega
   ·rw [j7,iz]
    simp only [au.af,au.ae,au.av]
    split
    ·omega
    ·simp only [List.length_nil];omega
  have h2:mxE (b.flatMap (dfY s a))<=A:=xR fun y hy=>by
   have hoy:=hb y hy
   have hc:mxE (kyE (nd s y.ae) y)<=mxN y.af:=GI (kE hoy.2)
   have hm:=wj hy
   unfold dfY
   split
   ·rw [j7,iz]
    simp only [au.af,Au,au.ae,au.av]
    omega
   ·rename_i hf
    split
    ·rw [j7,iz]
     simp only [au.af,au.ae,au.av,iz]
     omega
    ·split
     ·rename_i h3
      obtain ⟨e1,e2,e3⟩:=zG (s:=s) (a:=a) (y:=y) (by omega) hoy
      have hnd:nd s (at_ a (fnd (nd s y.ae) a y).toNat).ae=nd s y.ae:=by rw [nd,e2]
      have oW:=ot (ha _ e3) (by rw [hnd];omega)
      rw [hnd] at oW
      have hma:=wj e3
      have ih:=K6 n A (nd s y.ae).af (at_ a (fnd (nd s y.ae) a y).toNat).af y.af (by have:=Ha hy;omega) oW (ot hoy (by omega)) (by omega) (by omega)
      rw [j7,iz]
      simp only [au.af,au.ae,au.av,wk,List.length_nil]
      omega
     ·rw [iz];omega
  omega
theorem Hr{s:List ag}{a b:List ah}(ha:wt a<=1048576)(hb:wt b<=1048576):wtE (ko s a b)<=1048576:=by
 have h1:=E2 s a b
 rw [rH] at h1
 unfold wtE
 have h2:mxE (ko s a b)<=1048576:=by
  rw [ko]
  split
  ·rename_i h
   simp only [Bool.and_eq_true] at h
   have h1:=h.1
   have h2:=h.2
   simp only [bp,Bool.and_eq_true,decide_eq_true_eq] at h1 h2
   have:=zm a;have:=zm b
   exact K6 _ _ s a b (Nat.lt_succ_self _) (lI h1.2) (lI h2.2) (by omega) (by omega)
  ·rw [iz];omega
 omega
end Go.Dt
