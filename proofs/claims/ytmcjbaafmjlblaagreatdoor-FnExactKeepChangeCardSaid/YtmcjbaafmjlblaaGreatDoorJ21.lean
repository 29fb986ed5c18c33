/- A part. -/
import Derived.Test.YtmcjbaafmjlblaaGreatDoorJ20
set_option linter.all false
namespace Go.Dt
open Go Go.Ab
section
def cY:List au->Nat
 | []=>0
 | .mk _ _ _ ks::xs=>1+cY ks+cY xs
theorem gN(x:au)(l:List au):cY (x::l)=1+cY x.af+cY l:=by cases x;rw [cY];rfl
theorem fR:cY []=0:=by rw [cY]
theorem qk:∀ (a b:List au),cY (a++b)=cY a+cY b
 | [],b=>by rw [List.nil_append,fR];omega
 | x::a,b=>by rw [List.cons_append,gN,gN,qk a b];omega
theorem yG(op:Int):∀ l:List ah,cY (edO op l)=cnt l
 | []=>by rw [edO,fR,lT]
 | .mk n v ks::xs=>by rw [edO,cY,gY,yG op ks,yG op xs];rfl
theorem Lb{l:List au}(h:∀ x∈l,x.af=[]):cY l=l.length:=by
 induction l with
 | nil=>rw [fR];rfl
 | cons x xs ih=>rw [gN,h x (by simp),fR,ih fun y hy=>h y (by simp [hy]),List.length_cons];omega
theorem Fc{n:ag}{x:ah}(h:n.aw.length<=3):cY (kyE n x)<=3:=by
 rw [Lb]
 ·exact El h
 ·intro y hy
  rw [kyE] at hy
  split at hy
  ·obtain ⟨k,_,rfl⟩:=List.mem_map.1 hy;rfl
  ·simp at hy
theorem Ci{α:Type}{f:α->List au}{c:Nat}:∀ {l:List α},(∀ x∈l,cY (f x)<=c)->cY (l.flatMap f)<=c * l.length
 | [],_=>by simp [fR]
 | x::xs,h=>by
  rw [List.flatMap_cons,qk,List.length_cons,Nat.mul_add]
  have:=h x (by simp);have:=Ci (f:=f) (l:=xs) fun y hy=>h y (by simp [hy]);omega
theorem zQ{f:ah->List au}{c:Nat}:∀ {l:List ah},(∀ x∈l,cY (f x)<=c * (1+cnt x.af))->cY (l.flatMap f)<=c * cnt l
 | [],_=>by simp [fR]
 | x::xs,h=>by
  rw [List.flatMap_cons,qk,gY]
  have h1:=h x (by simp)
  have h2:=zQ (f:=f) (l:=xs) fun y hy=>h y (by simp [hy])
  have:c * (1+cnt x.af+cnt xs)=c * (1+cnt x.af)+c * cnt xs:=Nat.mul_add _ _ _
  omega
theorem Bl{l:List ah}{x:ah}(h:x∈l):cnt x.af<=cnt l:=by
 induction l with
 | nil=>simp at h
 | cons y l ih =>
  rw [gY]
  rcases List.mem_cons.1 h with rfl|h
  ·omega
  ·have:=ih h;omega
theorem Ha{l:List ah}{x:ah}(h:x∈l):SizeOf.sizeOf x.af<SizeOf.sizeOf l:=by
 have:=List.sizeOf_lt_of_mem h
 cases x;simp [ah.af] at *;omega
theorem Pq(l:List ah):l.length<=cnt l:=by unfold cnt;omega
theorem Hq:∀ (n A:Nat) (s:List ag) (a b:List ah),SizeOf.sizeOf b<n->gdS s->(∀ x∈a,okX (dk s) x)->(∀ y∈b,okX (dk s) y)->cnt a<=A->cY (dif s a b)<=4 * A+(4+4 * A) * cnt b
 | 0,_,_,_,_,h,_,_,_,_=>absurd h (Nat.not_lt_zero _)
 | n+1,A,s,a,b,hn,hg,ha,hb,hA=>by
  rw [vC,qk]
  have h1:cY (a.flatMap (dfA s b))<=4 * a.length:=Ci fun x hx=>by
   have hk:=mN hg (iv (ha x hx)).2
   have hc:cY (kyE (nd s x.ae) x)<=3:=Fc hk
   unfold dfA
   split
   ·rw [fR];omega
   ·rw [gN,fR]
    simp only [au.af]
    omega
  have h2:cY (b.flatMap (dfY s a))<=(4+4 * A) * cnt b:=zQ fun y hy=>by
   have hoy:=hb y hy
   have hk:=mN hg (iv hoy).2
   have hc:cY (kyE (nd s y.ae) y)<=3:=Fc hk
   have hm:(4+4 * A) * (1+cnt y.af)=4+4 * A+(4+4 * A) * cnt y.af:=by rw [Nat.mul_add,Nat.mul_one]
   have hz:cnt y.af<=(4+4 * A) * cnt y.af:=Nat.le_mul_of_pos_left _ (by omega)
   rw [hm]
   unfold dfY
   split
   ·rw [gN,fR]
    simp only [au.af,yG]
    omega
   ·rename_i hf
    split
    ·rw [gN,fR]
     simp only [au.af,fR]
     omega
    ·split
     ·rename_i h3
      obtain ⟨e1,e2,e3⟩:=zG (s:=s) (a:=a) (y:=y) (by omega) hoy
      have hnd:nd s (at_ a (fnd (nd s y.ae) a y).toNat).ae=nd s y.ae:=by rw [nd,e2]
      have oW:=ot (ha _ e3) (by rw [hnd];omega)
      rw [hnd] at oW
      have ih:=Hq n A (nd s y.ae).af (at_ a (fnd (nd s y.ae) a y).toNat).af y.af (by have:=Ha hy;omega) (kz hg (iv hoy).2).1 oW (ot hoy (by omega)) (by have:=Bl e3;omega)
      rw [gN,fR]
      simp only [au.af,qk]
      omega
     ·rw [fR];omega
  have:=Pq a
  omega
mutual
theorem OI:∀ (x:au) (k:Int),(cf x k).2=k+3 * (1+cY x.af:Nat)
 | .mk o n v ks,k=>by simp only [cf,au.af];rw [xG ks];omega
theorem xG:∀ (l:List au) (k:Int),(iV l k).2=k+3 * (cY l:Nat)
 | [],k=>by simp [iV,cY]
 | x::xs,k=>by simp only [iV];rw [xG xs,OI x,gN];omega
end
theorem rH(l:List au)(k:Int):(mkL cf l k).2=k+3 * (cY l:Nat):=by rw [<- sH,xG]
def ko(s:List ag)(a b:List ah):List au:=if (bp s a && bp s b)=true then dif s a b else []
theorem E2(s:List ag)(a b:List ah):(mkL cf (ko s a b) 1).2<=1048576:=by
 rw [rH,ko]
 split
 ·rename_i h
  simp only [Bool.and_eq_true] at h
  have h1:=h.1
  have h2:=h.2
  have hg:=pK (s:=s) (by simp only [bp,Bool.and_eq_true] at h1;exact h1.1.1)
  simp only [bp,Bool.and_eq_true,decide_eq_true_eq] at h1 h2
  have:=Hq _ 120 s a b (Nat.lt_succ_self _) hg (lI h1.2) (lI h2.2) h1.1.2
  have hb:=h2.1.2
  have:(4+4 * 120) * cnt b<=(4+4 * 120) * 120:=Nat.mul_le_mul_left _ hb
  omega
 ·rw [fR];omega
end
section
def j6(all:List ag)(i:Nat)(m:Nat):List Str:=(List.range m).flatMap fun j=>if j=i then [] else nmS (dk (at_ all j).af)
mutual
def oth:List ag->Str->Option (List Str)
 | [],_=>none
 | .mk k a _ _ _ _ _ _ _ _ _ _ _ _ ks::xs,nm =>
  if di k=true/\a=nm then some []
  else if k=5 then (match jK ks 0 ks nm with|some o=>some o|none=>oth xs nm)
  else oth xs nm
def jK:List ag->Nat->List ag->Str->Option (List Str)
 | _,_,[],_=>none
 | all,i,.mk _ _ _ _ _ _ _ _ _ _ _ _ _ _ ks::xs,nm =>
  match oth ks nm with
  | some o=>some (o++j6 all i all.length)
  | none=>jK all (i+1) xs nm
end
theorem xL(x:ag)(xs:List ag)(nm:Str):oth (x::xs) nm=if di x.ai=true/\x.ae=nm then some [] else if x.ai=5 then (match jK x.af 0 x.af nm with|some o=>some o|none=>oth xs nm) else oth xs nm:=by cases x;rw [oth];rfl
theorem BM(all:List ag)(i:Nat)(x:ag)(xs:List ag)(nm:Str):jK all i (x::xs) nm=match oth x.af nm with|some o=>some (o++j6 all i all.length)|none=>jK all (i+1) xs nm:=by cases x;rw [jK];rfl
def iq(s:List ag)(nm:Str):List Str:=(oth s nm).getD []
def wo(s:List ag)(nm:Str)(l:List ah):List ah:=l.filter fun y=>!cont (iq s nm) y.ae
def stP(d:List ag)(x y:ah):Bool:=decide (idx (nmP x.ae) d<idx (nmP y.ae) d) || (decide (idx (nmP y.ae) d=idx (nmP x.ae) d) && decide (0<mZ (at_ d (idx (nmP x.ae) d).toNat) y x))
def pos{α:Type}(p:α->Bool):List α->Nat
 | []=>0
 | x::xs=>if p x=true then 0 else pos p xs+1
def ins(s:List ag)(l:List ah)(x:ah):List ah:=l.take (pos (stP (dk s) x) l)++x::l.drop (pos (stP (dk s) x) l)
def wrg(n:ag)(e:au):Int :=
 if ((n.ai=1\/n.ai=2)/\¬ e.av=[])\/(¬ (n.ai=1\/n.ai=2)/\¬ e.af=[]) then 2
 else if e.fOp<1\/5<e.fOp then 3
 else if (n.ai=4\/n.ai=3/\¬ (e.fOp=4\/e.fOp=5))/\cvB n.fType e.av=false then 7 else 0
def kt(n:ag)(k:Str):dx:=(at_ n.af (idx (ed k) n.af).toNat).fType
def edP(k:Str)(e:au):Bool:=e.ae == k
def kvF(k:Str)(es:List au):List au:=es.filter (edP k)
def kvG(n:ag)(k:Str)(e:au):Bool:=cvB (kt n k) e.av && !decide (e.fOp=4) && !decide (e.fOp=5)
def kvV(n:ag)(k:Str)(es:List au):List ah:=(kvF k es).map fun e=>.mk k (cvS (kt n k) e.av) []
def dE(n:ag)(es:List au):Bool:=n.aw.all fun k=>decide ((kvF k es).length=1) && (kvF k es).all (kvG n k)
def bQ(n:ag)(e:au):ah:=.mk n.ae (if n.ai=4 then cvS n.fType e.av else []) (if n.ai=2 then n.aw.flatMap (fun k=>kvV n k e.af) else [])
def dl(l:List ah)(i:Int):List ah:=if 0<=i then l.eraseIdx i.toNat else l
abbrev Rec:=List ag->List ah->List ah×Int
def crt(R:Rec)(s:List ag)(l:List ah)(n:ag)(e:au):List ah×Int :=
 if n.ai=3\/n.ai=4 then (ins s (wo s n.ae l) (.mk n.ae (cvS n.fType e.av) []),0)
 else if ¬ (R n.af []).2=0 then ([],(R n.af []).2)
 else if n.ai=1/\n.bF=false/\(R n.af []).1=[] then (l,0)
 else (ins s (wo s n.ae l) (.mk n.ae [] (R n.af []).1),0)
def mrg(R:Rec)(l:List ah)(i:Nat)(n:ag)(e:au):List ah×Int :=
 if n.ai=3 then (l.set i (.mk (at_ l i).ae (cvS n.fType e.av) (at_ l i).af),0)
 else if n.ai=1\/n.ai=2 then
  (if ¬ (R n.af (at_ l i).af).2=0 then ([],(R n.af (at_ l i).af).2)
   else if n.ai=1/\n.bF=false/\(R n.af (at_ l i).af).1=[] then (l.eraseIdx i,0)
   else (l.set i (.mk (at_ l i).ae (at_ l i).av (R n.af (at_ l i).af).1),0))
 else (l,0)
def one(R:Rec)(s:List ag)(l:List ah)(e:au):List ah×Int :=
 if idx (nmP e.ae) (dk s)<0 then ([],2)
 else if ¬ wrg (nd s e.ae) e=0 then ([],wrg (nd s e.ae) e)
 else if (nd s e.ae).ai=2/\dE (nd s e.ae) e.af=false then ([],4)
 else if e.fOp=3/\0<=fnd (nd s e.ae) l (bQ (nd s e.ae) e) then ([],5)
 else if e.fOp=4/\fnd (nd s e.ae) l (bQ (nd s e.ae) e)<0 then ([],6)
 else if e.fOp=5/\fnd (nd s e.ae) l (bQ (nd s e.ae) e)<0 then (l,0)
 else if e.fOp=1/\0<=fnd (nd s e.ae) l (bQ (nd s e.ae) e) then mrg R l (fnd (nd s e.ae) l (bQ (nd s e.ae) e)).toNat (nd s e.ae) e
 else if e.fOp=4\/e.fOp=5 then (dl l (fnd (nd s e.ae) l (bQ (nd s e.ae) e)),0)
 else crt R s (dl l (fnd (nd s e.ae) l (bQ (nd s e.ae) e))) (nd s e.ae) e
def mdE:List au->List ag->List ah->List ah×Int
 | [],_,l=>(l,0)
 | .mk op nm v ks::es,s,l =>
  if ¬ (one (mdE ks) s l (.mk op nm v ks)).2=0 then ([],(one (mdE ks) s l (.mk op nm v ks)).2)
  else mdE es s (one (mdE ks) s l (.mk op nm v ks)).1
theorem sS(e:au)(es:List au)(s:List ag)(l:List ah):mdE (e::es) s l=if ¬ (one (mdE e.af) s l e).2=0 then ([],(one (mdE e.af) s l e).2) else mdE es s (one (mdE e.af) s l e).1:=by cases e;rw [mdE];rfl
def mdT(s:List ag)(l:List ah)(es:List au):List ah×Int :=
 if bp s l=false then (l,1)
 else if ¬ (mdE es s l).2=0 then (l,(mdE es s l).2)
 else if bp s (mdE es s l).1=false then (l,8) else ((mdE es s l).1,0)
theorem pos_at{α:Type}[Inhabited α]{p:α->Bool}:∀ {l:List α} {k:Nat},k<l.length->(∀ y∈l.take k,p y=false)->p (at_ l k)=true->pos p l=k
 | x::xs,0,_,_,h=>by rw [pos,if_pos (show p x=true from h)]
 | x::xs,k+1,h1,h2,h3=>by
  rw [pos,if_neg (by rw [h2 x (by simp)];simp),pos_at (k:=k) (by simpa using h1) (fun y hy=>h2 y (by simp [hy])) h3]
theorem Gt{α:Type}{p:α->Bool}:∀ {l:List α},(∀ y∈l,p y=false)->pos p l=l.length
 | [],_=>rfl
 | x::xs,h=>by rw [pos,if_neg (by rw [h x (by simp)];simp),Gt fun y hy=>h y (by simp [hy])];rfl
theorem DB{α:Type}{p:α->Bool}{l:List α}{k:Nat}(h1:¬ k<l.length)(h:∀ y∈l.take k,p y=false):pos p l=l.length:=by
 rw [List.take_of_length_le (by omega)] at h;exact Gt h
theorem nz{l:List ah}{i:Nat}(h:i<l.length):l=l.take i++at_ l i::l.drop (i+1):=by
 rw [<- da h,List.take_append_drop]
theorem rX{l:List ah}{i:Nat}:l.eraseIdx i=l.take i++l.drop (i+1):=List.eraseIdx_eq_take_drop_succ ..
theorem rA{l:List ah}{i:Nat}{y:ah}(h:i<l.length):l.set i y=l.take i++y::l.drop (i+1):=by
 rw [List.set_eq_take_append_cons_drop,if_pos h]
def F(l:List ah)(k:Str):Option Str:=(l.find? (ndP k)).map ah.av
theorem Oo(l:List ah)(k:Str):F l k=if 0<=idx (ndP k) l then some (at_ l (idx (ndP k) l).toNat).av else none:=by
 rw [F,EM];split<;>rfl
theorem rQ(x:ah)(k:Str):j9 x k=(F x.af k).isSome:=by
 rw [Oo,j9];split
 ·rename_i h;simpa using h
 ·rename_i h;simpa using h
theorem Ig{x:ah}{k:Str}(h:j9 x k=true):F x.af k=some (kyT x k):=by
 rw [j9,decide_eq_true_eq] at h
 rw [Oo,if_pos h];rfl
theorem Wd{n:ag}{x y:ah}(h2:n.ai=2)(h:∀ k∈n.aw,F x.af k=F y.af k):kyB n x=kyB n y/\kyL n x=kyL n y:=by
 have e:n.aw.all (j9 x)=n.aw.all (j9 y):=by
  rw [Bool.eq_iff_iff,List.all_eq_true,List.all_eq_true]
  constructor
  ·intro q k hk;rw [rQ,<- h k hk,<- rQ];exact q k hk
  ·intro q k hk;rw [rQ,h k hk,<- rQ];exact q k hk
 cases hb:n.aw.all (j9 y) with
 | true =>
  have h1:=lL h2 (e.trans hb)
  have h3:=lL h2 hb
  refine ⟨by rw [h1.2,h3.2],?_⟩
  rw [h1.1,h3.1]
  refine List.map_congr_left fun k hk=>?_
  have q1:=Ig (List.all_eq_true.1 (e.trans hb) k hk)
  have q2:=Ig (List.all_eq_true.1 hb k hk)
  rw [h k hk,q2] at q1
  injection q1 with q1;exact q1.symm
 | false =>
  have h1:=rL h2 (e.trans hb)
  have h3:=rL h2 hb
  exact ⟨by rw [h1.2,h3.2],by rw [h1.1,h3.1]⟩
theorem pH(a b:List ah)(k:Str):F (a++b) k=(F a k).or (F b k):=by
 unfold F;rw [List.find?_append];cases a.find? (ndP k)<;>rfl
theorem mb(x:ah)(l:List ah)(k:Str):F (x::l) k=if x.ae=k then some x.av else F l k:=by
 unfold F;rw [List.find?_cons]
 by_cases h:x.ae=k
 ·rw [if_pos h,show ndP k x=true by simpa [ndP] using h];rfl
 ·rw [if_neg h,show ndP k x=false by simpa [ndP] using h]
theorem FA{l:List ah}{k:Str}(h:∀ x∈l,¬ x.ae=k):F l k=none:=by
 unfold F;rw [List.find?_eq_none.2 fun x hx=>by simpa [ndP] using h x hx];rfl
theorem UG{s:List ag}{l:List ah}{x:ah}{k:Str}(h:¬ x.ae=k):F (ins s l x) k=F l k:=by
 rw [ins,pH,mb,if_neg h,<- pH,List.take_append_drop]
theorem Jh{s:List ag}{l:List ah}{x:ah}(h:∀ y∈l,¬ y.ae=x.ae):F (ins s l x) x.ae=some x.av:=by
 rw [ins,pH,mb,if_pos rfl,FA fun y hy=>h y (List.mem_of_mem_take hy)];rfl
theorem Oq{l:List ah}{i:Nat}{k:Str}(hi:i<l.length)(h:¬ (at_ l i).ae=k):F (l.eraseIdx i) k=F l k:=by
 rw [rX,pH]
 conv=>rhs;rw [nz hi,pH,mb,if_neg h]
theorem UE{l:List ah}{i:Nat}{y:ah}{k:Str}(hi:i<l.length)(h:¬ (at_ l i).ae=k)(hy:¬ y.ae=k):F (l.set i y) k=F l k:=by
 rw [rA hi,pH,mb,if_neg hy]
 conv=>rhs;rw [nz hi,pH,mb,if_neg h]
theorem Xz{s:List ag}{nm:Str}{l:List ah}{k:Str}(h:cont (iq s nm) k=false):F (wo s nm l) k=F l k:=by
 induction l with
 | nil=>rfl
 | cons y l ih =>
  rw [wo,List.filter_cons]
  cases hc:cont (iq s nm) y.ae with
  | true =>
   rw [if_neg (by simp),mb,if_neg (fun e=>by rw [e,h] at hc;cases hc)];exact ih
  | false =>
   rw [if_pos (by simp),mb,mb]
   split
   ·rfl
   ·exact ih
end
section
def same(s:List ag)(x y:ah):Prop:=x.ae=y.ae/\(gu (nd s x.ae).ai=true->kyL (nd s x.ae) x=kyL (nd s x.ae) y)
theorem qw{s:List ag}{x y:ah}(h:same s x y):same s y x:=⟨h.1.symm,fun r=>by rw [<- h.1] at r ⊢;exact (h.2 r).symm⟩
theorem lH{s:List ag}{x y z:ah}(h:same s x y)(h2:same s y z):same s x z:=⟨h.1.trans h2.1,fun r=>by
 have r2:=r
 rw [h.1] at r2
 have:=h2.2 r2
 rw [<- h.1] at this
 exact (h.2 r).trans this⟩
def J:List ag->List ah->Prop
 | _,[]=>True
 | s,.mk nm v ks::xs=>(0<=idx (nmP nm) (dk s)/\kyB (nd s nm) (.mk nm v ks)=true/\((nd s nm).ai=1\/(nd s nm).ai=2->v=[]/\J (nd s nm).af ks))/\(∀ y∈xs,¬ same s (.mk nm v ks) y)/\J s xs
def jX(s:List ag)(x:ah):Prop:=0<=idx (nmP x.ae) (dk s)/\kyB (nd s x.ae) x=true/\((nd s x.ae).ai=1\/(nd s x.ae).ai=2->x.av=[]/\J (nd s x.ae).af x.af)
theorem Lr{s:List ag}{x:ah}{xs:List ah}:J s (x::xs)↔jX s x/\(∀ y∈xs,¬ same s x y)/\J s xs:=by cases x;rw [J];exact Iff.rfl
theorem Aa{s:List ag}:J s []:=by rw [J];trivial
theorem mo{s:List ag}:∀ {l:List ah},J s l↔(∀ x∈l,jX s x)/\l.Pairwise fun x y=>¬ same s x y
 | []=>by simp [Aa]
 | x::xs=>by
  rw [Lr,mo (l:=xs),List.pairwise_cons]
  constructor
  ·rintro ⟨h1,h2,h3,h4⟩
   exact ⟨fun y hy=>by rcases List.mem_cons.1 hy with rfl|hy;exact h1;exact h3 y hy,h2,h4⟩
  ·rintro ⟨h1,h2,h3⟩
   exact ⟨h1 x (by simp),h2,fun y hy=>h1 y (by simp [hy]),h3⟩
theorem z8{s:List ag}{l l':List ah}(h:l'.Sublist l)(hJ:J s l):J s l':=by
 rw [mo] at hJ ⊢
 exact ⟨fun x hx=>hJ.1 x (h.subset hx),hJ.2.sublist h⟩
theorem zN(l:List ah)(i:Int):(dl l i).Sublist l:=by
 unfold dl;split
 ·exact List.eraseIdx_sublist ..
 ·exact List.Sublist.refl _
theorem pW(s:List ag)(nm:Str)(l:List ah):(wo s nm l).Sublist l:=List.filter_sublist
theorem uF{s:List ag}{a b:List ah}{x:ah}:(a++x::b).Pairwise (fun x y=>¬ same s x y)↔(∀ y∈a++b,¬ same s x y)/\(a++b).Pairwise fun x y=>¬ same s x y:=by
 rw [(List.perm_middle (a:=x) (l₁:=a) (l₂:=b)).pairwise_iff fun h c=>h (qw c),List.pairwise_cons]
theorem UD{s:List ag}{l:List ah}{x:ah}(hJ:J s l)(hx:jX s x)(hn:∀ y∈l,¬ same s x y):J s (ins s l x):=by
 rw [mo] at hJ ⊢
 refine ⟨fun y hy=>?_,?_⟩
 ·rw [ins,List.mem_append,List.mem_cons] at hy
  rcases hy with hy|rfl|hy
  ·exact hJ.1 y (List.mem_of_mem_take hy)
  ·exact hx
  ·exact hJ.1 y (List.mem_of_mem_drop hy)
 ·rw [ins,uF,List.take_append_drop]
  exact ⟨hn,hJ.2⟩
theorem UC{s:List ag}{l:List ah}{i:Nat}{y:ah}(hJ:J s l)(hi:i<l.length)(hy:jX s y)(hn:same s y (at_ l i)):J s (l.set i y):=by
 rw [mo] at hJ ⊢
 have h2:=hJ.2
 rw [nz hi,uF] at h2
 rw [rA hi,uF]
 refine ⟨fun w hw=>?_,fun w hw c=>h2.1 w hw (lH (qw hn) c),h2.2⟩
 rw [List.mem_append,List.mem_cons] at hw
 rcases hw with hw|rfl|hw
 ·exact hJ.1 w (List.mem_of_mem_take hw)
 ·exact hy
 ·exact hJ.1 w (List.mem_of_mem_drop hw)
theorem fI{s:List ag}{k:Str}(h:0<=idx (nmP k) (dk s)):(nd s k).ae=k/\nd s k∈dk s:=by
 obtain ⟨_,h2,h3⟩:=fK h
 simp only [nmP,beq_iff_eq] at h2
 exact ⟨h2,h3⟩
theorem M4{s:List ag}{x y:ah}(hx:0<=idx (nmP x.ae) (dk s))(kx:kyB (nd s x.ae) x=true)(ky:y.ae=x.ae->kyB (nd s x.ae) y=true):fiP (nd s x.ae) x y=true↔same s x y:=by
 have hn:=(fI hx).1
 unfold fiP same
 rw [hn]
 by_cases e:y.ae=x.ae
 ·have e1:(y.ae == x.ae)=true:=by simpa using e
  rw [e1,mZ,skB,kx,ky e]
  by_cases r:gu (nd s x.ae).ai=true
  ·rw [if_pos r,r]
   simp only [Bool.true_and,Bool.not_true,Bool.false_or,Bool.and_eq_true,decide_eq_true_eq,vI,beq_iff_eq,and_self,true_implies]
   exact ⟨fun h=>⟨e.symm,h⟩,fun h=>h.2⟩
  ·rw [if_neg r,show gu (nd s x.ae).ai=false by simpa using r]
   simp [e]
 ·have e1:(y.ae == x.ae)=false:=by simpa using e
  rw [e1]
  constructor
  ·intro h;simp at h
  ·rintro ⟨h,_⟩;exact absurd h.symm e
theorem UF{n:ag}{k:Str}{es:List au}{e0:au}(h:kvF k es=[e0]):F (kvV n k es) k=some (cvS (kt n k) e0.av):=by
 rw [kvV,h,List.map_cons,mb,if_pos (show (ah.mk k (cvS (kt n k) e0.av) []).ae=k from rfl)];rfl
theorem Nr{n:ag}{k j:Str}{es:List au}(h:¬ j=k):F (kvV n j es) k=none:=FA fun x hx=>by
 obtain ⟨_,_,rfl⟩:=List.mem_map.1 hx;exact h
theorem vR{n:ag}{k:Str}{es:List au}{e0:au}(h:kvF k es=[e0]):∀ {Ks:List Str},k∈Ks->F (Ks.flatMap fun k=>kvV n k es) k=some (cvS (kt n k) e0.av)
 | j::Ks,hk=>by
  rw [List.flatMap_cons,pH]
  by_cases e:j=k
  ·subst e;rw [UF h];rfl
  ·rw [Nr e,vR h (by simpa [Ne.symm e,show ¬ k=j from fun c=>e c.symm] using hk)];rfl
theorem sW{n:ag}{es:List au}(h:dE n es=true){k:Str}(hk:k∈n.aw):∃ e0,kvF k es=[e0]/\e0.ae=k/\cvB (kt n k) e0.av=true/\¬ e0.fOp=4/\¬ e0.fOp=5:=by
 have:=List.all_eq_true.1 h k hk
 simp only [Bool.and_eq_true,decide_eq_true_eq] at this
 obtain ⟨h1,h2⟩:=this
 match he:kvF k es,h1 with
 | [e0],_ =>
  rw [he] at h2
  simp only [List.all_cons,List.all_nil,Bool.and_true,kvG,Bool.and_eq_true,Bool.not_eq_true',decide_eq_false_iff_not] at h2
  have hm:e0∈kvF k es:=by rw [he];simp
  have:=(List.mem_filter.1 hm).2
  exact ⟨e0,rfl,by simpa [edP] using this,h2.1.1,h2.1.2,h2.2⟩
theorem uQ{n:ag}{e:au}(h:n.ai=2->dE n e.af=true):kyB n (bQ n e)=true:=by
 by_cases h2:n.ai=2
 ·refine (lL h2 (List.all_eq_true.2 fun k hk=>?_)).2
  obtain ⟨e0,h3,_⟩:=sW (h h2) hk
  rw [rQ]
  show (F (if n.ai=2 then _ else []) k).isSome=true
  rw [if_pos h2,vR h3 hk];rfl
 ·exact (gC h2).2
theorem tz{k:Str}{c:ag}(hk:k∈nmS (dk c.af)):∀ {all:List ag},(∀ c∈all,c.ai=6)->c∈all->k∈nmS (dk all)
 | y::ys,h6,hc=>by
  rw [lS,nmS,List.map_append,List.mem_append]
  rcases List.mem_cons.1 hc with rfl|hc
  ·have e:=h6 c (by simp)
   left
   rw [e,if_neg (by decide),if_pos (.inr rfl)]
   exact hk
  ·right;exact tz hk (fun c hc=>h6 c (by simp [hc])) hc
theorem LV{all:List ag}(h6:∀ c∈all,c.ai=6){i m:Nat}(hm:m<=all.length):∀ k∈j6 all i m,k∈nmS (dk all):=by
 intro k hk
 obtain ⟨j,hj,hk⟩:=List.mem_flatMap.1 hk
 have hj':=List.mem_range.1 hj
 split at hk
 ·simp at hk
 ·exact tz hk h6 (at_mem (l:=all) (k:=j) (by omega))
theorem zw{x:ag}{xs:List ag}{kind:Int}{bd:Bool}(h:kA (x::xs) kind bd=true):iE kind bd x=true/\(∃ b,kA x.af x.ai b=true)/\kA xs kind bd=true:=by
 cases x;rw [kA] at h
 simp only [Bool.and_eq_true] at h
 exact ⟨h.1.1,⟨_,h.1.2.2⟩,h.2⟩
theorem TA{x:ag}{kind:Int}{bd:Bool}(h:iE kind bd x=true):x.ai=6↔kind=5:=by
 simp only [iE,Bool.and_eq_true,beq_iff_eq,decide_eq_decide] at h
 exact h.1.1.1.2
theorem Mu:∀ {l:List ag} {bd:Bool},kA l 5 bd=true->∀ c∈l,c.ai=6
 | x::xs,bd,h,c,hc=>by
  have:=zw h
  rcases List.mem_cons.1 hc with rfl|hc
  ·exact (TA this.1).2 rfl
  ·exact Mu this.2.2 c hc
theorem xy{x:ag}(h:x.ai=5\/x.ai=6)(xs:List ag):nmS (dk (x::xs))=nmS (dk x.af)++nmS (dk xs):=by
 rw [lS,nmS,List.map_append]
 rw [if_neg (by rcases h with h|h<;>rw [h]<;>decide),if_pos h];rfl
mutual
theorem Am:∀ (s:List ag) (kind:Int) (bd:Bool) (nm:Str) (o:List Str),kA s kind bd=true->oth s nm=some o->∀ k∈o,k∈nmS (dk s)
 | [],_,_,_,_,_,h=>by simp [oth] at h
 | .mk kd a b c d e f g h0 i j l m n ks::xs,kind,bd,nm,o,hA,h=>by
  have hc:=zw hA
  have hxs:∀ o,oth xs nm=some o->∀ k∈o,k∈nmS (dk (.mk kd a b c d e f g h0 i j l m n ks::xs)):=fun o ho k hk=>by
   have:=Am xs kind bd nm o hc.2.2 ho k hk
   rw [lS,nmS,List.map_append,List.mem_append];exact .inr this
  rw [oth] at h
  split at h
  ·injection h with h;subst h;intro k hk;simp at hk
  ·split at h
   ·rename_i h5
    obtain ⟨bb,hk2⟩:=hc.2.1
    cases hC:jK ks 0 ks nm with
    | some o2 =>
     rw [hC] at h
     injection h with h;subst h
     intro k hk
     have h6:=Mu (l:=ks) (bd:=bb) (by rw [<- h5];exact hk2)
     have:=xM ks 0 ks 5 bb nm o2 (by rw [<- h5];exact hk2) h6 hC (fun c hc=>hc) (by simp) k hk
     rw [xy (x:=.mk kd a b c d e f g h0 i j l m n ks) (.inl h5),List.mem_append];exact .inl this
    | none=>rw [hC] at h;exact hxs o h
   ·exact hxs o h
theorem xM:∀ (all:List ag) (i:Nat) (xs:List ag) (kind:Int) (bd:Bool) (nm:Str) (o:List Str),kA xs kind bd=true->(∀ c∈all,c.ai=6)->jK all i xs nm=some o->(∀ c∈xs,c∈all)->(True)->∀ k∈o,k∈nmS (dk all)
 | _,_,[],_,_,_,_,_,_,h,_,_=>by simp [jK] at h
 | all,i,.mk kd a b c d e f g h0 i' j l m n ks::xs,kind,bd,nm,o,hA,h6,h,hs,_=>by
  have hc:=zw hA
  rw [jK] at h
  cases hC:oth ks nm with
  | some o2 =>
   rw [hC] at h
   injection h with h;subst h
   intro k hk
   rcases List.mem_append.1 hk with hk|hk
   ·obtain ⟨bb,hk2⟩:=hc.2.1
    have h1:=Am ks _ bb nm o2 hk2 hC k hk
    exact tz (c:=.mk kd a b c d e f g h0 i' j l m n ks) h1 h6 (hs _ (List.mem_cons_self ..))
   ·exact LV h6 (Nat.le_refl _) k hk
  | none=>rw [hC] at h;exact xM all (i+1) xs kind bd nm o hc.2.2 h6 h (fun c hc=>hs c (by simp [hc])) trivial
end
theorem GA:∀ {s:List ag} {kind:Int} {bd:Bool} {nm:Str} {o:List Str} {m:ag},kA s kind bd=true->(nmS (dk s)).Nodup->m∈s->di m.ai=true->oth s nm=some o->¬ m.ae∈o
 | x::xs,kind,bd,nm,o,m,hA,hd,hm,hk,ho,c=>by
  have hc:=zw hA
  have ho2:=ho
  have hd2:=hd
  rw [lS,nmS,List.map_append,List.nodup_append] at hd
  rw [xL] at ho
  have hxs:oth xs nm=some o->False:=fun h=>by
   rcases List.mem_cons.1 hm with rfl|hm
   ·have h1:=Am xs kind bd nm o hc.2.2 h _ c
    rw [if_pos hk] at hd
    exact hd.2.2 m.ae (by simp) m.ae h1 rfl
   ·exact GA hc.2.2 hd.2.1 hm hk h c
  split at ho
  ·injection ho with ho;subst ho;simp at c
  ·split at ho
   ·rename_i h5
    cases hC:jK x.af 0 x.af nm with
    | some o2 =>
     rw [hC] at ho
     injection ho with ho;subst ho
     obtain ⟨bb,hk2⟩:=hc.2.1
     rw [h5] at hk2
     have h1:=xM _ _ _ _ _ _ _ hk2 (Mu hk2) hC (fun c hc=>hc) trivial _ c
     rw [xy (.inl h5),List.nodup_append] at hd2
     rcases List.mem_cons.1 hm with rfl|hm
     ·rw [h5] at hk;exact absurd hk (by decide)
     ·exact hd2.2.2 _ h1 m.ae (List.mem_map.2 ⟨m,vA hm hk,rfl⟩) rfl
    | none=>rw [hC] at ho;exact hxs ho
   ·exact hxs ho
def qa(s:List ag)(k:Str):Prop:=∃ m∈s,m.ae=k/\m.ai=3
theorem rN{s:List ag}(hg:gdS s){k:Str}(h:qa s k):0<=idx (nmP k) (dk s)/\(nd s k).ai=3/\∀ nm,cont (iq s nm) k=false:=by
 obtain ⟨m,hm,rfl,h3⟩:=h
 obtain ⟨hd,kind,bd,hA⟩:=hg
 have hk:di m.ai=true:=by rw [h3];rfl
 have hmd:=vA hm hk
 have h0:0<=idx (nmP m.ae) (dk s):=by
  rcases Int.lt_or_le (idx (nmP m.ae) (dk s)) 0 with c|c
  ·have:=uY (p:=nmP m.ae) (by omega) m hmd
   simp [nmP] at this
  ·exact c
 refine ⟨h0,?_,fun nm=>?_⟩
 ·have:=fI h0
  rw [yp hd this.2 hmd this.1];exact h3
 ·rw [Bool.eq_false_iff]
  intro c
  rw [lA,iq] at c
  cases ho:oth s nm with
  | none=>rw [ho] at c;simp at c
  | some o=>rw [ho] at c;exact GA hA ((oz _).1 hd) hm hk ho c
theorem AX{s:List ag}(h:gdS s){n:ag}(hn:n∈dk s):∀ k∈n.aw,qa n.af k/\kt n k=(nd n.af k).fType/\0<=idx (ed k) n.af:=by
 have hg:=(kz h hn).1
 obtain ⟨_,kind,bd,hA⟩:=h
 obtain ⟨⟨kd,b,ho⟩,_⟩:=wu s kind bd hA n hn
 intro k hk
 simp only [iE,Bool.and_eq_true] at ho
 have:=List.all_eq_true.1 ho.1.2 k hk
 simp only [nJ,Bool.and_eq_true,decide_eq_true_eq] at this
 obtain ⟨h1,h2,h3⟩:=fK this.1
 simp only [ed,Bool.and_eq_true,beq_iff_eq,decide_eq_true_eq] at h2
 have hD:qa n.af k:=⟨_,h3,h2.1,h2.2⟩
 refine ⟨hD,?_,this.1⟩
 have h4:=fI (rN hg hD).1
 rw [kt,yp hg.1 (vA h3 (by rw [h2.2];rfl)) h4.2 (h2.1.trans h4.1.symm)]
end
section
def Kp(s:List ag)(es:List au)(l l':List ah):Prop:=∀ k,qa s k->((∀ e∈es,¬ e.ae=k)->F l' k=F l k)/\(∀ e0,kvF k es=[e0]->¬ e0.fOp=4->¬ e0.fOp=5->F l' k=some (cvS (nd s k).fType e0.av))
theorem Px{k:Str}{es:List au}(h:kvF k es=[]):∀ e∈es,¬ e.ae=k:=fun e he c=>by
 have:e∈kvF k es:=List.mem_filter.2 ⟨he,by simpa [edP] using c⟩
 rw [h] at this;simp at this
theorem AG(k:Str)(e:au)(es:List au):kvF k (e::es)=if e.ae=k then e::kvF k es else kvF k es:=by
 rw [kvF,List.filter_cons]
 by_cases h:e.ae=k
 ·rw [if_pos h,if_pos (by simpa [edP] using h)];rfl
 ·rw [if_neg h,if_neg (by simpa [edP] using h)];rfl
theorem Sn(s:List ag)(l:List ah):Kp s [] l l:=fun k _=>⟨fun _=>rfl,fun e0 h=>by simp [kvF] at h⟩
theorem P8{s:List ag}{e:au}{es:List au}{l l1 l2:List ah}(h1:Kp s [e] l l1)(h2:Kp s es l1 l2):Kp s (e::es) l l2:=fun k hk=>by
 refine ⟨fun h=>?_,fun e0 h a b=>?_⟩
 ·rw [(h2 k hk).1 fun x hx=>h x (by simp [hx]),(h1 k hk).1 fun x hx=>by rw [List.mem_singleton.1 hx];exact h e (by simp)]
 ·rw [AG] at h
  split at h
  ·rename_i hn
   injection h with h3 h4
   subst h3
   rw [(h2 k hk).1 (Px h4)]
   exact (h1 k hk).2 e (by rw [AG,if_pos hn];rfl) a b
  ·exact (h2 k hk).2 e0 h a b
def ROk(R:Rec)(s:List ag)(es:List au):Prop:=∀ l,J s l->(R s l).2=0->J s (R s l).1/\Kp s es l (R s l).1
section
variable {R : Rec} {s : List ag} {l : List ah} {e : au}
theorem iT(n:ag)(e:au):(bQ n e).ae=n.ae:=rfl
theorem sX{n:ag}(h:n.ai=4):(bQ n e).av=cvS n.fType e.av:=by rw [bQ,if_pos h];rfl
theorem EK(hg:gdS s)(hJ:J s l)(h0:0<=idx (nmP e.ae) (dk s))(hk:(nd s e.ae).ai=2->dE (nd s e.ae) e.af=true)(y:ah)(hy:y∈l):fiP (nd s e.ae) (bQ (nd s e.ae) e) y=true↔same s (bQ (nd s e.ae) e) y:=by
 have hn:=(fI h0).1
 have e1:(bQ (nd s e.ae) e).ae=e.ae:=by rw [iT,hn]
 have:=M4 (s:=s) (x:=bQ (nd s e.ae) e) (y:=y) (by rw [e1];exact h0) (by rw [e1];exact uQ hk) (fun c=>by
  rw [e1] at c ⊢
  have:=((mo.1 hJ).1 y hy).2.1
  rw [c] at this;exact this)
 rw [e1] at this
 exact this
theorem AZ(hg:gdS s)(hJ:J s l)(h0:0<=idx (nmP e.ae) (dk s))(hk:(nd s e.ae).ai=2->dE (nd s e.ae) e.af=true)(hi:0<=fnd (nd s e.ae) l (bQ (nd s e.ae) e)):(fnd (nd s e.ae) l (bQ (nd s e.ae) e)).toNat<l.length/\same s (bQ (nd s e.ae) e) (at_ l (fnd (nd s e.ae) l (bQ (nd s e.ae) e)).toNat):=by
 obtain ⟨a,b,c⟩:=fK hi
 exact ⟨a,(EK hg hJ h0 hk _ c).1 b⟩
theorem fresh(hg:gdS s)(hJ:J s l)(h0:0<=idx (nmP e.ae) (dk s))(hk:(nd s e.ae).ai=2->dE (nd s e.ae) e.af=true):∀ y∈dl l (fnd (nd s e.ae) l (bQ (nd s e.ae) e)),¬ same s (bQ (nd s e.ae) e) y:=by
 intro y hy
 by_cases hi:0<=fnd (nd s e.ae) l (bQ (nd s e.ae) e)
 ·obtain ⟨a,b⟩:=AZ hg hJ h0 hk hi
  rw [dl,if_pos hi,rX] at hy
  have:=(mo.1 hJ).2
  rw [nz a,uF] at this
  exact fun c=>this.1 y hy (lH (qw b) c)
 ·have hy2:y∈l:=by rw [dl,if_neg hi] at hy;exact hy
  intro c
  have:=uY hi y hy2
  rw [(EK hg hJ h0 hk y hy2).2 c] at this
  cases this
theorem Sp(h0:0<=idx (nmP e.ae) (dk s)){k:Str}(h:¬ e.ae=k):F (dl l (fnd (nd s e.ae) l (bQ (nd s e.ae) e))) k=F l k:=by
 unfold dl;split
 ·rename_i hi
  obtain ⟨a,b,c⟩:=fK hi
  refine Oq a ?_
  simp only [fiP,Bool.and_eq_true,beq_iff_eq] at b
  rw [show (at_ l (fnd (nd s e.ae) l (bQ (nd s e.ae) e)).toNat).ae=_ from b.1.1,(fI h0).1];exact h
 ·rfl
theorem xT(hg:gdS s)(h0:0<=idx (nmP e.ae) (dk s))(h2:(nd s e.ae).ai=2)(hk:dE (nd s e.ae) e.af=true){a ks:List ah}(hK:Kp (nd s e.ae).af e.af a ks){x:ah}(hx:x.af=ks):kyB (nd s e.ae) x=kyB (nd s e.ae) (bQ (nd s e.ae) e)/\kyL (nd s e.ae) x=kyL (nd s e.ae) (bQ (nd s e.ae) e):=by
 refine Wd h2 fun k hm=>?_
 obtain ⟨e0,q1,q2,q3,q4,q5⟩:=sW hk hm
 obtain ⟨d1,d2,_⟩:=AX hg (fI h0).2 k hm
 rw [hx,(hK k d1).2 e0 q1 q4 q5,<- d2]
 show _=F (if (nd s e.ae).ai=2 then _ else []) k
 rw [if_pos h2,vR q1 hm]
theorem AK(h0:0<=idx (nmP e.ae) (dk s)):(nd s e.ae).ai=1\/(nd s e.ae).ai=2\/(nd s e.ae).ai=3\/(nd s e.ae).ai=4:=by
 have:=wI s _ (fI h0).2
 simp only [di,Bool.and_eq_true,decide_eq_true_eq] at this
 omega
theorem R4(hg:gdS s)(hJ:J s l)(h0:0<=idx (nmP e.ae) (dk s))(hk:(nd s e.ae).ai=2->dE (nd s e.ae) e.af=true)(hf:∀ y∈l,¬ same s (bQ (nd s e.ae) e) y)(hR:ROk R (nd s e.ae).af e.af)(hr:(crt R s l (nd s e.ae) e).2=0) :
  J s (crt R s l (nd s e.ae) e).1/\(∀ k,qa s k->(¬ e.ae=k->F (crt R s l (nd s e.ae) e).1 k=F l k)/\(e.ae=k->F (crt R s l (nd s e.ae) e).1 k=some (cvS (nd s k).fType e.av))):=by
 have hn:=(fI h0).1
 have hw:=z8 (pW s (nd s e.ae).ae l) hJ
 have hfw:∀ y∈wo s (nd s e.ae).ae l,¬ same s (bQ (nd s e.ae) e) y:=fun y hy=>hf y ((pW _ _ _).subset hy)
 have put:∀ x:ah,x.ae=e.ae->jX s x->same s (bQ (nd s e.ae) e) x->J s (ins s (wo s (nd s e.ae).ae l) x)/\∀ k,qa s k->¬ e.ae=k->F (ins s (wo s (nd s e.ae).ae l) x) k=F l k:=fun x hx h1 h2 =>
  ⟨UD hw h1 fun y hy c=>hfw y hy (lH h2 c),fun k hk hne=>by rw [UG (by rw [hx];exact hne),Xz ((rN hg hk).2.2 _)]⟩
 by_cases c1:(nd s e.ae).ai=3\/(nd s e.ae).ai=4
 ·rw [crt,if_pos c1]
  have hkb:kyB (nd s e.ae) (.mk (nd s e.ae).ae (cvS (nd s e.ae).fType e.av) [])=true:=(gC (by omega)).2
  have hj:jX s (.mk (nd s e.ae).ae (cvS (nd s e.ae).fType e.av) []):=by
   refine ⟨?_,?_,?_⟩
   ·show 0<=idx (nmP (nd s e.ae).ae) (dk s);rw [hn];exact h0
   ·show kyB (nd s (nd s e.ae).ae) _=true;rw [hn];rw [hn] at hkb;exact hkb
   ·intro c;exfalso
    have c2:(nd s (nd s e.ae).ae).ai=1\/(nd s (nd s e.ae).ae).ai=2:=c
    rw [hn] at c2;omega
  have hs:same s (bQ (nd s e.ae) e) (.mk (nd s e.ae).ae (cvS (nd s e.ae).fType e.av) []):=by
   refine ⟨rfl,fun r=>?_⟩
   rw [iT,hn] at r ⊢
   rw [(gC (by omega)).1,(gC (by omega)).1]
   rcases c1 with c1|c1
   ·rw [c1] at r;exact absurd r (by decide)
   ·rw [sX c1];rfl
  obtain ⟨p1,p2⟩:=put (.mk (nd s e.ae).ae (cvS (nd s e.ae).fType e.av) []) hn hj hs
  refine ⟨p1,fun k hk=>⟨p2 k hk,fun hek=>?_⟩⟩
  subst hek
  have h3:=(rN hg hk).2.1
  have:=Jh (s:=s) (l:=wo s (nd s e.ae).ae l) (x:=.mk (nd s e.ae).ae (cvS (nd s e.ae).fType e.av) []) (fun y hy c=>hfw y hy ⟨c.symm,fun r=>by rw [iT,hn,h3] at r;exact absurd r (by decide)⟩)
  rw [show (ah.mk (nd s e.ae).ae (cvS (nd s e.ae).fType e.av) []).ae=e.ae from hn] at this
  exact this
 ·have hnk:∀ k,qa s k->e.ae=k->False:=fun k hk c=>by
   have:=(rN hg hk).2.1
   rw [<- c] at this;exact c1 (.inl this)
  rw [crt,if_neg c1] at hr ⊢
  by_cases c2:¬ (R (nd s e.ae).af []).2=0
  ·rw [if_pos c2] at hr;exact absurd hr c2
  ·rw [if_neg c2] at hr ⊢
   by_cases c3:(nd s e.ae).ai=1/\(nd s e.ae).bF=false/\(R (nd s e.ae).af []).1=[]
   ·rw [if_pos c3]
    exact ⟨hJ,fun k hk=>⟨fun _=>rfl,fun c=>(hnk k hk c).elim⟩⟩
   ·rw [if_neg c3]
    obtain ⟨r1,r2⟩:=hR [] Aa (by simpa using c2)
    generalize (R (nd s e.ae).af []).1=ks at r1 r2
    have hky:(nd s e.ae).ai=2->kyB (nd s e.ae) (.mk (nd s e.ae).ae [] ks)=true/\kyL (nd s e.ae) (.mk (nd s e.ae).ae [] ks)=kyL (nd s e.ae) (bQ (nd s e.ae) e):=fun h2=>by
     have:=xT hg h0 h2 (hk h2) r2 (x:=.mk (nd s e.ae).ae [] ks) rfl
     rw [uQ fun _=>hk h2] at this
     exact this
    have hj:jX s (.mk (nd s e.ae).ae [] ks):=by
     have e2:(ah.mk (nd s e.ae).ae [] ks).ae=e.ae:=hn
     refine ⟨by rw [e2];exact h0,?_,fun _=>⟨rfl,by rw [e2];exact r1⟩⟩
     rw [e2]
     by_cases h2:(nd s e.ae).ai=2
     ·exact (hky h2).1
     ·exact (gC h2).2
    have hs:same s (bQ (nd s e.ae) e) (.mk (nd s e.ae).ae [] ks):=by
     refine ⟨rfl,fun r=>?_⟩
     rw [iT,hn] at r ⊢
     have h2:(nd s e.ae).ai=2:=by
      simp only [gu,Bool.or_eq_true,decide_eq_true_eq] at r;omega
     have:=(hky h2).2
     rw [hn] at this
     exact this.symm
    obtain ⟨p1,p2⟩:=put (.mk (nd s e.ae).ae [] ks) hn hj hs
    exact ⟨p1,fun k hk=>⟨p2 k hk,fun c=>(hnk k hk c).elim⟩⟩
theorem Jg{i:Nat}{y:ah}(hi:i<l.length)(h:∀ w∈l.take i++l.drop (i+1),¬ w.ae=y.ae):F (l.set i y) y.ae=some y.av:=by
 rw [rA hi,pH,mb,if_pos rfl,FA fun w hw=>h w (List.mem_append_left _ hw)];rfl
theorem Q3(hg:gdS s)(hJ:J s l)(h0:0<=idx (nmP e.ae) (dk s))(hk:(nd s e.ae).ai=2->dE (nd s e.ae) e.af=true){i:Nat}(hi:i<l.length)(hs:same s (bQ (nd s e.ae) e) (at_ l i))(hR:ROk R (nd s e.ae).af e.af)(hr:(mrg R l i (nd s e.ae) e).2=0) :
  J s (mrg R l i (nd s e.ae) e).1/\(∀ k,qa s k->(¬ e.ae=k->F (mrg R l i (nd s e.ae) e).1 k=F l k)/\(e.ae=k->F (mrg R l i (nd s e.ae) e).1 k=some (cvS (nd s k).fType e.av))):=by
 have hn:=(fI h0).1
 have hni:(at_ l i).ae=e.ae:=by rw [<- hs.1,iT,hn]
 have hjx:=(mo.1 hJ).1 _ (at_mem hi)
 have put:∀ y:ah,y.ae=e.ae->jX s y->same s y (at_ l i)->J s (l.set i y)/\∀ k,qa s k->¬ e.ae=k->F (l.set i y) k=F l k:=fun y hy h1 h2 =>
  ⟨UC hJ hi h1 h2,fun k _ hne=>UE hi (by rw [hni];exact hne) (by rw [hy];exact hne)⟩
 by_cases c1:(nd s e.ae).ai=3
 ·rw [mrg,if_pos c1]
  have hj:jX s (.mk (at_ l i).ae (cvS (nd s e.ae).fType e.av) (at_ l i).af):=by
   have e2:(ah.mk (at_ l i).ae (cvS (nd s e.ae).fType e.av) (at_ l i).af).ae=e.ae:=hni
   refine ⟨by rw [e2];exact h0,by rw [e2];exact (gC (by omega)).2,fun c=>?_⟩
   exfalso;rw [e2] at c;omega
  have hsm:same s (.mk (at_ l i).ae (cvS (nd s e.ae).fType e.av) (at_ l i).af) (at_ l i):=⟨rfl,fun r=>by
   have r2:gu (nd s (at_ l i).ae).ai=true:=r
   rw [hni,c1] at r2;exact absurd r2 (by decide)⟩
  obtain ⟨p1,p2⟩:=put (.mk (at_ l i).ae (cvS (nd s e.ae).fType e.av) (at_ l i).af) hni hj hsm
  refine ⟨p1,fun k hk=>⟨p2 k hk,fun hek=>?_⟩⟩
  subst hek
  have hp:=(mo.1 hJ).2
  rw [nz hi,uF] at hp
  have:=Jg (y:=.mk (at_ l i).ae (cvS (nd s e.ae).fType e.av) (at_ l i).af) hi (fun w hw c=>hp.1 w hw ⟨c.symm,fun r=>by rw [hni,c1] at r;exact absurd r (by decide)⟩)
  rw [show (ah.mk (at_ l i).ae (cvS (nd s e.ae).fType e.av) (at_ l i).af).ae=e.ae from hni] at this
  exact this
 ·have hnk:∀ k,qa s k->e.ae=k->False:=fun k hk c=>by
   have:=(rN hg hk).2.1
   rw [<- c] at this;exact c1 this
  rw [mrg,if_neg c1] at hr ⊢
  by_cases c0:(nd s e.ae).ai=1\/(nd s e.ae).ai=2
  ·rw [if_pos c0] at hr ⊢
   by_cases c2:¬ (R (nd s e.ae).af (at_ l i).af).2=0
   ·rw [if_pos c2] at hr;exact absurd hr c2
   ·rw [if_neg c2] at hr ⊢
    by_cases c3:(nd s e.ae).ai=1/\(nd s e.ae).bF=false/\(R (nd s e.ae).af (at_ l i).af).1=[]
    ·rw [if_pos c3]
     exact ⟨z8 (List.eraseIdx_sublist ..) hJ,fun k hk=>⟨fun hne=>Oq hi (by rw [hni];exact hne),fun c=>(hnk k hk c).elim⟩⟩
    ·rw [if_neg c3]
     have hjk:=hjx.2.2 (by rw [hni];exact c0)
     rw [hni] at hjk
     obtain ⟨r1,r2⟩:=hR _ hjk.2 (by simpa using c2)
     generalize (R (nd s e.ae).af (at_ l i).af).1=ks at r1 r2
     have hky:(nd s e.ae).ai=2->kyB (nd s e.ae) (.mk (at_ l i).ae (at_ l i).av ks)=true/\kyL (nd s e.ae) (.mk (at_ l i).ae (at_ l i).av ks)=kyL (nd s e.ae) (bQ (nd s e.ae) e):=fun h2=>by
      have:=xT hg h0 h2 (hk h2) r2 (x:=.mk (at_ l i).ae (at_ l i).av ks) rfl
      rw [uQ fun _=>hk h2] at this
      exact this
     have e2:(ah.mk (at_ l i).ae (at_ l i).av ks).ae=e.ae:=hni
     have hj:jX s (.mk (at_ l i).ae (at_ l i).av ks):=by
      refine ⟨by rw [e2];exact h0,?_,fun _=>⟨hjk.1,by rw [e2];exact r1⟩⟩
      rw [e2]
      by_cases h2:(nd s e.ae).ai=2
      ·exact (hky h2).1
      ·exact (gC h2).2
     have hsm:same s (.mk (at_ l i).ae (at_ l i).av ks) (at_ l i):=by
      refine lH (qw (x:=bQ (nd s e.ae) e) ⟨by rw [e2,iT,hn],fun r=>?_⟩) hs
      rw [iT,hn] at r ⊢
      have h2:(nd s e.ae).ai=2:=by
       simp only [gu,Bool.or_eq_true,decide_eq_true_eq] at r
       have:=AK h0
       rcases r with r|r
       ·exact r
       ·omega
      exact (hky h2).2.symm
     obtain ⟨p1,p2⟩:=put (.mk (at_ l i).ae (at_ l i).av ks) hni hj hsm
     exact ⟨p1,fun k hk=>⟨p2 k hk,fun c=>(hnk k hk c).elim⟩⟩
  ·rw [if_neg c0]
   exact ⟨hJ,fun k hk=>⟨fun _=>rfl,fun c=>(hnk k hk c).elim⟩⟩
theorem Nt{n:ag}(h:wrg n e=0):((n.ai=1\/n.ai=2)->e.av=[])/\(¬ (n.ai=1\/n.ai=2)->e.af=[])/\1<=e.fOp/\e.fOp<=5/\((n.ai=4\/n.ai=3/\¬ (e.fOp=4\/e.fOp=5))->cvB n.fType e.av=true):=by
 unfold wrg at h
 split at h
 ·exact absurd h (by decide)
 ·split at h
  ·exact absurd h (by decide)
  ·split at h
   ·exact absurd h (by decide)
   ·rename_i a b c
    refine ⟨fun q=>?_,fun q=>?_,by omega,by omega,fun q=>?_⟩
    ·rcases Decidable.em (e.av=[]) with z|z
     ·exact z
     ·exact absurd (.inl ⟨q,z⟩) a
    ·rcases Decidable.em (e.af=[]) with z|z
     ·exact z
     ·exact absurd (.inr ⟨q,z⟩) a
    ·cases z:cvB n.fType e.av with
     | true=>rfl
     | false=>exact absurd ⟨q,z⟩ c
theorem JR(hg:gdS s)(hJ:J s l)(hR:∀ n∈dk s,ROk R n.af e.af)(hr:(one R s l e).2=0):J s (one R s l e).1/\Kp s [e] l (one R s l e).1:=by
 unfold one at hr ⊢
 by_cases c1:idx (nmP e.ae) (dk s)<0
 ·rw [if_pos c1] at hr;exact absurd hr (by decide)
 rw [if_neg c1] at hr ⊢
 by_cases c2:¬ wrg (nd s e.ae) e=0
 ·rw [if_pos c2] at hr;exact absurd hr c2
 rw [if_neg c2] at hr ⊢
 by_cases c3:(nd s e.ae).ai=2/\dE (nd s e.ae) e.af=false
 ·rw [if_pos c3] at hr;exact absurd hr (by decide)
 rw [if_neg c3] at hr ⊢
 have h0:0<=idx (nmP e.ae) (dk s):=by omega
 have hk:(nd s e.ae).ai=2->dE (nd s e.ae) e.af=true:=fun h2=>by
  cases z:dE (nd s e.ae) e.af with
  | true=>rfl
  | false=>exact absurd ⟨h2,z⟩ c3
 have hRn:=hR _ (fI h0).2
 have kp:∀ l',(∀ k,qa s k->(¬ e.ae=k->F l' k=F l k)/\(e.ae=k->¬ e.fOp=4->¬ e.fOp=5->F l' k=some (cvS (nd s k).fType e.av)))->Kp s [e] l l':=fun l' h k hk=>⟨fun q=>(h k hk).1 (q e (by simp)),fun e0 q a b=>by
  rw [AG] at q
  split at q
  ·rename_i z
   injection q with q _
   subst q
   exact (h k hk).2 z a b
  ·simp [kvF] at q⟩
 split at hr
 ·exact absurd hr (by decide)
 ·rename_i c4
  rw [if_neg c4]
  split at hr
  ·exact absurd hr (by decide)
  ·rename_i c5
   rw [if_neg c5]
   by_cases c6:e.fOp=5/\fnd (nd s e.ae) l (bQ (nd s e.ae) e)<0
   ·rw [if_pos c6]
    exact ⟨hJ,kp _ fun k hk=>⟨fun _=>rfl,fun _ _ c=>absurd c6.1 c⟩⟩
   ·rw [if_neg c6] at hr ⊢
    by_cases c7:e.fOp=1/\0<=fnd (nd s e.ae) l (bQ (nd s e.ae) e)
    ·rw [if_pos c7] at hr ⊢
     obtain ⟨a,b⟩:=AZ hg hJ h0 hk c7.2
     have:=Q3 hg hJ h0 hk a b hRn hr
     exact ⟨this.1,kp _ fun k hk=>⟨(this.2 k hk).1,fun q _ _=>(this.2 k hk).2 q⟩⟩
    ·rw [if_neg c7] at hr ⊢
     have hJd:=z8 (zN l (fnd (nd s e.ae) l (bQ (nd s e.ae) e))) hJ
     by_cases c8:e.fOp=4\/e.fOp=5
     ·rw [if_pos c8]
      exact ⟨hJd,kp _ fun k hk=>⟨fun hne=>Sp h0 hne,fun _ a b=>by omega⟩⟩
     ·rw [if_neg c8] at hr ⊢
      have:=R4 hg hJd h0 hk (fresh hg hJ h0 hk) hRn hr
      exact ⟨this.1,kp _ fun k hk=>⟨fun hne=>by rw [(this.2 k hk).1 hne,Sp h0 hne],fun q _ _=>(this.2 k hk).2 q⟩⟩
end
theorem D2:∀ (es:List au) (s:List ag) (l:List ah),gdS s->J s l->(mdE es s l).2=0->J s (mdE es s l).1/\Kp s es l (mdE es s l).1
 | [],s,l,_,hJ,_=>by rw [mdE];exact ⟨hJ,Sn s l⟩
 | .mk op nm v ks::es,s,l,hg,hJ,hr=>by
  rw [sS] at hr ⊢
  by_cases c:¬ (one (mdE (au.mk op nm v ks).af) s l (.mk op nm v ks)).2=0
  ·rw [if_pos c] at hr;exact absurd hr c
  rw [if_neg c] at hr ⊢
  have h1:=JR (R:=mdE (au.mk op nm v ks).af) (e:=.mk op nm v ks) hg hJ (fun n hn l hl hz=>D2 ks n.af l (kz hg hn).1 hl hz) (by simpa using c)
  have h2:=D2 es s _ hg h1.1 hr
  exact ⟨h2.1,P8 h1.2 h2.2⟩
theorem Mh(a:List Str):dZ a a=false:=by
 have:=qD a a
 rw [beq_self_eq_true] at this
 simp only [Bool.and_eq_true,Bool.not_eq_true'] at this
 exact this.1
theorem Nk{s:List ag}{x y:ah}(h:gZ (dk s) x y=true):¬ same s x y:=by
 rintro ⟨h1,h2⟩
 unfold gZ at h
 rw [h1] at h
 split at h
 ·rename_i c
  rw [h1] at h2
  rw [h2 c.2,Mh] at h;cases h
 ·simp at h
theorem Df:∀ (l:List ah) (s:List ag),gdS s->(∀ x∈l,okX (dk s) x)->l.Pairwise (fun x y=>gZ (dk s) x y=true)->J s l
 | [],s,_,_,_=>Aa
 | .mk nm v ks::xs,s,hg,h,hp=>by
  rw [Lr]
  have hp:=List.pairwise_cons.1 hp
  have hx:=h (.mk nm v ks) (by simp)
  refine ⟨⟨hx.1,kE hx.2,fun c=>?_⟩,fun y hy=>Nk (hp.1 y hy),Df xs s hg (fun y hy=>h y (by simp [hy])) hp.2⟩
  have c2:(at_ (dk s) (idx (nmP (ah.mk nm v ks).ae) (dk s)).toNat).ai=1\/(at_ (dk s) (idx (nmP (ah.mk nm v ks).ae) (dk s)).toNat).ai=2:=c
  have hk:=xP hx.2 (by omega)
  have hs:=GF.1 hk.2.1
  exact ⟨hk.1,Df ks _ (kz hg (iv hx).2).1 hs.1 hs.2⟩
theorem My{s:List ag}{l:List ah}(h:bp s l=true):J s l:=by
 simp only [bp,Bool.and_eq_true] at h
 have:=GF.1 h.2
 exact Df l s (pK h.1.1) this.1 this.2
theorem Dv{s:List ag}{x y:ah}(hx:0<=idx (nmP x.ae) (dk s))(e:idx (nmP x.ae) (dk s)=idx (nmP y.ae) (dk s)):x.ae=y.ae:=by
 have h1:=(fI hx).1
 have h2:=(fI (s:=s) (k:=y.ae) (by omega)).1
 rw [<- h1,<- h2];unfold nd;rw [e]
theorem Sb{s:List ag}{x y:ah}(hx:0<=idx (nmP x.ae) (dk s))(hn:¬ same s x y):gZ (dk s) y x=!stP (dk s) x y:=by
 unfold gZ stP
 by_cases e:idx (nmP y.ae) (dk s)=idx (nmP x.ae) (dk s)
 ·have hne:=Dv hx e.symm
  by_cases r:gu (at_ (dk s) (idx (nmP x.ae) (dk s)).toNat).ai=true
  ·have hk:¬ kyL (nd s x.ae) x=kyL (nd s x.ae) y:=fun c=>hn ⟨hne,fun _=>c⟩
   rw [if_pos ⟨e,r⟩,mZ,if_pos r,yH]
   have hz:¬ cmpL (kyL (nd s x.ae) y) (kyL (nd s x.ae) x)=0:=fun c=>hk ((vI _ _).1 c).symm
   rw [show decide (idx (nmP x.ae) (dk s)<idx (nmP y.ae) (dk s))=false by simp;omega,show decide (idx (nmP y.ae) (dk s)=idx (nmP x.ae) (dk s))=true by simpa using e,Bool.false_or,Bool.true_and,Bool.eq_iff_iff,decide_eq_true_eq,Bool.not_eq_true',decide_eq_false_iff_not]
   show cmpL (kyL (nd s x.ae) y) (kyL (nd s x.ae) x)<0↔¬ 0<cmpL (kyL (nd s x.ae) y) (kyL (nd s x.ae) x)
   omega
  ·exact absurd ⟨hne,fun c=>absurd c r⟩ hn
 ·rw [if_neg (fun c=>e c.1),show decide (idx (nmP y.ae) (dk s)=idx (nmP x.ae) (dk s))=false by simpa using e,Bool.false_and,Bool.or_false,Bool.eq_iff_iff,decide_eq_true_eq,Bool.not_eq_true',decide_eq_false_iff_not]
  omega
theorem Nl{s:List ag}{x y:ah}(hx:0<=idx (nmP x.ae) (dk s))(hn:¬ same s x y)(h:gZ (dk s) y x=false):gZ (dk s) x y=true:=by
 unfold gZ at h ⊢
 by_cases e:idx (nmP y.ae) (dk s)=idx (nmP x.ae) (dk s)
 ·have hne:=Dv hx e.symm
  rw [<- hne] at h ⊢
  by_cases r:gu (at_ (dk s) (idx (nmP x.ae) (dk s)).toNat).ai=true
  ·rw [if_pos ⟨rfl,r⟩] at h ⊢
   have:=qD (kyL (nd s x.ae) x) (kyL (nd s x.ae) y)
   have hk:¬ kyL (nd s x.ae) x=kyL (nd s x.ae) y:=fun c=>hn ⟨hne,fun _=>c⟩
   rw [show (kyL (nd s x.ae) x == kyL (nd s x.ae) y)=false by simpa using hk,show dZ (kyL (nd s x.ae) y) (kyL (nd s x.ae) x)=false from h] at this
   simpa using this
  ·exact absurd ⟨hne,fun c=>absurd c r⟩ hn
 ·rw [if_neg (fun c=>e c.1)] at h
  rw [if_neg (fun c=>e c.1.symm)]
  simp only [decide_eq_false_iff_not] at h
  simp only [decide_eq_true_eq]
  omega
end
section
section
variable {s : List ag} {x y : ah} {a b l : List ah}
end
end
end Go.Dt
namespace Go.Dt
open Go.Ab
section
theorem Jo{α:Type}{f:α->Int->Int}{l:List α}{r:Int}(h:0<=aG f l r):(l.length:Int)<=r:=by
 rcases Int.lt_or_le (r - l.length) 0 with h4|h4
 ·rw [fQ h4] at h;omega
 ·omega
end
section
theorem cE{a:Int}{k:Int->Int}(h:0<=a):thn a k=k a:=by unfold thn;rw [if_neg (by omega)]
theorem p8{α:Type}{f:α->Int->α×Int}{s:α->Int->Int}(hs:∀ x r,0<=r->s x r<=r)(l:List α)(hf:∀ x∈l,∀ k r,0<=r->0<=s x r->(f x k).2<=k+32+32 * (r - s x r))(k r:Int)(h0:0<=r)(h:0<=aG s l r):(mkL f l k).2<=k+32 * (r - aG s l r):=by
 have key:∀ (l:List α),(∀ x∈l,∀ k r,0<=r->0<=s x r->(f x k).2<=k+32+32 * (r - s x r))->∀ (k r:Int),0<=r->0<=eD s l r->(mkL f l k).2<=k+32 * l.length+32 * (r - eD s l r):=by
  intro l
  induction l with
  | nil=>intro _ k r h0 _;simp [mkL,eD]
  | cons x xs ih =>
   intro hf k r h0 h
   rw [eD] at h ⊢
   obtain ⟨a0,h⟩:=aX h
   rw [cE a0]
   have h1:=hf x (by simp) k r h0 a0
   have h2:=ih (fun y hy=>hf y (by simp [hy])) (f x k).2 (s x r) a0 h
   simp only [mkL,List.length_cons]
   omega
 have h4:=Jo h
 rw [gr (by omega)] at h ⊢
 have:=key l hf k (r - l.length) (by omega) h
 omega
theorem fJ{α:Type}{f:α->Int->α×Int}{s:α->Int->Int}(hs:∀ x r,0<=r->s x r<=r)(hf:∀ x k r,0<=r->0<=s x r->(f x k).2<=k+32+32 * (r - s x r))(l:List α)(k r:Int)(h0:0<=r)(h:0<=aG s l r):(mkL f l k).2<=k+32 * (r - aG s l r) :=
 p8 hs l (fun x _=>hf x) k r h0 h
theorem mV(x:Str)(k r:Int)(h0:0<=r)(h:0<=aC x r):(ay x k).2<=k+32+32 * (r - aC x r):=by
 have:=aY x r h0
 unfold ay;simp only;omega
end
end Go.Dt
