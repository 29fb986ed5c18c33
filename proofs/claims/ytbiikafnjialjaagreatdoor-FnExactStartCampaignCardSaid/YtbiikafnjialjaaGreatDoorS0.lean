/- Part of a proof. -/
import Derived.KernelRfl
import Derived.Lib.ItoaNum
import Derived.WalkKit
set_option linter.all false
open List
namespace Go.Ab
open Go.RowKit (Below)
inductive AV where
 | dead
 | v (x:Value)
 | str (l:List UInt8)
 | sl (own:Bool) (sz:Nat) (l:List AV)
 | vp (l:List AV)
 | arr (b off len sz:Nat)
 | ptr (b off:Nat)
 | agg (l:List AV)
 | tup (l:List AV)
 | fn (f:FuncId) (l:List AV)
 | cnd (g:Bool) (x:AV)
 | pin (v:Value) (x:AV)
 | slo (sz:Nat) (l:List AV)
abbrev AV.aa(k:Int):AV:=.v (.int .i64 k)
abbrev AV.ac(k:Bool):AV:=.v (.bool k)
abbrev maa:List AV:=[.v (.int .i64 0),.str [],.v (.slice none 0 0)]
abbrev laa(s:List UInt8)(k:Int)(b:Bool):List AV:=[.str s,.v (.int .i64 k),.v (.bool b)]
abbrev AV.ab{α:Type}(n:Nat)(f:Bool->α->AV)(l:List α):AV:=.sl false n (l.map (f false))
abbrev AV.ad{α:Type}(n:Nat)(f:Bool->α->AV)(l:List α):AV:=.sl true n (l.map (f true))
abbrev AV.al(l:List (List UInt8)):AV:=.sl false 1 (l.map AV.str)
abbrev AV.am(l:List (List UInt8)):AV:=.sl true 1 (l.map AV.str)
def _root_.Um{P:Prop}(h:P:=by omega):P:=h
def _root_.Xp{P:Prop}(h:P:=by simp):P:=h
def _root_.baa{P:Prop}(h:P:=by assumption):P:=h
def _root_.daa{P:Prop}(h:P:=by decide):P:=h
def _root_.caa{P:Prop}(h:P:=by kernel_rfl):P:=h
abbrev _root_.faa:=List (Nat×AV)
abbrev _root_.gaa:=Nat->Nat
abbrev _root_.haa:=Nat->Prop
def ia(w:World)(b off:Nat)(vals:List Value):Prop :=
 ∃c T z,w.heap[b]? = some (.cells c T z)/\∀i,i<vals.length->c[off+i]? = vals[i]?
def mq(w:World)(b n:Nat):Prop:=∃c T,w.heap[b]? = some (.cells c T (0,0))/\n<=c.size
mutual
def Rep(L:gaa)(F:haa)(w:World):AV->Value->List Nat->Prop
 | .dead,_,fp=>fp=[]
 | .v x,y,fp=>y=x/\fp=[]
 | .str l,y,fp=>y=.string ⟨l.toArray⟩/\l.length<=4611686018427387904/\fp=[]
 | .sl own sz l,y,fp=>((y=.slice none 0 0\/own=false/\∃a,y=.slice (some a) 0 0)/\l=[]/\fp=[]) \/
   ∃b off cap vals fp',y=.slice (some ⟨b,off,none⟩) l.length cap/\l.length<=cap/\l.length<=L sz/\ia w b off vals/\bY L F w sz l vals fp' /\
    (own=true/\fp=b::fp'/\off=0/\mq w b (off+cap * sz)\/own=false/\F b/\fp'=[]/\fp=[])
 | .vp l,y,fp=>fp=[]/\∃b off vals,y=.pointer (some ⟨b,off,none⟩)/\F b/\ia w b off vals/\au L F w l vals []
 | .arr b off len sz,y,fp=>fp=[]/\∃cap,y=.slice (some ⟨b,off,none⟩) len cap/\len<=cap/\len<=L sz/\mq w b (off+cap * sz)
 | .ptr b off,y,fp=>y=.pointer (some ⟨b,off,none⟩)/\fp=[]
 | .agg l,y,fp=>∃vs:List Value,y=.agg vs.toArray/\au L F w l vs fp
 | .tup l,y,fp=>∃vs:List Value,y=.tuple vs.toArray/\au L F w l vs fp
 | .fn f l,y,fp=>∃vs:List Value,y=.func (.func f) #[] vs.toArray/\au L F w l vs fp
 | .cnd g x,y,fp=>(g=true->Rep L F w x y fp)/\(g=false->y=undef/\fp=[])
 | .pin v x,y,fp=>y=v/\Rep L F w x y fp
 | .slo sz l,y,fp=>(y=.slice none 0 0/\l=[]/\fp=[]) \/
   ∃b off cap vals fp',y=.slice (some ⟨b,off,none⟩) l.length cap/\l.length<=cap/\l.length<=L sz/\ia w b off vals/\bY L F w sz l vals fp'/\fp=b::fp'/\mq w b (off+cap * sz)
def au(L:gaa)(F:haa)(w:World):List AV->List Value->List Nat->Prop
 | [],vs,fp=>vs=[]/\fp=[]
 | x::xs,vs,fp=>∃y vs' f1 f2,vs=y::vs'/\fp=f1++f2/\Rep L F w x y f1/\au L F w xs vs' f2
def bY(L:gaa)(F:haa)(w:World)(sz:Nat):List AV->List Value->List Nat->Prop
 | [],vs,fp=>vs=[]/\fp=[]
 | x::xs,vs,fp=>∃y vs' f1 f2,vs=y.cells.toList++vs'/\y.cells.size=sz/\fp=f1++f2/\Rep L F w x y f1/\bY L F w sz xs vs' f2
end
structure Ext(S:haa)(w w':World):Prop where
 size:w.heap.size<=w'.heap.size
 same:∀b,S b->w'.heap[b]? = w.heap[b]?
 shape:∀(b:Nat) (c:Array Value) (T:TypeId) (z:Nat×Nat),w.heap[b]? = some (.cells c T z)->∃c':Array Value,w'.heap[b]? = some (.cells c' T z)/\c'.size=c.size
structure Kp(U:haa)(w w':World):Prop where
 os:w'.os=w.os
 tape:w'.tape=w.tape
 output:w'.output=w.output
 size:w.heap.size<=w'.heap.size
 block:∀k,U k->w'.heap[k]? = w.heap[k]?
 shape:∀(b:Nat) (c:Array Value) (T:TypeId) (z:Nat×Nat),w.heap[b]? = some (.cells c T z)->∃c':Array Value,w'.heap[b]? = some (.cells c' T z)/\c'.size=c.size
def Kp.refl(U:haa)(w:World):Kp U w w:=⟨rfl,rfl,rfl,Nat.le_refl _,λ_ _=>rfl,λ_ c _ _ h=>⟨c,h,rfl⟩⟩
def Kp.trans{U:haa}{a b c:World}(h:Kp U a b)(k:Kp U b c):Kp U a c:=by refine⟨k.os.trans h.os,k.tape.trans h.tape,k.output.trans h.output,Nat.le_trans h.size k.size,λi hi=>(k.block i hi).trans (h.block i hi),λi cc T z hc=>?_⟩;obtain⟨c1,h1,h2⟩:=h.shape i cc T z hc;obtain⟨c2,h3,h4⟩:=k.shape i c1 T z h1;exact⟨c2,h3,by omega⟩
def Kp.mono{U V:haa}{w w':World}(h:Kp U w w')(hU:∀b,V b->U b):Kp V w w':=⟨h.os,h.tape,h.output,h.size,λk hk=>h.block k (hU k hk),h.shape⟩
def Kp.MG{U S:haa}{n:Nat}{w w':World}(h:Below n w w')(he:Ext S w w')(hU:∀b,U b->b<n):Kp U w w':=⟨h.os,h.tape,h.output,h.size,λk hk=>h.block k (hU k hk),he.shape⟩
def ia.ext{S:haa}{w w':World}(h:Ext S w w'){b off:Nat}{vals:List Value}(hb:S b)(r:ia w b off vals):ia w' b off vals:=by obtain⟨c,T,z,hc,hi⟩:=r;exact⟨c,T,z,by rw[h.same b hb];exact hc,hi⟩
def mq.ext{S:haa}{w w':World}(h:Ext S w w'){b n:Nat}(r:mq w b n):mq w' b n:=by obtain⟨c,T,hc,hi⟩:=r;obtain⟨c',h',hs⟩:=h.shape b c T _ hc;exact⟨c',T,h',by omega⟩
mutual
def Rep.ext{L:gaa}{S F F':haa}{w w':World}(h:Ext S w w')(hF:∀b,F b->F' b/\S b):∀ {x:AV} {y:Value} {fp:List Nat},(∀b,b∈fp->S b)->Rep L F w x y fp->Rep L F' w' x y fp
 | .dead,_,_,_,r=>by simpa[Rep]using r
 | .v _,_,_,_,r=>by simpa[Rep]using r
 | .str _,_,_,_,r=>by simpa[Rep]using r
 | .sl own sz l,y,fp,hS,r=>by
  simp only[Rep]at r ⊢;rcases r with r|⟨b,off,cap,vals,fp',hy,h1,h2,hrow,he,ho⟩
  ·exact .inl r
  ·refine .inr ⟨b,off,cap,vals,fp',hy,h1,h2,?_,?_,?_⟩
   ·rcases ho with⟨_,rfl,_⟩|⟨_,hb,_,_⟩
    ·exact hrow.ext h (hS b (by simp))
    ·exact hrow.ext h (hF b hb).2
   ·refine bY.ext h hF (λb' hb'=>?_) he;rcases ho with⟨_,rfl,_⟩|⟨_,hb,rfl,_⟩
    ·exact hS b' (by simp[hb'])
    ·simp at hb'
   ·rcases ho with⟨a,e,o⟩|⟨a,hb,e1,e2⟩
    ·exact .inl ⟨a,e,o.1,o.2.ext h⟩
    ·exact .inr ⟨a,(hF b hb).1,e1,e2⟩
 | .vp l,y,fp,hS,r=>by
  simp only[Rep]at r ⊢;obtain⟨e,b,off,vals,hy,hb,hrow,hl⟩:=r;exact⟨e,b,off,vals,hy,(hF b hb).1,hrow.ext h (hF b hb).2,au.ext h hF (by simp) hl⟩
 | .arr b off len sz,y,fp,_,r=>by
  simp only[Rep]at r ⊢;obtain⟨e,cap,hy,h1,h2,o⟩:=r;exact⟨e,cap,hy,h1,h2,o.ext h⟩
 | .ptr _ _,_,_,_,r=>by simpa[Rep]using r
 | .agg l,y,fp,hS,r=>by
  simp only[Rep]at r ⊢;obtain⟨vs,hy,hl⟩:=r;exact⟨vs,hy,au.ext h hF hS hl⟩
 | .tup l,y,fp,hS,r=>by
  simp only[Rep]at r ⊢;obtain⟨vs,hy,hl⟩:=r;exact⟨vs,hy,au.ext h hF hS hl⟩
 | .fn f l,y,fp,hS,r=>by
  simp only[Rep]at r ⊢;obtain⟨vs,hy,hl⟩:=r;exact⟨vs,hy,au.ext h hF hS hl⟩
 | .cnd g x,y,fp,hS,r=>by
  simp only[Rep]at r ⊢;exact⟨λe=>Rep.ext h hF hS (r.1 e),r.2⟩
 | .pin v x,y,fp,hS,r=>by
  simp only[Rep]at r ⊢;exact⟨r.1,Rep.ext h hF hS r.2⟩
 | .slo sz l,y,fp,hS,r=>by
  simp only[Rep]at r ⊢;rcases r with r|⟨b,off,cap,vals,fp',hy,h1,h2,hrow,he,rfl,o⟩
  ·exact .inl r
  ·exact .inr ⟨b,off,cap,vals,fp',hy,h1,h2,hrow.ext h (hS b (by simp)),bY.ext h hF (λb' hb'=>hS b' (by simp[hb'])) he,rfl,o.ext h⟩
def au.ext{L:gaa}{S F F':haa}{w w':World}(h:Ext S w w')(hF:∀b,F b->F' b/\S b):∀ {l:List AV} {vs:List Value} {fp:List Nat},(∀b,b∈fp->S b)->au L F w l vs fp->au L F' w' l vs fp
 | [],_,_,_,r=>by simpa[au]using r
 | x::xs,vs,fp,hS,r=>by
  simp only[au]at r ⊢;obtain⟨y,vs',f1,f2,hv,rfl,hx,hxs⟩:=r;exact⟨y,vs',f1,f2,hv,rfl,Rep.ext h hF (λb hb=>hS b (by simp[hb])) hx,au.ext h hF (λb hb=>hS b (by simp[hb])) hxs⟩
def bY.ext{L:gaa}{S F F':haa}{w w':World}(h:Ext S w w')(hF:∀b,F b->F' b/\S b){sz:Nat}:∀ {l:List AV} {vs:List Value} {fp:List Nat},(∀b,b∈fp->S b)->bY L F w sz l vs fp->bY L F' w' sz l vs fp
 | [],_,_,_,r=>by simpa[bY]using r
 | x::xs,vs,fp,hS,r=>by
  simp only[bY]at r ⊢;obtain⟨y,vs',f1,f2,hv,hsz,rfl,hx,hxs⟩:=r;exact⟨y,vs',f1,f2,hv,hsz,rfl,Rep.ext h hF (λb hb=>hS b (by simp[hb])) hx,bY.ext h hF (λb hb=>hS b (by simp[hb])) hxs⟩
end
mutual
def AV.frz:AV->AV
 | .sl o sz l=>bif o then .sl false sz (AV.cl l) else .sl false sz l
 | .agg l=>.agg (AV.cl l)
 | .tup l=>.tup (AV.cl l)
 | .fn f l=>.fn f (AV.cl l)
 | .cnd g x=>.cnd g x.frz
 | .pin _ x=>x.frz
 | .slo sz l=>.sl false sz (AV.cl l)
 | x=>x
def AV.cl:List AV->List AV
 | []=>[]
 | x::xs=>x.frz::AV.cl xs
end
def AV.pK(l:List AV):AV.cl l=l.map AV.frz:=by
 induction l with
 | nil=>rfl
 | cons x xs ih=>simp[AV.cl,ih]
mutual
def Rep.frz{L:gaa}{F F':haa}{w:World}(hF:∀b,F b->F' b):∀ {x:AV} {y:Value} {fp:List Nat},(∀b,b∈fp->F' b)->Rep L F w x y fp->Rep L F' w x.frz y []
 | .dead,_,_,_,_=>by simp[Rep,AV.frz]
 | .v _,_,_,_,r=>by simp only[Rep,AV.frz]at r ⊢;exact⟨r.1,by trivial⟩
 | .str _,_,_,_,r=>by simp only[Rep,AV.frz]at r ⊢;exact⟨r.1,r.2.1,by trivial⟩
 | .sl true sz l,y,fp,hS,r=>by
  simp only[Rep,AV.frz,cond_true]at r ⊢;rcases r with⟨r1,rfl,r3⟩|⟨b,off,cap,vals,fp',hy,h1,h2,hrow,he,ho⟩
  ·exact .inl ⟨r1.imp id (λe=>absurd e.1 (by simp)),by simp[AV.cl],by trivial⟩
  ·have hl:(AV.cl l).length=l.length:=by simp[AV.pK]
   refine .inr ⟨b,off,cap,vals,[],by rw[hl];exact hy,by rw[hl];exact h1,by rw[hl];exact h2,hrow,?_,?_⟩
   ·refine bY.frz hF (λb' hb'=>?_) he;rcases ho with⟨_,rfl,_⟩|⟨e,_⟩
    ·exact hS b' (by simp[hb'])
    ·cases e
   ·rcases ho with⟨a,e,o⟩|⟨e,_⟩
    ·exact .inr ⟨by trivial,hS b (by simp[e]),by trivial,by trivial⟩
    ·cases e
 | .sl false sz l,y,fp,hS,r=>by
  simp only[AV.frz,cond_false]
  have h0:fp=[]:=by
   simp only[Rep]at r;rcases r with⟨_,_,e⟩|⟨_,_,_,_,_,_,_,_,_,_,ho⟩
   ·exact e
   ·rcases ho with⟨e,_⟩|⟨_,_,_,e⟩
    ·cases e
    ·exact e
  subst h0;exact Rep.ext (S:=λ_=>True) ⟨Nat.le_refl _,λ_ _=>rfl,λb c T z h=>⟨c,h,rfl⟩⟩ (λb h=>⟨hF b h,trivial⟩) (by simp) r
 | .vp l,y,fp,hS,r=>by
  simp only[Rep,AV.frz]at r ⊢;obtain⟨e,b,off,vals,hy,hb,hrow,hl⟩:=r;refine⟨trivial,b,off,vals,hy,hF b hb,hrow,au.ext (S:=λ_=>True) ⟨Nat.le_refl _,λ_ _=>rfl,λb c T z h=>⟨c,h,rfl⟩⟩ (λb h=>⟨hF b h,trivial⟩) (by simp) hl⟩
 | .arr b off len sz,y,fp,_,r=>by
  simp only[Rep,AV.frz]at r ⊢;exact⟨trivial,r.2⟩
 | .ptr _ _,_,_,_,r=>by simp only[Rep,AV.frz]at r ⊢;exact⟨r.1,by trivial⟩
 | .agg l,y,fp,hS,r=>by
  simp only[Rep,AV.frz]at r ⊢;obtain⟨vs,hy,hl⟩:=r;exact⟨vs,hy,au.frz hF hS hl⟩
 | .tup l,y,fp,hS,r=>by
  simp only[Rep,AV.frz]at r ⊢;obtain⟨vs,hy,hl⟩:=r;exact⟨vs,hy,au.frz hF hS hl⟩
 | .fn f l,y,fp,hS,r=>by
  simp only[Rep,AV.frz]at r ⊢;obtain⟨vs,hy,hl⟩:=r;exact⟨vs,hy,au.frz hF hS hl⟩
 | .cnd g x,y,fp,hS,r=>by
  simp only[Rep,AV.frz]at r ⊢;exact⟨λe=>Rep.frz hF hS (r.1 e),λe=>⟨(r.2 e).1,by trivial⟩⟩
 | .pin v x,y,fp,hS,r=>by
  simp only[Rep,AV.frz]at r ⊢;exact Rep.frz hF hS r.2
 | .slo sz l,y,fp,hS,r=>by
  simp only[Rep,AV.frz]at r ⊢;rcases r with⟨r1,rfl,r3⟩|⟨b,off,cap,vals,fp',hy,h1,h2,hrow,he,rfl,o⟩
  ·exact .inl ⟨.inl r1,by simp[AV.cl],by trivial⟩
  ·have hl:(AV.cl l).length=l.length:=by simp[AV.pK]
   exact .inr ⟨b,off,cap,vals,[],by rw[hl];exact hy,by rw[hl];exact h1,by rw[hl];exact h2,hrow,bY.frz hF (λb' hb'=>hS b' (by simp[hb'])) he,.inr ⟨by trivial,hS b (by simp),by trivial,by trivial⟩⟩
def au.frz{L:gaa}{F F':haa}{w:World}(hF:∀b,F b->F' b):∀ {l:List AV} {vs:List Value} {fp:List Nat},(∀b,b∈fp->F' b)->au L F w l vs fp->au L F' w (AV.cl l) vs []
 | [],_,_,_,r=>by simp only[au,AV.cl]at r ⊢;exact⟨r.1,by trivial⟩
 | x::xs,vs,fp,hS,r=>by
  simp only[au,AV.cl]at r ⊢;obtain⟨y,vs',f1,f2,hv,rfl,hx,hxs⟩:=r;exact⟨y,vs',[],[],hv,rfl,Rep.frz hF (λb hb=>hS b (by simp[hb])) hx,au.frz hF (λb hb=>hS b (by simp[hb])) hxs⟩
def bY.frz{L:gaa}{F F':haa}{w:World}(hF:∀b,F b->F' b){sz:Nat}:∀ {l:List AV} {vs:List Value} {fp:List Nat},(∀b,b∈fp->F' b)->bY L F w sz l vs fp->bY L F' w sz (AV.cl l) vs []
 | [],_,_,_,r=>by simp only[bY,AV.cl]at r ⊢;exact⟨r.1,by trivial⟩
 | x::xs,vs,fp,hS,r=>by
  simp only[bY,AV.cl]at r ⊢;obtain⟨y,vs',f1,f2,hv,hsz,rfl,hx,hxs⟩:=r;exact⟨y,vs',[],[],hv,hsz,rfl,Rep.frz hF (λb hb=>hS b (by simp[hb])) hx,bY.frz hF (λb hb=>hS b (by simp[hb])) hxs⟩
end
inductive Own where
 | none
 | key
 | slot (i:Nat)
 | obj (b:Nat)
def T:faa->Nat->AV
 | [],_=>.dead
 | p::l,i=>bif p.1 == i then p.2 else T l i
def O:List (Nat×Option (List AV))->Nat->Option (List AV)
 | [],_=>none
 | p::l,b=>if p.1=b then p.2 else O l b
structure AS where
 n:Nat
 t:faa
 o:List (Nat×Option (List AV))
def avz:Value->AV
 | .string s=>bif Nat.ble s.data.toList.length 4611686018427387904 then .str s.data.toList else .dead
 | x=>.v x
def ev(t:faa):Operand->AV
 | .tmp i=>T t i
 | .const x=>avz x
 | .global g=>.v (.pointer (some ⟨g,0,none⟩))
 | .func f=>.v (.func (.func f) #[] #[])
def fpo(fp:Nat->List Nat):Operand->List Nat
 | .tmp i=>fp i
 | _=>[]
def put(t:faa)(d:Option Nat)(x:AV):faa :=
 match d with
 | some d=>(d,x)::t
 | none=>t
def killL(t:faa):List Nat->faa
 | []=>t
 | i::C=>(i,.dead)::killL t C
def dn(n:Nat):Option Nat->Bool
 | some d=>Nat.blt d n
 | none=>true
def tabs:Nat->Option (Array Value)
 | 0=>some (Lib.pow10Tab.map λz=>Value.int .u64 z).toArray
 | _=>none
def Tb(L:gaa)(B:haa)(w:World):Prop :=
 ∀(k g:Nat) (c:Array Value),tabs k=some c->g<1048576->L (1000000000+k)=2097152+g->B g/\∃(T:TypeId) (z:Nat×Nat),w.heap[g]? = some (.cells c T z)
def Tb.mono{L:gaa}{B B':haa}{w w':World}(h:Tb L B w)(k:∀b,B b->B' b/\w'.heap[b]? = w.heap[b]?):Tb L B' w':=by intro i g c hc hl hg;obtain⟨hb,T,z,e⟩:=h i g c hc hl hg;exact⟨(k g hb).1,T,z,by rw[(k g hb).2];exact e⟩
def Tb.kp{L:gaa}{B B':haa}{w w':World}(h:Tb L B w)(hk:Kp B w w')(k:∀b,B b->B' b):Tb L B' w':=h.mono λb hb=>⟨k b hb,hk.block b hb⟩
structure nH(L:gaa)(B:haa)(F0:haa)(w0:World)(F:haa)(own:Nat->Own)(fs:Nat->List Nat)(o:List (Nat×Option (List AV)))(w:World):Prop where
 below:Kp B w0 w
 hB:∀b,B b->b<w.heap.size
 tb:Tb L B w0
 f0:∀b,F0 b->F b
 fl:∀b,F b->own b=.none/\b<w.heap.size/\(F0 b\/¬B b)
 ol:∀b,own b≠.none->¬B b/\b<w.heap.size
 obj:∀b cells,O o b=some cells->own b=.key/\(fs b).Nodup/\(∀k,k∈fs b->own k=.obj b) /\
  ∃(c:Array Value) (Ty:TypeId) (vals rest:List Value),w.heap[b]? = some (.cells c Ty (0,0))/\c.toList=vals++rest/\au L F w cells vals (fs b)
structure di(L:gaa)(B:haa)(F0:haa)(w0:World)(F:haa)(own:Nat->Own)(fp fs:Nat->List Nat)(s:AS)(a:Act)(w:World):Prop where
 below:Kp B w0 w
 hB:∀b,B b->b<w.heap.size
 tb:Tb L B w0
 f0:∀b,F0 b->F b
 fl:∀b,F b->own b=.none/\b<w.heap.size/\(F0 b\/¬B b)
 ol:∀b,own b≠.none->¬B b/\b<w.heap.size
 defers:a.defers=[]
 size:a.tmps.size=s.n
 slots:∀i,Rep L F w (T s.t i) (a.tmps.getD i undef) (fp i)
 sn:∀i,(fp i).Nodup
 so:∀i b,b∈fp i->own b=.slot i
 obj:∀b cells,O s.o b=some cells->own b=.key/\(fs b).Nodup/\(∀k,k∈fs b->own k=.obj b) /\
  ∃(c:Array Value) (Ty:TypeId) (vals rest:List Value),w.heap[b]? = some (.cells c Ty (0,0))/\c.toList=vals++rest/\au L F w cells vals (fs b)
def Den(L:gaa)(B:haa)(F0:haa)(w0:World)(s:AS)(a:Act)(w:World):Prop :=
 ∃F own fp fs,di L B F0 w0 F own fp fs s a w
def Ext.mN{w w':World}(h:Below w.heap.size w w'):Ext (λb=>b<w.heap.size) w w':=by
 refine⟨h.size,λb hb=>h.block b hb,λb c T z hc=>⟨c,?_,rfl⟩⟩
 have hb:b<w.heap.size:=by
  rcases Nat.lt_or_ge b w.heap.size with h|h
  ·exact h
  ·rw[Array.getElem?_eq_none h]at hc;cases hc
 rw[h.block b hb];exact hc
def Kept(fp:Nat->List Nat)(C:List Nat)(w:World)(b:Nat):Prop:=b<w.heap.size/\¬ ∃i,i∈C/\b∈fp i
def Kp.mN{fp:Nat->List Nat}{C:List Nat}{w w':World}(h:Below w.heap.size w w'):Kp (Kept fp C w) w w':=Kp.MG h (Ext.mN h) λ_ hb=>hb.1
def I0{L:gaa}{F:haa}{w:World}(x:Value):Rep L F w (avz x) x []:=by
 cases x with
 | string s =>
  simp only[avz]
  cases h:Nat.ble s.data.toList.length 4611686018427387904 with
  | true=>simp only[cond_true,Rep];exact⟨by cases s;simp,Nat.le_of_ble_eq_true h,by trivial⟩
  | false=>simp[Rep]
 | _=>simp[avz,Rep]
def di.ev{L:gaa}{B:haa}{F0:haa}{w0:World}{F:haa}{own:Nat->Own}{fp fs:Nat->List Nat}{s:AS}{a:Act}{w:World}
  (h:di L B F0 w0 F own fp fs s a w) (x:Operand):Rep L F w (ev s.t x) (a.eval x) (fpo fp x):=by
 cases x with
 | tmp i=>exact h.slots i
 | const v=>exact I0 v
 | global g=>simp[Ab.ev,Rep,Act.eval,fpo]
 | func f=>simp[Ab.ev,Rep,Act.eval,fpo]
def mG(t:faa)(d:Option Nat)(x:AV)(i:Nat):T (put t d x) i=if d=some i then x else T t i:=by
 cases d with
 | none=>simp[put]
 | some d =>
  by_cases h:d=i
  ·simp[put,T,h]
  ·have:(d == i)=false:=by simpa using h
   simp[put,T,h,this]
def Ch(t:faa)(C:List Nat)(i:Nat):T (killL t C) i=if i∈C then .dead else T t i:=by
 induction C with
 | nil=>simp[killL]
 | cons j C ih =>
  by_cases h:j=i
  ·simp[killL,T,h]
  ·have:(j == i)=false:=by simpa using h
   have h':¬i=j:=λe=>h e.symm;simp[killL,T,this,ih,h']
def jE(a:Act)(d:Option Nat)(v:Value)(i:Nat)(hd:dn a.tmps.size d=true) :
  (a.put d v).tmps.getD i undef=if d=some i then v else a.tmps.getD i undef:=by
 cases d with
 | none=>simp[Act.put]
 | some d =>
  have hd':d<a.tmps.size:=by simpa[dn]using hd
  simp only[Act.put,Array.getD_eq_getD_getElem?,Array.getElem?_setIfInBounds];by_cases h:d=i
  ·subst h;simp[hd']
  ·simp[h]
section
variable {L : Nat -> Nat} {B : Nat -> Prop} {F0 : Nat -> Prop} {w0 : World} {F : Nat -> Prop} {own : Nat -> Own} {fp fs : Nat -> List Nat} {s : AS} {a : Act} {w : World}
def di.jl(h:di L B F0 w0 F own fp fs s a w){i b:Nat}(hb:b∈fp i):¬B b/\b<w.heap.size :=
 h.ol b (by rw[h.so i b hb];simp)
def di.put(h:di L B F0 w0 F own fp fs s a w){w':World}{F':haa}{x:AV}{v:Value}{fx:List Nat}(C:List Nat)(d:Option Nat)
  (hd:dn s.n d=true) (hb:Kp (Kept fp C w) w w') (hF:∀b,F b->F' b) (hF':∀b,F' b->F b\/(w.heap.size<=b/\b<w'.heap.size)\/∃i,i∈C/\b∈fp i)
  (hx:Rep L F' w' x v fx) (hn:fx.Nodup) (hfx:∀b,b∈fx->¬F' b/\((∃i,i∈C/\b∈fp i)\/(w.heap.size<=b/\b<w'.heap.size))) :
  Den L B F0 w0 ⟨s.n,Ab.put (killL s.t C) d x,s.o⟩ (a.put d v) w':=by
 have cV:Ext (Kept fp C w) w w':=⟨hb.size,hb.block,hb.shape⟩
 have hsz:=hb.size
 have hB:=h.hB
 have hFS:∀b,F b->F' b/\Kept fp C w b:=λb hb'=>⟨hF b hb',(h.fl b hb').2.1,λ⟨i,_,hbi⟩=>by have e1:=(h.fl b hb').1;rw[h.so i b hbi]at e1;cases e1⟩
 classical
 let own':Nat->Own:=λb=>if b∈fx then (match d with|some d=>.slot d|none=>.none) else if (∃i,i∈C/\b∈fp i) then .none else own b
 have GV:∀b,own b≠.none->(∀i,i∈C->own b≠.slot i)->b ∉ fx/\¬ ∃i,i∈C/\b∈fp i:=by
  intro b h1 h2;have h3:¬ ∃i,i∈C/\b∈fp i:=λ⟨i,hi,hbi⟩=>h2 i hi (h.so i b hbi);refine⟨λhbx=>?_,h3⟩;rcases(hfx b hbx).2 with e|⟨h4,_⟩
  ·exact h3 e
  ·have:=(h.ol b h1).2;omega
 refine⟨F',own',λi=>if d=some i then fx else if i∈C then [] else fp i,fs,?_⟩;refine { below:=?_,hB:=λb hb'=>Nat.lt_of_lt_of_le (hB b hb') hsz,tb:=h.tb,f0:=λb hb'=>hF b (h.f0 b hb'),fl:=?_,ol:=?_,defers:=?_,size:=?_,slots:=?_,sn:=?_,so:=?_,obj:=?_ }
 ·exact h.below.trans (hb.mono λb hb'=>⟨hB b hb',λ⟨i,_,hbi⟩=>(h.jl hbi).1 hb'⟩)
 ·intro b hb';have hnx:b ∉ fx:=λhbx=>(hfx b hbx).1 hb';rcases hF' b hb' with h4|h4|⟨i,hi,hbi⟩
  ·refine⟨?_,by have:=(h.fl b h4).2.1;omega,(h.fl b h4).2.2⟩;have:¬ ∃i,i∈C/\b∈fp i:=λ⟨i,hi,hbi⟩=>by have e1:=(h.fl b h4).1;rw[h.so i b hbi]at e1;cases e1
   simp only[own',if_neg hnx,if_neg this];exact(h.fl b h4).1
  ·refine⟨?_,h4.2,.inr λe=>by have:=hB b e;omega⟩;have:¬ ∃i,i∈C/\b∈fp i:=λ⟨i,hi,hbi⟩=>by have:=(h.jl hbi).2;omega
   simp only[own',if_neg hnx,if_neg this];rcases Classical.em (own b=.none)with e|e
   ·exact e
   ·have:=(h.ol b e).2;omega
  ·have:=h.jl hbi;exact⟨by simp only[own',if_neg hnx];rw[if_pos ⟨i,hi,hbi⟩],by omega,.inr this.1⟩
 ·intro b hb';simp only[own']at hb';by_cases hbx:b∈fx
  ·rcases(hfx b hbx).2 with⟨i,hi,hbi⟩|⟨h3,h4⟩
   ·have:=h.jl hbi;exact⟨this.1,by omega⟩
   ·exact⟨λe=>by have:=hB b e;omega,h4⟩
  ·rw[if_neg hbx]at hb';by_cases e:∃i,i∈C/\b∈fp i
   ·rw[if_pos e]at hb';exact absurd rfl hb'
   ·rw[if_neg e]at hb';have:=h.ol b hb';exact⟨this.1,by omega⟩
 ·cases d<;>simpa[Act.put]using h.defers
 ·cases d<;>simpa[Act.put]using h.size
 ·intro i;simp only[mG,Ch];rw[jE a d v i (by rw[h.size];exact hd)];by_cases e:d=some i
  ·simp only[e,if_true];exact hx
  ·simp only[if_neg e];by_cases hi:i∈C
   ·simp only[if_pos hi];simp[Rep]
   ·simp only[if_neg hi];exact Rep.ext cV hFS (λb hb'=>⟨(h.jl hb').2,λ⟨j,hj,hbj⟩=>by have e1:=h.so i b hb';rw[h.so j b hbj]at e1;cases e1;exact hi hj⟩) (h.slots i)
 ·intro i;split
  ·exact hn
  ·split
   ·simp
   ·exact h.sn i
 ·intro i b hb';by_cases e:d=some i
  ·subst e;simp only[if_true]at hb';simp only[own',if_pos hb']
  ·rw[if_neg e]at hb';by_cases hi:i∈C
   ·rw[if_pos hi]at hb';simp at hb'
   ·rw[if_neg hi]at hb';have ho:=h.so i b hb'
    have:=GV b (by rw[ho];simp) (λj hj e=>by rw[ho]at e;cases e;exact hi hj);simp only[own',if_neg this.1,if_neg this.2];exact ho
 ·intro b cells hO;obtain⟨h1,h2,h3,c,Ty,vals,rest,h4,h5,h6⟩:=h.obj b cells hO;have hlt:=(h.ol b (by rw[h1];simp)).2;refine⟨?_,h2,?_,c,Ty,vals,rest,?_,h5,?_⟩
  ·have:=GV b (by rw[h1];simp) (λj _ e=>by rw[h1]at e;cases e);simp only[own',if_neg this.1,if_neg this.2];exact h1
  ·intro k hk;have ho:=h3 k hk
   have:=GV k (by rw[ho];simp) (λj _ e=>by rw[ho]at e;cases e);simp only[own',if_neg this.1,if_neg this.2];exact ho
  ·rw[hb.block b ⟨hlt,λ⟨i,_,hbi⟩=>by have e1:=h.so i b hbi;rw[h1]at e1;cases e1⟩];exact h4
  ·refine au.ext cV hFS (λk hk=>?_) h6;exact⟨(h.ol k (by rw[h3 k hk];simp)).2,λ⟨i,_,hbi⟩=>by have e1:=h.so i k hbi;rw[h3 k hk]at e1;cases e1⟩
def di.C9(h:di L B F0 w0 F own fp fs s a w){i b:Nat}(hb:b∈fp i):¬F b:=λhf=>by
 have e1:=(h.fl b hf).1;rw[h.so i b hb]at e1;cases e1
end
mutual
def AV.du:AV->Bool
 | .sl o _ _=>!o
 | .agg l=>AV.nownL l
 | .tup l=>AV.nownL l
 | .fn _ l=>AV.nownL l
 | .cnd _ x=>x.du
 | .pin _ x=>x.du
 | .slo _ _=>false
 | _=>true
def AV.nownL:List AV->Bool
 | []=>true
 | x::xs=>x.du && AV.nownL xs
end
mutual
def Rep.eK{L:gaa}{F:haa}{w:World}:∀ {x:AV} {y:Value} {fp:List Nat},x.du=true->Rep L F w x y fp->fp=[]
 | .dead,_,_,_,r=>by simpa[Rep]using r
 | .v _,_,_,_,r=>by simp only[Rep]at r;exact r.2
 | .str _,_,_,_,r=>by simp only[Rep]at r;exact r.2.2
 | .sl own sz l,y,fp,h,r=>by
  simp only[Rep]at r;simp[AV.du]at h;subst h;rcases r with⟨_,_,e⟩|⟨b,off,cap,vals,fp',_,_,_,_,_,ho⟩
  ·exact e
  ·rcases ho with⟨e,_⟩|⟨_,_,_,e⟩
   ·cases e
   ·exact e
 | .vp l,_,_,_,r=>by simp only[Rep]at r;exact r.1
 | .arr ..,_,_,_,r=>by simp only[Rep]at r;exact r.1
 | .ptr ..,_,_,_,r=>by simp only[Rep]at r;exact r.2
 | .agg l,y,fp,h,r=>by
  simp only[Rep]at r;obtain⟨vs,_,hl⟩:=r;exact au.eK (by simpa[AV.du]using h) hl
 | .tup l,y,fp,h,r=>by
  simp only[Rep]at r;obtain⟨vs,_,hl⟩:=r;exact au.eK (by simpa[AV.du]using h) hl
 | .fn f l,y,fp,h,r=>by
  simp only[Rep]at r;obtain⟨vs,_,hl⟩:=r;exact au.eK (by simpa[AV.du]using h) hl
 | .cnd g x,y,fp,h,r=>by
  simp only[Rep]at r
  cases g with
  | true=>exact Rep.eK (by simpa[AV.du]using h) (r.1 rfl)
  | false=>exact(r.2 rfl).2
 | .pin v x,y,fp,h,r=>by
  simp only[Rep]at r;exact Rep.eK (by simpa[AV.du]using h) r.2
 | .slo ..,_,_,h,_=>by simp[AV.du]at h
def au.eK{L:gaa}{F:haa}{w:World}:∀ {l:List AV} {vs:List Value} {fp:List Nat},AV.nownL l=true->au L F w l vs fp->fp=[]
 | [],_,_,_,r=>by simp only[au]at r;exact r.2
 | x::xs,vs,fp,h,r=>by
  simp only[au]at r;obtain⟨y,vs',f1,f2,_,rfl,hx,hxs⟩:=r;simp[AV.nownL]at h;rw[Rep.eK h.1 hx,au.eK h.2 hxs];rfl
end
def kills(t:faa):List Operand->List Nat
 | []=>[]
 | .tmp i::xs=>bif (T t i).du then kills t xs else i::kills t xs
 | _::xs=>kills t xs
def DV{t:faa}{xs:List Operand}{i:Nat}(h:.tmp i∈xs)(ho:(T t i).du=false):i∈kills t xs:=by
 induction xs with
 | nil=>cases h
 | cons x xs ih =>
  cases h with
  | head=>simp[kills,ho]
  | tail _ h =>
   have:=ih h;cases x<;>simp only[kills]<;>first|exact this|(cases (T t _).du<;>simp[this])
def OpW(L:gaa)(P:Program)(o:Oper)(s:AS)(K:AS->Prop):Prop :=
 ∀B F0 w0 a w next Q,Den L B F0 w0 s a w->(∀s' a' w',K s'->Den L B F0 w0 s' a' w'->next a' w')->o.wp P a w next Q
structure EX(L:gaa)(F:haa)(fp:Nat->List Nat)(C:List Nat)(w:World)(x:AV)(v:Value)(w':World):Prop where
 below:Kp (Kept fp C w) w w'
 rep:∃F' fx,(∀b,F b->F' b)/\(∀b,F' b->F b\/(w.heap.size<=b/\b<w'.heap.size)\/∃i,i∈C/\b∈fp i)/\Rep L F' w' x v fx/\fx.Nodup /\
  ∀b,b∈fx->¬F' b/\((∃i,i∈C/\b∈fp i)\/(w.heap.size<=b/\b<w'.heap.size))
def LOp(L:gaa)(P:Program)(s:AS)(o:Oper)(x:AV)(C:List Nat):Prop :=
 ∀B F0 w0 F own fp fs a w next Q,di L B F0 w0 F own fp fs s a w->(∀v w',EX L F fp C w x v w'->next (a.put o.dst v) w')->o.wp P a w next Q
def LOp.opW{L:gaa}{P:Program}{s:AS}{o:Oper}{x:AV}{C:List Nat}(h:LOp L P s o x C)(hd:dn s.n o.dst=true){K:AS->Prop}
  (hK:K ⟨s.n,put (killL s.t C) o.dst x,s.o⟩):OpW L P o s K:=by
 intro B F0 w0 a w next Q cH bZ
 obtain⟨F,own,fp,fs,cH⟩:=cH;refine h B F0 w0 F own fp fs a w next Q cH λv w' g=>bZ _ _ _ hK ?_
 obtain⟨F',fx,h1,h2,h3,h4,h5⟩:=g.rep;exact cH.put C o.dst hd g.below h1 h2 h3 h4 h5
def LOp.of_run{L:gaa}{P:Program}{s:AS}{o:Oper}{x:AV}{C:List Nat}
  (h:∀B F0 w0 F own fp fs a w,di L B F0 w0 F own fp fs s a w->∃v fx,(execOp a.eval o).run P w=.ok (.value v) w/\Rep L F w x v fx/\fx.Nodup/\∀b,b∈fx->∃i,i∈C/\b∈fp i) :
  LOp L P s o x C:=by
 intro B F0 w0 F own fp fs a w next Q cH bZ
 obtain⟨v,fx,hr,hx,hn,hfx⟩:=h B F0 w0 F own fp fs a w cH;unfold Oper.wp;rw[hr];exact bZ v w ⟨Kp.refl _ _,F,fx,λ_ h=>h,λ_ h=>.inl h,hx,hn,λb hb=>⟨(hfx b hb).elim λi hi=>cH.C9 hi.2,.inl (hfx b hb)⟩⟩
def LOp.iU{L:gaa}{P:Program}{s:AS}{o:Oper}{x:AV}
  (h:∀B F0 w0 F own fp fs a w,di L B F0 w0 F own fp fs s a w->∃v,(execOp a.eval o).run P w=.ok (.value v) w/\Rep L F w x v []) :
  LOp L P s o x []:=by
 refine LOp.of_run λB F0 w0 F own fp fs a w cH=>?_;obtain⟨v,hr,hx⟩:=h B F0 w0 F own fp fs a w cH;exact⟨v,[],hr,hx,by simp,by simp⟩
def gY{L:gaa}{B:haa}{F0:haa}{w0:World}{F:haa}{own:Nat->Own}{fp fs:Nat->List Nat}{s:AS}{a:Act}{w:World}
  (h:di L B F0 w0 F own fp fs s a w) {x:Operand} {xs:List Operand} (hx:x∈xs):∀b,b∈fpo fp x->∃i,i∈kills s.t xs/\b∈fp i:=by
 intro b hb
 cases x with
 | tmp i =>
  simp only[fpo]at hb
  cases ho:(T s.t i).du with
  | true=>rw[Rep.eK ho (h.slots i)]at hb;simp at hb
  | false=>exact⟨i,DV hx ho,hb⟩
 | const _=>simp[fpo]at hb
 | global _=>simp[fpo]at hb
 | func _=>simp[fpo]at hb
def mU{L:gaa}{B:haa}{F0:haa}{w0:World}{F:haa}{own:Nat->Own}{fp fs:Nat->List Nat}{s:AS}{a:Act}{w:World}
  (h:di L B F0 w0 F own fp fs s a w) (x:Operand):(fpo fp x).Nodup:=by
 cases x with
 | tmp i=>exact h.sn i
 | _=>simp[fpo]
section ops
variable {L : Nat -> Nat} {P : Program} {s : AS} {o : Oper}
def Gg{x:Operand}(ho:o.op=.move x\/o.op=.assign x):LOp L P s o (ev s.t x) (kills s.t [x]):=by
 refine LOp.of_run λB F0 w0 F own fp fs a w h=>⟨a.eval x,fpo fp x,?_,h.ev x,mU h x,gY h (by simp)⟩
 rcases ho with ho|ho<;>simp[execOp,ho]
def kL{z:Value}(h:∀B F0 w0 F own fp fs a w,di L B F0 w0 F own fp fs s a w->(execOp a.eval o).run P w=.ok (.value z) w):LOp L P s o (.v z) [] :=
 LOp.iU λB F0 w0 F own fp fs a w hd=>⟨z,h B F0 w0 F own fp fs a w hd,by simp[Rep]⟩
def di.val{B:haa}{F0:haa}{w0:World}{F:haa}{own:Nat->Own}{fp fs:Nat->List Nat}{a:Act}{w:World}
  (h:di L B F0 w0 F own fp fs s a w) {x:Operand} {y:Value} (hx:Ab.ev s.t x=.v y):a.eval x=y:=by
 have:=h.ev x;rw[hx]at this;simp only[Rep]at this;exact this.1
def di.wR{B:haa}{F0:haa}{w0:World}{F:haa}{own:Nat->Own}{fp fs:Nat->List Nat}{a:Act}{w:World}
  (h:di L B F0 w0 F own fp fs s a w) {x:Operand} {l:List UInt8} (hx:Ab.ev s.t x=.str l):a.eval x=.string ⟨l.toArray⟩/\l.length<=4611686018427387904:=by
 have:=h.ev x;rw[hx]at this;simp only[Rep]at this;exact⟨this.1,this.2.1⟩
def vw{l:List UInt8}(h:∀B F0 w0 F own fp fs a w,di L B F0 w0 F own fp fs s a w->(execOp a.eval o).run P w=.ok (.value (.string ⟨l.toArray⟩)) w/\l.length<=4611686018427387904):LOp L P s o (.str l) [] :=
 LOp.iU λB F0 w0 F own fp fs a w hd=>⟨_,(h B F0 w0 F own fp fs a w hd).1,by simp only[Rep];exact⟨by trivial,(h B F0 w0 F own fp fs a w hd).2,by trivial⟩⟩
def CL{op:BinOp}{ty ty':TypeId}{x y:Operand}{u v z:Value}(ho:o.op=.binOp op ty x y ty')(hx:ev s.t x=.v u)(hy:ev s.t y=.v v)
  (hr:∀w,(do eqGuard op ty x y u v;binOp op ty u v:Sem Value).run P w=.ok z w):LOp L P s o (.v z) []:=by
 refine kL λB F0 w0 F own fp fs a w h=>?_;have:=hr w;simp only[execOp,ho,h.val hx,h.val hy];rw[Sem.run_bind,this];rfl
def Vx{op:UnOp}{ty:TypeId}{x:Operand}{u z:Value}(ho:o.op=.unOp op ty x)(hx:ev s.t x=.v u)
  (hr:∀w,(Op.unary op u).run P w=.ok z w):LOp L P s o (.v z) []:=by
 refine kL λB F0 w0 F own fp fs a w h=>?_;simp only[execOp,ho,h.val hx];rw[Sem.run_bind,hr w];rfl
end ops
def AV.hdr:AV->AV
 | .pin u _=>.v u
 | x=>x
def gu:List AV->List AV
 | []=>[]
 | x::xs=>x.hdr::gu xs
def AV.cpy:AV->AV
 | .pin u _=>.v u
 | .agg l=>.agg (gu l)
 | x=>x
def AV.aa6:AV->Option Value
 | .pin u _=>some u
 | _=>none
def au.P3{L:gaa}{F:haa}{w:World}:∀ {l:List AV} {vs:List Value} {fp:List Nat},au L F w l vs fp->∃fp',au L F w (gu l) vs fp'
 | [],_,fp,h=>⟨fp,h⟩
 | x::xs,vs,fp,h=>by
  simp only[au,gu]at h ⊢;obtain⟨y,vs',f1,f2,rfl,_,hx,hxs⟩:=h;obtain⟨f2',h2⟩:=hxs.P3
  cases x with
  | pin v x=>simp only[Rep]at hx;exact⟨[]++f2',y,vs',[],f2',rfl,rfl,by simp only[AV.hdr,Rep];exact⟨hx.1,by trivial⟩,h2⟩
  | _=>exact⟨f1++f2',y,vs',f1,f2',rfl,rfl,hx,h2⟩
def Rep.cpy{L:gaa}{F:haa}{w:World}{y:AV}{v:Value}{f:List Nat}(hn:y.cpy.du=true)(h:Rep L F w y v f):Rep L F w y.cpy v []:=by
 have:∃f',Rep L F w y.cpy v f':=by
  cases y with
  | pin u x=>simp only[Rep]at h;exact⟨[],by simp only[AV.cpy,Rep];exact⟨h.1,by trivial⟩⟩
  | agg l =>
   simp only[Rep]at h;obtain⟨vs,e,hl⟩:=h;obtain⟨f',hf⟩:=hl.P3;exact⟨f',by simp only[AV.cpy,Rep];exact⟨vs,e,hf⟩⟩
  | _=>exact⟨f,h⟩
 obtain⟨f',hf⟩:=this;rw[Rep.eK hn hf]at hf;exact hf
section lists
variable {L : Nat -> Nat} {F : Nat -> Prop} {w : World}
def au.len:∀ {l:List AV} {vs:List Value} {fp:List Nat},au L F w l vs fp->vs.length=l.length
 | [],_,_,r=>by simp only[au]at r;simp[r.1]
 | x::xs,vs,fp,r=>by
  simp only[au]at r;obtain⟨y,vs',f1,f2,rfl,rfl,hx,hxs⟩:=r;simp[au.len hxs]
def au.get:∀ {l:List AV} {vs:List Value} {fp:List Nat} {i:Nat} {x:AV},au L F w l vs fp->l[i]? = some x->∃y f,vs[i]? = some y/\Rep L F w x y f/\∀b,b∈f->b∈fp
 | [],_,_,_,_,_,h=>by simp at h
 | x::xs,vs,fp,i,z,r,h=>by
  simp only[au]at r;obtain⟨y,vs',f1,f2,rfl,rfl,hx,hxs⟩:=r
  cases i with
  | zero=>simp at h;subst h;exact⟨y,f1,by simp,hx,λb hb=>by simp[hb]⟩
  | succ i =>
   obtain⟨y',f,h1,h2,h3⟩:=au.get hxs (i:=i) (by simpa using h);exact⟨y',f,by simpa using h1,h2,λb hb=>by simp[h3 b hb]⟩
def au.split:∀ {l1 l2:List AV} {vs:List Value} {fp:List Nat},au L F w (l1++l2) vs fp->∃v1 v2 f1 f2,vs=v1++v2/\fp=f1++f2/\au L F w l1 v1 f1/\au L F w l2 v2 f2
 | [],l2,vs,fp,r=>⟨[],vs,[],fp,rfl,rfl,by simp[au],r⟩
 | x::xs,l2,vs,fp,r=>by
  simp only[cons_append,au]at r;obtain⟨y,vs',f1,f2,rfl,rfl,hx,hxs⟩:=r;obtain⟨v1,v2,g1,g2,rfl,rfl,h1,h2⟩:=au.split hxs;exact⟨y::v1,v2,f1++g1,g2,rfl,by simp,by simp only[au];exact⟨y,v1,f1,g1,rfl,rfl,hx,h1⟩,h2⟩
def au.join:∀ {l1 l2:List AV} {v1 v2:List Value} {f1 f2:List Nat},au L F w l1 v1 f1->au L F w l2 v2 f2->au L F w (l1++l2) (v1++v2) (f1++f2)
 | [],l2,v1,v2,f1,f2,r1,r2=>by simp only[au]at r1;obtain⟨rfl,rfl⟩:=r1;exact r2
 | x::xs,l2,v1,v2,f1,f2,r1,r2=>by
  simp only[cons_append,au]at r1 ⊢;obtain⟨y,vs',g1,g2,rfl,rfl,hx,hxs⟩:=r1;exact⟨y,vs'++v2,g1,g2++f2,rfl,by simp,hx,au.join hxs r2⟩
def au.cut{l:List AV}{vs:List Value}{fp:List Nat}(r:au L F w l vs fp)(i n:Nat):∃f,au L F w ((l.drop i).take n) ((vs.drop i).take n) f/\∀b,b∈f->b∈fp:=by
 have hl:=r.len
 have e1:l=l.take i++((l.drop i).take n++(l.drop i).drop n):=by rw[take_append_drop,take_append_drop]
 rw[e1]at r;obtain⟨v1,v23,f1,f23,rfl,rfl,r1,r23⟩:=r.split;obtain⟨v2,v3,f2,f3,rfl,rfl,r2,r3⟩:=r23.split;have h1:=r1.len
 have h2:=r2.len;refine⟨f2,?_,λb hb=>by simp[hb]⟩
 have e2:((v1++(v2++v3)).drop i).take n=v2:=by
  simp only[length_take,length_drop]at h1 h2;have h3:=r3.len;simp only[length_drop]at h3;by_cases hi:i<=l.length
  ·have hv1:v1.length=i:=by omega
   rw[<- hv1,drop_left];by_cases hn:n<=l.length - i
   ·have hv2:v2.length=n:=by omega
    rw[<- hv2,take_left]
   ·have hv3:v3=[]:=eq_nil_of_length_eq_zero (by omega);subst hv3;rw[append_nil,take_of_length_le (by omega)]
  ·have hv2:v2=[]:=eq_nil_of_length_eq_zero (by omega)
   have hv3:v3=[]:=eq_nil_of_length_eq_zero (by omega);subst hv2 hv3;have:v1.drop i=[]:=drop_eq_nil_of_le (by omega);simp[this]
 rw[e2];exact r2
end lists
def fW(b off n:Nat):(⟨b,off,none⟩:Addr).add n=⟨b,off+n,none⟩:=by unfold Addr.add;split<;>simp_all
def ia.cell{w:World}{b off:Nat}{vals:List Value}(h:ia w b off vals){i:Nat}{v:Value}(hi:vals[i]? = some v):w.cell? ⟨b,off+i,none⟩=some v:=by
 obtain⟨c,T,z,hc,hr⟩:=h
 have hlt:i<vals.length:=by
  rcases Nat.lt_or_ge i vals.length with h|h
  ·exact h
  ·rw[getElem?_eq_none h]at hi;cases hi
 simp[World.cell?,hc,hr i hlt,hi]
def ia.cut{w:World}{b off:Nat}{vals:List Value}(h:ia w b off vals)(i n:Nat):ia w b (off+i) ((vals.drop i).take n):=by obtain⟨c,T,z,hc,hr⟩:=h;refine⟨c,T,z,hc,λj hj=>?_⟩;simp only[length_take,length_drop]at hj;have:=hr (i+j) (by omega);rw[Nat.add_assoc,this,getElem?_take,if_pos (by omega),getElem?_drop]
def ia.load{P:Program}{w:World}{b off:Nat}{vals:List Value}(h:ia w b off vals):(loadCells ⟨b,off,none⟩ vals.length).run P w=.ok vals.toArray w :=
 run_loadCells_list (P:=P) w _ vals λj v hj=>by rw[fW];exact h.cell hj
def ty(P:Program)(t:TypeId):Option (Bool×Nat) :=
 match P.underlying t,P.info? t with
 | some d,some i=>some ((match d with|.struct _|.array _ _=>true|_=>false),i.size)
 | _,_=>none
def rA{P:Program}{t:TypeId}{g:Bool}{n:Nat}(h:ty P t=some (g,n))(w:World):(isAgg t).run P w=.ok g w/\(sizeOf t).run P w=.ok n w:=by
 unfold ty at h
 cases hu:P.underlying t with
 | none=>simp[hu]at h
 | some d =>
  cases hi:P.info? t with
  | none=>simp[hu,hi]at h
  | some i =>
   simp[hu,hi]at h;obtain⟨rfl,rfl⟩:=h;constructor
   ·cases d<;>simp[isAgg,run_underlying hu]
   ·simp[sizeOf,typeInfo,hi]
def fld(P:Program)(t:TypeId)(k:Nat):Option (Nat×Bool×Nat) :=
 match P.underlying t with
 | some (.struct fs)=>match fs[k]? with
  | some f=>match ty P f.type with
   | some (g,n)=>some (f.offset,g,n)
   | none=>none
  | none=>none
 | _=>none
def uD{P:Program}{t:TypeId}{k off n:Nat}{g:Bool}(h:fld P t k=some (off,g,n)) :
  ∃fs f,P.underlying t=some (.struct fs)/\fs[k]? = some f/\ty P f.type=some (g,n)/\f.offset=off:=by
 unfold fld at h;split at h
 ·rename_i fs hfs;split at h
  ·rename_i f hf;split at h
   ·rename_i g' n' hty;simp at h;obtain⟨rfl,rfl,rfl⟩:=h;exact⟨fs,f,hfs,hf,hty,rfl⟩
   ·cases h
  ·cases h
 ·cases h
def val(g:Bool)(n:Nat)(cells:List AV):Option AV :=
 bif g then (bif Nat.ble n cells.length then some (.agg (cells.take n)) else none) else cells.head?
section ops
variable {L : Nat -> Nat} {P : Program} {s : AS} {o : Oper}
def Cn{F:haa}{w:World}{cells:List AV}{vals:List Value}{fp:List Nat}{g:Bool}{n:Nat}{y:AV}(r:au L F w cells vals fp)(h:val g n cells=some y) :
  (g=true/\n<=vals.length/\∃f,Rep L F w y (.agg (vals.take n).toArray) f/\∀b,b∈f->b∈fp)\/(g=false/\∃u f,vals[0]? = some u/\Rep L F w y u f/\∀b,b∈f->b∈fp):=by
 unfold val at h
 cases g with
 | true =>
  left
  cases hn:Nat.ble n cells.length with
  | false=>simp[hn]at h
  | true =>
   simp[hn]at h;subst h;obtain⟨f,hf,hsub⟩:=r.cut 0 n;simp only[drop_zero]at hf;exact⟨rfl,by rw[r.len];exact Nat.le_of_ble_eq_true hn,f,by simp only[Rep];exact⟨_,rfl,hf⟩,hsub⟩
 | false =>
  right;simp at h;obtain⟨u,f,h1,h2,h3⟩:=r.get (i:=0) (x:=y) (by rw[<- head?_eq_getElem?];exact h);exact⟨rfl,u,f,h1,h2,h3⟩
def BF{xt:TypeId}{x:Operand}{k off n:Nat}{g:Bool}{cells:List AV}{y z:AV}(ho:o.op=.field xt x k)(hx:ev s.t x=.agg cells)
  (hf:fld P xt k=some (off,g,n)) (hy:val g n (cells.drop off)=some y) (hown:∀(F:haa) (w:World) (v:Value) (f:List Nat),Rep L F w y v f->Rep L F w z v []):LOp L P s o z []:=by
 obtain⟨fs,f,hu,hk,ht,rfl⟩:=uD hf;refine LOp.iU λB F0 w0 F own fp fs' a w h=>?_;have hr:=h.ev x;rw[hx]at hr;simp only[Rep]at hr;obtain⟨vs,hv,hl⟩:=hr
 have C3:∃f',au L F w (cells.drop f.offset) (vs.drop f.offset) f':=by
  obtain⟨f',h1,_⟩:=hl.cut f.offset (cells.length+vs.length);rw[take_of_length_le (by simp;omega),take_of_length_le (by simp;omega)]at h1;exact⟨f',h1⟩
 obtain⟨f',C3⟩:=C3;obtain⟨ha,hs⟩:=rA ht w;rcases Cn C3 hy with⟨rfl,hn,f2,r2,_⟩|⟨rfl,u,f2,hu2,r2,_⟩
 ·refine⟨_,?_,hown _ _ _ _ r2⟩;simp only[execOp,ho,hv,Instr.field,Sem.run_bind,run_underlying hu,Result.andThen_ok,hk,asAgg,Sem.run_pure,part,ha,if_true,hs];simp[extract_eq_take_drop]
 ·refine⟨u,?_,hown _ _ _ _ r2⟩;have:vs[f.offset]? = some u:=by simpa using hu2
  simp[execOp,ho,hv,Instr.field,run_underlying hu,hk,asAgg,part,ha,this]
def MO{xt:TypeId}{x:Operand}{k off n:Nat}{g:Bool}{cells:List AV}{y:AV}(ho:o.op=.field xt x k)(hx:ev s.t x=.agg cells)
  (hf:fld P xt k=some (off,g,n)) (hy:val g n (cells.drop off)=some y) (hown:y.du=true):LOp L P s o y [] :=
 BF ho hx hf hy λ_ _ _ _ r=>by rw[Rep.eK hown r]at r;exact r
def zV{xt:TypeId}{x:Operand}{k off n:Nat}{g:Bool}{cells:List AV}(ho:o.op=.fieldAddr xt x k)(hx:ev s.t x=.vp cells)
  (hf:fld P xt k=some (off,g,n)) (hn:Nat.blt 0 n=true):LOp L P s o (.vp (cells.drop off)) []:=by
 obtain⟨fs,f,hu,hk,ht,rfl⟩:=uD hf;have hn':¬n=0:=by simp at hn;omega
 refine LOp.iU λB F0 w0 F own fp fs' a w h=>?_;have hr:=h.ev x;rw[hx]at hr;simp only[Rep]at hr;obtain⟨_,b,o',vals,hv,hb,hrow,hl⟩:=hr;obtain⟨ha,hs⟩:=rA ht w;refine⟨.pointer (some ⟨b,o'+f.offset,none⟩),?_,?_⟩
 ·simp[execOp,ho,hv,Instr.fieldAt,run_underlying hu,hk,Instr.sureAddr,fieldPlace,hs,hn',fW]
 ·simp only[Rep];refine⟨trivial,b,_,vals.drop f.offset,rfl,hb,?_,?_⟩
  ·have:=hrow.cut f.offset vals.length;rw[take_of_length_le (by simp)]at this;exact this
  ·obtain⟨f',h1,h2⟩:=hl.cut f.offset (cells.length+vals.length);rw[take_of_length_le (by simp;omega),take_of_length_le (by simp;omega)]at h1;have:f'=[]:=List.eq_nil_iff_forall_not_mem.2 λb hb=>by simpa using h2 b hb
   rw[this]at h1;exact h1
def yZ{xt:TypeId}{x:Operand}{k off n b o':Nat}{g:Bool}(ho:o.op=.fieldAddr xt x k)(hx:ev s.t x=.ptr b o')
  (hf:fld P xt k=some (off,g,n)) (hn:Nat.blt 0 n=true):LOp L P s o (.ptr b (o'+off)) []:=by
 obtain⟨fs,f,hu,hk,ht,rfl⟩:=uD hf;have hn':¬n=0:=by simp at hn;omega
 refine LOp.iU λB F0 w0 F own fp fs' a w h=>?_;have hr:=h.ev x;rw[hx]at hr;simp only[Rep]at hr;obtain⟨ha,hs⟩:=rA ht w;refine⟨.pointer (some ⟨b,o'+f.offset,none⟩),?_,by simp[Rep]⟩;simp[execOp,ho,hr.1,Instr.fieldAt,run_underlying hu,hk,Instr.sureAddr,fieldPlace,hs,hn',fW]
def vz{w:World}{t:TypeId}{g:Bool}{n b off:Nat}{vals:List Value}(ht:ty P t=some (g,n))(hrow:ia w b off vals) :
  (g=true->n<=vals.length->(loadVar t ⟨b,off,none⟩).run P w=.ok (.agg (vals.take n).toArray) w) /\
  (g=false->∀u,vals[0]? = some u->(loadVar t ⟨b,off,none⟩).run P w=.ok u w):=by
 obtain⟨ha,hs⟩:=rA ht w;constructor
 ·rintro rfl hn;have h1:=(hrow.cut 0 n).load (P:=P);simp only[drop_zero,Nat.add_zero,length_take,Nat.min_eq_left hn]at h1;simp[loadVar,ha,hs,h1]
 ·rintro rfl u hu;have:=hrow.cell hu;simp only[Nat.add_zero]at this;simp[loadVar,ha,this]
def H7{t:TypeId}{x:Operand}{n:Nat}{g:Bool}{cells:List AV}{y:AV}(ho:o.op=.load t x)(hx:ev s.t x=.vp cells)
  (ht:ty P t=some (g,n)) (hy:val g n cells=some y):LOp L P s o y []:=by
 refine LOp.of_run λB F0 w0 F own fp fs' a w h=>?_;have hr:=h.ev x;rw[hx]at hr;simp only[Rep]at hr;obtain⟨_,b,o',vals,hv,hb,hrow,hl⟩:=hr;obtain⟨l1,l2⟩:=vz (P:=P) ht hrow;rcases Cn hl hy with⟨rfl,hn,f2,r2,h2⟩|⟨rfl,u,f2,hu2,r2,h2⟩
 ·have:f2=[]:=List.eq_nil_iff_forall_not_mem.2 λb hb=>by simpa using h2 b hb
  subst this;exact⟨_,[],by simp[execOp,ho,hv,Instr.loadAt,Instr.sureAddr,l1 rfl hn],r2,by simp,by simp⟩
 ·have:f2=[]:=List.eq_nil_iff_forall_not_mem.2 λb hb=>by simpa using h2 b hb
  subst this;exact⟨_,[],by simp[execOp,ho,hv,Instr.loadAt,Instr.sureAddr,l2 rfl u hu2],r2,by simp,by simp⟩
def di.row{B:haa}{F0:haa}{w0:World}{F:haa}{own:Nat->Own}{fp fs:Nat->List Nat}{a:Act}{w:World}
  (h:di L B F0 w0 F own fp fs s a w) {b:Nat} {cells:List AV} (hb:O s.o b=some cells) (off:Nat) :
  ∃vals f,ia w b off vals/\au L F w (cells.drop off) vals f/\∀k,k∈f->k∈fs b:=by
 obtain⟨_,_,_,c,Ty,vals,rest,h4,h5,h6⟩:=h.obj b cells hb
 have hrow:ia w b 0 vals:=⟨c,Ty,_,h4,λi hi=>by
  rw[Nat.zero_add,<- Array.getElem?_toList,h5,getElem?_append_left hi]⟩
 have hl:=h6.len;obtain⟨f',h1,h2⟩:=h6.cut off (cells.length+vals.length);rw[take_of_length_le (by simp;omega),take_of_length_le (by simp;omega)]at h1;refine⟨vals.drop off,f',?_,h1,h2⟩;have:=hrow.cut off vals.length;rw[take_of_length_le (by simp),Nat.zero_add]at this;exact this
def qu{t:TypeId}{x:Operand}{n b off:Nat}{g:Bool}{cells:List AV}{y z:AV}(ho:o.op=.load t x)(hx:ev s.t x=.ptr b off)
  (hb:O s.o b=some cells) (ht:ty P t=some (g,n)) (hy:val g n (cells.drop off)=some y) (hown:∀(F:haa) (w:World) (v:Value) (f:List Nat),Rep L F w y v f->Rep L F w z v []):LOp L P s o z []:=by
 refine LOp.iU λB F0 w0 F own fp fs' a w h=>?_;have hr:=h.ev x;rw[hx]at hr;simp only[Rep]at hr;obtain⟨vals,f,hrow,hl,_⟩:=h.row hb off;obtain⟨l1,l2⟩:=vz (P:=P) ht hrow;rcases Cn hl hy with⟨rfl,hn,f2,r2,_⟩|⟨rfl,u,f2,hu2,r2,_⟩
 ·exact⟨.agg (vals.take n).toArray,by simp[execOp,ho,hr.1,Instr.loadAt,Instr.sureAddr,l1 rfl hn],hown _ _ _ _ r2⟩
 ·exact⟨u,by simp[execOp,ho,hr.1,Instr.loadAt,Instr.sureAddr,l2 rfl u hu2],hown _ _ _ _ r2⟩
def xj{t:TypeId}{x:Operand}{n b off:Nat}{g:Bool}{cells:List AV}{y:AV}(ho:o.op=.load t x)(hx:ev s.t x=.ptr b off)
  (hb:O s.o b=some cells) (ht:ty P t=some (g,n)) (hy:val g n (cells.drop off)=some y) (hown:y.du=true):LOp L P s o y [] :=
 qu ho hx hb ht hy λ_ _ _ _ r=>by rw[Rep.eK hown r]at r;exact r
def Gf{x:Operand}{b off:Nat}(ho:o.op=.nilCheck x)(hx:ev s.t x=.ptr b off):LOp L P s o (.ptr b off) []:=by refine LOp.iU λB F0 w0 F own fp fs' a w h=>?_;have hr:=h.ev x;rw[hx]at hr;simp only[Rep]at hr;exact⟨.pointer (some ⟨b,off,none⟩),by simp[execOp,ho,hr.1],by simp[Rep]⟩
def BD{x:Operand}{cells:List AV}(ho:o.op=.nilCheck x)(hx:ev s.t x=.vp cells):LOp L P s o (.vp cells) []:=by refine LOp.iU λB F0 w0 F own fp fs' a w h=>?_;have hr:=h.ev x;rw[hx]at hr;have hr':=hr;rw[Rep.eK rfl hr]at hr';simp only[Rep]at hr;obtain⟨_,b,o',vals,hv,hb,hrow,hl⟩:=hr;exact⟨a.eval x,by simp[execOp,ho,hv],hr'⟩
def zl{x:Operand}{k:Nat}{l:List AV}{y:AV}(ho:o.op=.extract x k)(hx:ev s.t x=.tup l)(hy:l[k]? = some y)(hown:y.du=true):LOp L P s o y []:=by refine LOp.iU λB F0 w0 F own fp fs' a w h=>?_;have hr:=h.ev x;rw[hx]at hr;simp only[Rep]at hr;obtain⟨vs,hv,hl⟩:=hr;obtain⟨u,f,h1,h2,_⟩:=hl.get hy;refine⟨u,?_,by rw[Rep.eK hown h2]at h2;exact h2⟩;simp[execOp,ho,hv,Instr.extract,h1]
abbrev S(l:List UInt8):AV:=.str l
def H8{x:Operand}{c:Call}{t:TypeId}{l:List UInt8}(ho:o.op=.call c)(hc:c=⟨.builtin .len,#[x],#[t]⟩)(hx:ev s.t x=S l)(ht:P.underlying t=some .string) :
  LOp L P s o (.v (.int .i64 l.length)) []:=by
 subst hc;refine kL λB F0 w0 F own fp fs a w h=>?_;simp[execOp,ho,resolve,invoke,builtin,(h.wR hx).1,run_len_string w t o.type _ ht,goInt,ByteArray.size]
def j4{t e:TypeId}(h:P.underlying t=some (.slice e)):P.underlying t=some (.slice (P.elem t)):=by simp[Program.elem,h]
def KC{x:Operand}{c:Call}{t e:TypeId}{own:Bool}{sz:Nat}{l:List AV}(ho:o.op=.call c)(hc:c=⟨.builtin .len,#[x],#[t]⟩)(hx:ev s.t x=.sl own sz l)(ht:P.underlying t=some (.slice e)) :
  LOp L P s o (.v (.int .i64 l.length)) []:=by
 subst hc;refine kL λB F0 w0 F own fp fs a w h=>?_;have hr:=h.ev x;rw[hx]at hr;simp only[Rep]at hr;rcases hr with⟨hv|⟨_,_,hv⟩,rfl,_⟩|⟨b,off,cap,vals,fp',hv,_⟩
 ·simp[execOp,ho,resolve,invoke,builtin,hv,run_len_slice w t o.type _ _ _ (j4 ht),goInt]
 ·simp[execOp,ho,resolve,invoke,builtin,hv,run_len_slice w t o.type _ _ _ (j4 ht),goInt]
 ·simp[execOp,ho,resolve,invoke,builtin,hv,run_len_slice w t o.type _ _ _ (j4 ht),goInt]
def H9{x:Operand}{c:Call}{t e:TypeId}(ho:o.op=.call c)(hc:c=⟨.builtin .len,#[x],#[t]⟩)(hx:ev s.t x=.v (.slice none 0 0))(ht:P.underlying t=some (.slice e)) :
  LOp L P s o (.v (.int .i64 0)) []:=by
 subst hc;refine kL λB F0 w0 F own fp fs a w h=>?_;simp[execOp,ho,resolve,invoke,builtin,h.val hx,run_len_slice w t o.type _ _ _ (j4 ht),goInt]
def Ia{x:Operand}{c:Call}{t e:TypeId}{b off len sz:Nat}(ho:o.op=.call c)(hc:c=⟨.builtin .len,#[x],#[t]⟩)(hx:ev s.t x=.arr b off len sz)(ht:P.underlying t=some (.slice e)) :
  LOp L P s o (.v (.int .i64 len)) []:=by
 subst hc;refine kL λB F0 w0 F own fp fs a w h=>?_;have hr:=h.ev x;rw[hx]at hr;simp only[Rep]at hr;obtain⟨_,cap,hv,_⟩:=hr;simp[execOp,ho,resolve,invoke,builtin,hv,run_len_slice w t o.type _ _ _ (j4 ht),goInt]
def Ev{x i:Operand}{t:TypeId}{l:List UInt8}{k:IntKind}{n:Int}{c:UInt8}(ho:o.op=.index t x i)(hx:ev s.t x=S l)(hi:ev s.t i=.v (.int k n))
  (ht:P.underlying t=some .string) (h0:0<=n) (hc:l[n.toNat]? = some c):LOp L P s o (.v (.int .u8 c.toNat)) []:=by
 refine kL λB F0 w0 F own fp fs a w h=>?_
 have hlt:n.toNat<l.length:=by
  rcases Nat.lt_or_ge n.toNat l.length with h|h
  ·exact h
  ·rw[getElem?_eq_none h]at hc;cases hc
 simp only[execOp,ho,(h.wR hx).1,h.val hi,Sem.run_bind,run_index_string w t _ k n ht];rw[dif_pos ⟨h0,by simp[ByteArray.size];omega⟩];have:l[n.toNat]=c:=by simpa[getElem?_eq_getElem hlt]using hc
 simp[<- this];rfl
def AV.cells:AV->List AV
 | .agg l=>l
 | x=>[x]
def AV.elem(sz:Nat):AV->Bool
 | .agg l=>l.length == sz
 | .v x=>x.oneCell' && sz == 1
 | .dead=>false
 | .tup _=>false
 | .cnd _ _=>false
 | .pin _ _=>false
 | _=>sz == 1
def bY.len{F:haa}{w:World}{sz:Nat}:∀ {l:List AV} {vs:List Value} {fp:List Nat},bY L F w sz l vs fp->vs.length=l.length * sz
 | [],_,_,r=>by simp only[bY]at r;simp[r.1]
 | x::xs,vs,fp,r=>by
  simp only[bY]at r;obtain⟨y,vs',f1,f2,rfl,hsz,rfl,hx,hxs⟩:=r;have:=bY.len hxs;simp[this,hsz,Nat.add_mul];omega
def bY.get{F:haa}{w:World}{sz:Nat}:∀ {l:List AV} {vs:List Value} {fp:List Nat} {i:Nat} {x:AV},bY L F w sz l vs fp->l[i]? = some x ->
  ∃y f,(vs.drop (i * sz)).take sz=y.cells.toList/\y.cells.size=sz/\Rep L F w x y f/\∀b,b∈f->b∈fp
 | [],_,_,_,_,_,h=>by simp at h
 | x::xs,vs,fp,i,z,r,h=>by
  simp only[bY]at r;obtain⟨y,vs',f1,f2,rfl,hsz,rfl,hx,hxs⟩:=r
  cases i with
  | zero=>simp at h;subst h;exact⟨y,f1,by simp[<- hsz],hsz,hx,λb hb=>by simp[hb]⟩
  | succ i =>
   obtain⟨y',f,h1,h2,h3,h4⟩:=bY.get hxs (i:=i) (by simpa using h);refine⟨y',f,?_,h2,h3,λb hb=>by simp[h4 b hb]⟩;rw[<- h1,Nat.add_mul,Nat.one_mul,Nat.add_comm,<- drop_drop]
   congr 2
   have:y.cells.toList.length=sz:=by simpa using hsz
   rw[<- this,drop_left]
def oL{F:haa}{w:World}{sz:Nat}{x:AV}{y:Value}{f:List Nat}(h:x.elem sz=true)(r:Rep L F w x y f):au L F w x.cells y.cells.toList f/\y.cells.size=sz:=by
 cases x with
 | agg l =>
  have r':=r;simp only[Rep]at r;obtain⟨vs,rfl,hl⟩:=r;simp[AV.elem]at h;exact⟨by simpa[AV.cells,Value.cells]using hl,by simp[Value.cells,hl.len,h]⟩
 | dead=>simp[AV.elem]at h
 | tup l=>simp[AV.elem]at h
 | cnd _ _=>simp[AV.elem]at h
 | pin _ _=>simp[AV.elem]at h
 | v x =>
  have r':=r;simp only[Rep]at r';obtain⟨rfl,rfl⟩:=r';simp[AV.elem]at h;have:y.cells=#[y]:=by cases y<;>simp_all [Value.cells,Value.oneCell']
  rw[this];exact⟨by simp only[AV.cells,au];exact⟨y,[],[],[],rfl,rfl,r,rfl,rfl⟩,by simp[h.2]⟩
 | str l =>
  have r':=r;simp only[Rep]at r';have:y.cells=#[y]:=by rw[r'.1];rfl
  rw[this];simp[AV.elem]at h;exact⟨by simp only[AV.cells,au];exact⟨y,[],f,[],rfl,by simp,r,rfl,rfl⟩,by simp[h]⟩
 | sl o' z l =>
  have r':=r;simp only[Rep]at r';have:y.cells=#[y]:=by rcases r' with⟨rfl|⟨_,_,rfl⟩,_⟩|⟨b,off,cap,vals,fp',rfl,_⟩<;>rfl
  rw[this];simp[AV.elem]at h;exact⟨by simp only[AV.cells,au];exact⟨y,[],f,[],rfl,by simp,r,rfl,rfl⟩,by simp[h]⟩
 | slo z l =>
  have r':=r;simp only[Rep]at r';have:y.cells=#[y]:=by rcases r' with⟨rfl,_⟩|⟨b,off,cap,vals,fp',rfl,_⟩<;>rfl
  rw[this];simp[AV.elem]at h;exact⟨by simp only[AV.cells,au];exact⟨y,[],f,[],rfl,by simp,r,rfl,rfl⟩,by simp[h]⟩
 | vp l =>
  have r':=r;simp only[Rep]at r';have:y.cells=#[y]:=by obtain⟨_,b,off,vals,rfl,_⟩:=r';rfl
  rw[this];simp[AV.elem]at h;exact⟨by simp only[AV.cells,au];exact⟨y,[],f,[],rfl,by simp,r,rfl,rfl⟩,by simp[h]⟩
 | arr _ _ _ _ =>
  have r':=r;simp only[Rep]at r';have:y.cells=#[y]:=by obtain⟨_,b,rfl,_⟩:=r';rfl
  rw[this];simp[AV.elem]at h;exact⟨by simp only[AV.cells,au];exact⟨y,[],f,[],rfl,by simp,r,rfl,rfl⟩,by simp[h]⟩
 | ptr _ _ =>
  have r':=r;simp only[Rep]at r';have:y.cells=#[y]:=by obtain⟨rfl,_⟩:=r';rfl
  rw[this];simp[AV.elem]at h;exact⟨by simp only[AV.cells,au];exact⟨y,[],f,[],rfl,by simp,r,rfl,rfl⟩,by simp[h]⟩
 | fn _ _ =>
  have r':=r;simp only[Rep]at r';have:y.cells=#[y]:=by obtain⟨_,rfl,_⟩:=r';rfl
  rw[this];simp[AV.elem]at h;exact⟨by simp only[AV.cells,au];exact⟨y,[],f,[],rfl,by simp,r,rfl,rfl⟩,by simp[h]⟩
def elm(P:Program)(t:TypeId):Option (TypeId×Nat×Nat) :=
 match P.underlying t with
 | some (.slice e)=>match P.info? e with
  | some i=>some (e,i.size,i.bytes)
  | none=>none
 | _=>none
def jy{t e:TypeId}{sz by_:Nat}(h:elm P t=some (e,sz,by_)):∃i,P.underlying t=some (.slice e)/\P.info? e=some i/\i.size=sz/\i.bytes=by_:=by
 unfold elm at h;split at h
 ·rename_i e' he;split at h
  ·rename_i i hi;simp at h;obtain⟨rfl,rfl,rfl⟩:=h;exact⟨i,he,hi,rfl,rfl⟩
  ·cases h
 ·cases h
def zU{x i:Operand}{t e:TypeId}{sz by_:Nat}{l:List AV}{k:IntKind}{n:Int}{y:AV}(ho:o.op=.indexAddr t x i)(hx:ev s.t x=.sl false sz l)
  (hi:ev s.t i=.v (.int k n)) (ht:elm P t=some (e,sz,by_)) (h0:0<=n) (hy:l[n.toNat]? = some y) (he:y.elem sz=true):LOp L P s o (.vp y.cells) []:=by
 obtain⟨inf,hu,fO,hsz,_⟩:=jy ht;refine LOp.iU λB F0 w0 F own fp fs a w h=>?_
 have hlt:n.toNat<l.length:=by
  rcases Nat.lt_or_ge n.toNat l.length with h|h
  ·exact h
  ·rw[getElem?_eq_none h]at hy;cases hy
 have hr:=h.ev x;rw[hx]at hr;simp only[Rep]at hr;rcases hr with⟨_,rfl,_⟩|⟨b,off,cap,vals,fp',hv,_,_,hrow,hl,hF⟩
 ·simp at hlt
 ·rcases hF with⟨hF,_⟩|⟨_,hF,rfl,_⟩
  ·cases hF
  ·obtain⟨y',f,h1,h2,h3,h4⟩:=hl.get hy;have:f=[]:=List.eq_nil_iff_forall_not_mem.2 λb hb=>by simpa using h4 b hb
   subst this;have hP:P.elem t=e:=by simp[Program.elem,hu]
   refine⟨.pointer (some ⟨b,off+n.toNat * sz,none⟩),?_,?_⟩
   ·simp only[execOp,ho,hv,h.val hi,Sem.run_bind,run_indexAt_slice w t _ _ _ k n (j4 hu)];rw[if_pos ⟨h0,by omega⟩];simp[hP,sizeOf,typeInfo,fO,hsz,fW]
   ·simp only[Rep];refine⟨trivial,b,_,y'.cells.toList,rfl,hF,?_,(oL he h3).1⟩;rw[<- h1];exact hrow.cut _ _
def yY{x i:Operand}{t e:TypeId}{sz by_ b off len:Nat}{k:IntKind}{n:Int}(ho:o.op=.indexAddr t x i)(hx:ev s.t x=.arr b off len sz)
  (hi:ev s.t i=.v (.int k n)) (ht:elm P t=some (e,sz,by_)) (h0:0<=n) (hy:n<len):LOp L P s o (.ptr b (off+n.toNat * sz)) []:=by
 obtain⟨inf,hu,fO,hsz,_⟩:=jy ht;refine LOp.iU λB F0 w0 F own fp fs a w h=>?_;have hr:=h.ev x;rw[hx]at hr;simp only[Rep]at hr;obtain⟨_,cap,hv,_⟩:=hr;have hP:P.elem t=e:=by simp[Program.elem,hu]
 refine⟨.pointer (some ⟨b,off+n.toNat * sz,none⟩),?_,by simp[Rep]⟩;simp only[execOp,ho,hv,h.val hi,Sem.run_bind,run_indexAt_slice w t _ _ _ k n (j4 hu)];rw[if_pos ⟨h0,hy⟩];simp[hP,sizeOf,typeInfo,fO,hsz,fW]
end ops
def kF(o:List (Nat×Option (List AV))):List Nat->List (Nat×Option (List AV))
 | []=>o
 | b::D=>(b,none)::kF o D
def pg(o:List (Nat×Option (List AV)))(D:List Nat)(b:Nat):O (kF o D) b=if b∈D then none else O o b:=by
 induction D with
 | nil=>simp[kF]
 | cons d D ih =>
  by_cases h:d=b
  ·simp[kF,O,h]
  ·have h':¬b=d:=λe=>h e.symm;simp[kF,O,h,h',ih]
section
variable {L : Nat -> Nat} {B : Nat -> Prop} {F0 : Nat -> Prop} {w0 : World} {F : Nat -> Prop} {own : Nat -> Own} {fp fs : Nat -> List Nat} {s : AS} {a : Act} {w : World}
def di.O4(h:di L B F0 w0 F own fp fs s a w){b:Nat}(hb:w.heap.size<=b):own b=.none:=by
 rcases Classical.em (own b=.none)with e|e
 ·exact e
 ·have:=(h.ol b e).2;omega
def di.renew(h:di L B F0 w0 F own fp fs s a w){w':World}{x:AV}{v:Value}(C D:List Nat)(bn:Nat)(cells':List AV)(fn:List Nat)(d:Option Nat)
  (hd:dn s.n d=true) (hst:w'.os=w.os/\w'.tape=w.tape/\w'.output=w.output) (cV:Ext (λb=>b<w.heap.size/\b ∉ D) w w') (hD:∀b,b∈D->own b=.key)
  (hbn:bn∈D\/(w.heap.size<=bn/\bn<w'.heap.size))
  (iO:∃(c:Array Value) (Ty:TypeId) (vals rest:List Value),w'.heap[bn]? = some (.cells c Ty (0,0))/\c.toList=vals++rest/\au L F w' cells' vals fn)
  (hfn:fn.Nodup) (hfn':∀k,k∈fn->(∃i,i∈C/\k∈fp i)\/(∃b,b∈D/\own k=.obj b)) (hx:Rep L F w' x v []) :
  Den L B F0 w0 ⟨s.n,Ab.put (killL s.t C) d x,(bn,some cells')::kF s.o D⟩ (a.put d v) w':=by
 have hsz:=cV.size
 have hB:=h.hB
 classical
 have P7:own bn=.key\/own bn=.none:=by
  rcases hbn with e|e
  ·exact .inl (hD _ e)
  ·exact .inr (h.O4 e.1)
 have acd:¬B bn/\bn<w'.heap.size:=by
  rcases hbn with e|e
  ·have:=h.ol bn (by rw[hD _ e];simp);exact⟨this.1,by omega⟩
  ·exact⟨λhb=>by have:=hB bn hb;omega,e.2⟩
 have xG:∀k,k∈fn->(∃i,i∈C/\own k=.slot i)\/∃b,b∈D/\own k=.obj b:=λk hk=>by
  rcases hfn' k hk with⟨i,hi,hk'⟩|e
  ·exact .inl ⟨i,hi,h.so i k hk'⟩
  ·exact .inr e
 have Ro:∀k,k∈fn->¬B k/\k<w.heap.size/\k≠bn:=λk hk=>by
  have e:own k≠.none/\own k≠.key:=by
   rcases xG k hk with⟨i,_,e⟩|⟨b,_,e⟩<;>rw[e]<;>simp
  have:=h.ol k e.1;refine⟨this.1,this.2,λe'=>?_⟩;subst e';rcases P7 with e'|e'
  ·exact e.2 e'
  ·exact e.1 e'
 have hFS:∀b,F b->F b/\(b<w.heap.size/\b ∉ D):=λb hb'=>⟨hb',(h.fl b hb').2.1,λhd'=>by
  have e1:=(h.fl b hb').1;rw[hD b hd']at e1;cases e1⟩
 let own':Nat->Own:=λk=>if k=bn then .key else if k∈fn then .obj bn else if k∈D then .none else own k
 refine⟨F,own',λi=>if d=some i then [] else if i∈C then [] else fp i,λb=>if b=bn then fn else fs b,?_⟩;refine { below:=h.below.trans ⟨hst.1,hst.2.1,hst.2.2,hsz,λk hk=>cV.same k ⟨hB k hk,λhd=>(h.ol k (by rw[hD k hd];simp)).1 hk⟩,cV.shape⟩,hB:=λb hb=>Nat.lt_of_lt_of_le (hB b hb) hsz,tb:=h.tb,f0:=h.f0,fl:=?_,ol:=?_,defers:=?_,size:=?_,slots:=?_,sn:=?_,so:=?_,obj:=?_ }
 ·intro b hb;have h1:=h.fl b hb
  have n1:b≠bn:=by
   rintro rfl;rcases hbn with e|e
   ·exact(hFS b hb).2.2 e
   ·omega
  have n2:b ∉ fn:=λhk=>by
   rcases xG b hk with⟨i,_,e⟩|⟨b',_,e⟩<;>rw[h1.1]at e<;>cases e
  refine⟨?_,by omega,h1.2.2⟩;simp only[own',if_neg n1,if_neg n2,if_neg (hFS b hb).2.2];exact h1.1
 ·intro b hb;simp only[own']at hb;by_cases e1:b=bn
  ·subst e1;exact acd
  ·rw[if_neg e1]at hb;by_cases e2:b∈fn
   ·have:=Ro b e2;exact⟨this.1,by omega⟩
   ·rw[if_neg e2]at hb;by_cases e3:b∈D
    ·rw[if_pos e3]at hb;exact absurd rfl hb
    ·rw[if_neg e3]at hb;have:=h.ol b hb;exact⟨this.1,by omega⟩
 ·cases d<;>simpa[Act.put]using h.defers
 ·cases d<;>simpa[Act.put]using h.size
 ·intro i;simp only[mG,Ch];rw[jE a d v i (by rw[h.size];exact hd)];by_cases e:d=some i
  ·simp only[e,if_true];exact hx
  ·simp only[if_neg e];by_cases hi:i∈C
   ·simp only[if_pos hi];simp[Rep]
   ·simp only[if_neg hi];refine Rep.ext cV hFS (λb hb'=>⟨(h.jl hb').2,λhd'=>?_⟩) (h.slots i);have e1:=h.so i b hb';rw[hD b hd']at e1;cases e1
 ·intro i;split
  ·simp
  ·split
   ·simp
   ·exact h.sn i
 ·intro i b hb';by_cases e:d=some i
  ·rw[if_pos e]at hb';simp at hb'
  ·rw[if_neg e]at hb';by_cases hi:i∈C
   ·rw[if_pos hi]at hb';simp at hb'
   ·rw[if_neg hi]at hb';have ho:=h.so i b hb'
    have n1:b≠bn:=by rintro rfl;rcases P7 with e'|e'<;>rw[ho]at e'<;>cases e'
    have n2:b ∉ fn:=λhk=>by
     rcases xG b hk with⟨j,hj,e'⟩|⟨b',_,e'⟩<;>rw[ho]at e'<;>cases e';exact hi hj
    have n3:b ∉ D:=λhd'=>by have e1:=hD b hd';rw[ho]at e1;cases e1
    simp only[own',if_neg n1,if_neg n2,if_neg n3];exact ho
 ·intro b cells hO;simp only[O]at hO;by_cases e:bn=b
  ·subst e;rw[if_pos rfl]at hO;cases hO;obtain⟨c,Ty,vals,rest,h1,h2,h3⟩:=iO;refine⟨by simp[own'],by simpa using hfn,?_,c,Ty,vals,rest,h1,h2,by simpa using h3⟩;intro k hk;simp only[if_true]at hk;simp only[own',if_neg (Ro k hk).2.2,if_pos hk]
  ·rw[if_neg e,pg]at hO;by_cases hdb:b∈D
   ·rw[if_pos hdb]at hO;cases hO
   ·rw[if_neg hdb]at hO;have e':¬b=bn:=λh=>e h.symm;obtain⟨h1,h2,h3,c,Ty,vals,rest,h4,h5,h6⟩:=h.obj b cells hO;have hlt:=(h.ol b (by rw[h1];simp)).2
    have n2:b ∉ fn:=λhk=>by
     rcases xG b hk with⟨j,hj,e'⟩|⟨b',_,e'⟩<;>rw[h1]at e'<;>cases e'
    refine⟨by simp only[own',if_neg e',if_neg n2,if_neg hdb];exact h1,by simpa[e']using h2,?_,c,Ty,vals,rest,?_,h5,?_⟩
    ·intro k hk;simp only[if_neg e']at hk;have ho:=h3 k hk
     have n1:k≠bn:=by rintro rfl;rcases P7 with e'|e'<;>rw[ho]at e'<;>cases e'
     have n2:k ∉ fn:=λhk=>by
      rcases xG k hk with⟨j,hj,e'⟩|⟨b',hb',e'⟩<;>rw[ho]at e'<;>cases e';exact hdb hb'
     have n3:k ∉ D:=λhd'=>by have e1:=hD k hd';rw[ho]at e1;cases e1
     simp only[own',if_neg n1,if_neg n2,if_neg n3];exact ho
    ·rw[cV.same b ⟨hlt,hdb⟩];exact h4
    ·simp only[if_neg e'];refine au.ext cV hFS (λk hk=>⟨?_,λhd'=>?_⟩) h6
     ·exact(h.ol k (by rw[h3 k hk];simp)).2
     ·have e1:=hD k hd';rw[h3 k hk]at e1;cases e1
end
def Ext.alloc(w:World)(o:Obj)(D:List Nat):Ext (λb=>b<w.heap.size/\b ∉ D) w (w.alloc o):=by
 refine⟨by show _<=(w.heap.push o).size;simp,λb hb=>Below.heap_alloc w o b hb.1,λb c T z hc=>⟨c,?_,rfl⟩⟩
 have hb:b<w.heap.size:=by
  rcases Nat.lt_or_ge b w.heap.size with h|h
  ·exact h
  ·rw[Array.getElem?_eq_none h]at hc;cases hc
 rw[Below.heap_alloc w o b hb];exact hc
def Ext.alloc'(w:World)(o:Obj):Ext (λb=>b<w.heap.size) w (w.alloc o):=by obtain⟨h1,h2,h3⟩:=Ext.alloc w o [];exact⟨h1,λb hb=>h2 b ⟨hb,by simp⟩,h3⟩
def gh(w:World)(o:Obj):(w.alloc o).heap[w.heap.size]? = some o:=by show (w.heap.push o)[w.heap.size]? = _;simp
def zer(P:Program)(t:TypeId):Option (List Value) :=
 match P.info? t with
 | some i=>match i.zero with
  | some z=>some z.cells.toList
  | none=>none
 | none=>none
def yc{P:Program}{t:TypeId}{zs:List Value}(h:zer P t=some zs):∃z:Value,z.cells.toList=zs/\∀w,(zeroValue t).run P w=.ok z w:=by
 unfold zer at h;split at h
 ·rename_i i hi;split at h
  ·rename_i z hz;simp at h;exact⟨z,h,λw=>by simp[zeroValue,typeInfo,hi,hz]⟩
  ·cases h
 ·cases h
def au.plain{L:gaa}{F:haa}{w:World}:∀vs:List Value,au L F w (vs.map avz) vs []
 | []=>by simp[au]
 | y::vs=>by simp only[map_cons,au];exact⟨y,vs,[],[],rfl,rfl,I0 y,au.plain vs⟩
section ops
variable {L : Nat -> Nat} {P : Program} {s : AS} {o : Oper}
def Ay{F:haa}{w:World}{sz:Nat}{x:AV}{y:Value}{f:List Nat}(h:x.elem sz=true)(r:Rep L F w x y f):au L F w x.cells y.cells.toList f:=(oL h r).1
def SV{t:TypeId}{x:Operand}{sz:Nat}(ho:o.op=.box t x)(hx:(ev s.t x).elem sz=true):LOp L P s o (.vp (AV.cl (ev s.t x).cells)) (kills s.t [x]):=by
 intro B F0 w0 F own fp fs a w next Q h bZ
 have hr:=h.ev x
 have hrun:(execOp a.eval o).run P w=.ok (.value (.pointer (some ⟨w.heap.size,0,none⟩))) (w.alloc (.cells (a.eval x).cells t)):=by
  simp[execOp,ho,Instr.box,newVar,newRow]
 unfold Oper.wp;rw[hrun]
 have hlt:∀k,k∈fpo fp x->k<w.heap.size:=λk hk=>by
  obtain⟨i,_,hi⟩:=gY h (xs:=[x]) (by simp) k hk;exact(h.jl hi).2
 have hFS:∀b,F b->F b/\(b<w.heap.size):=λb hb'=>⟨hb',(h.fl b hb').2.1⟩
 refine bZ _ _ ⟨Kp.mN ((Below.refl _ _).alloc (Nat.le_refl _) _),λb=>F b\/b=w.heap.size\/b∈fpo fp x,[],λ_ h=>.inl h,?_,?_,by simp,by simp⟩
 ·rintro b (e|rfl|e)
  ·exact .inl e
  ·exact .inr (.inl ⟨Nat.le_refl _,by simp⟩)
  ·exact .inr (.inr (gY h (by simp) b e))
 ·simp only[Rep];refine⟨trivial,w.heap.size,0,(a.eval x).cells.toList,rfl,.inr (.inl rfl),⟨_,_,_,gh w _,λi _=>by simp⟩,?_⟩;refine au.frz (F:=F) (λb h=>.inl h) (λb hb=>.inr (.inr hb)) ?_;exact au.ext (Ext.alloc' w _) hFS hlt (Ay hx hr)
end ops
section
def bY.flat{L:gaa}{F:haa}{w:World}{sz:Nat}:∀ {l:List AV} {vs:List Value} {fp:List Nat},(∀x,x∈l->x.elem sz=true)->bY L F w sz l vs fp->au L F w (l.flatMap AV.cells) vs fp
 | [],_,_,_,r=>by simpa[bY,au]using r
 | x::xs,vs,fp,h,r=>by
  simp only[bY]at r;obtain⟨y,vs',f1,f2,rfl,hsz,rfl,hx,hxs⟩:=r;rw[flatMap_cons];exact au.join (Ay (h x (by simp)) hx) (bY.flat (λz hz=>h z (by simp[hz])) hxs)
def AV.one:AV->Bool
 | .v x=>x.oneCell'
 | .str _|.sl ..|.slo ..|.vp _|.arr ..|.ptr ..|.fn ..=>true
 | .pin _ x=>x.one
 | _=>false
def Rep.one{L:gaa}{F:haa}{w:World}:∀ {x:AV} {y:Value} {f:List Nat},Rep L F w x y f->x.one=true->y.oneCell'=true
 | .dead,_,_,_,h=>by simp[AV.one]at h
 | .agg _,_,_,_,h=>by simp[AV.one]at h
 | .tup _,_,_,_,h=>by simp[AV.one]at h
 | .cnd _ _,_,_,_,h=>by simp[AV.one]at h
 | .pin _ x,_,_,r,h=>by simp only[Rep]at r;exact Rep.one r.2 (by simpa[AV.one]using h)
 | .slo _ _,_,_,r,_=>by simp only[Rep]at r;rcases r with⟨rfl,_⟩|⟨_,_,_,_,_,rfl,_⟩<;>rfl
 | .v x,_,_,r,h=>by simp only[Rep]at r;rw[r.1];simpa[AV.one]using h
 | .str _,_,_,r,_=>by simp only[Rep]at r;rw[r.1];rfl
 | .sl _ _ _,_,_,r,_=>by simp only[Rep]at r;rcases r with⟨rfl|⟨_,_,rfl⟩,_⟩|⟨_,_,_,_,_,rfl,_⟩<;>rfl
 | .vp _,_,_,r,_=>by simp only[Rep]at r;obtain⟨_,_,_,_,rfl,_⟩:=r;rfl
 | .arr _ _ _ _,_,_,r,_=>by simp only[Rep]at r;obtain⟨_,_,rfl,_⟩:=r;rfl
 | .ptr _ _,_,_,r,_=>by simp only[Rep]at r;rw[r.1];rfl
 | .fn _ _,_,_,r,_=>by simp only[Rep]at r;obtain⟨_,rfl,_⟩:=r;rfl
def au.ones{L:gaa}{F:haa}{w:World}:∀ {l:List AV} {vs:List Value} {fp:List Nat},au L F w l vs fp->l.all AV.one=true->∀u,u∈vs->u.oneCell'=true
 | [],_,_,r,_,u,hu=>by simp only[au]at r;rw[r.1]at hu;simp at hu
 | x::xs,vs,fp,r,h,u,hu=>by
  simp only[au]at r;obtain⟨y,vs',f1,f2,rfl,rfl,hx,hxs⟩:=r;simp at h;rcases List.mem_cons.1 hu with rfl|hu
  ·exact hx.one h.1
  ·exact au.ones hxs (by simpa using h.2) u hu
structure Src(P:Program)(w:World)(size:Nat)(u:TypeId)(x:Value)(n:Nat)(news:List Value):Prop where
 ty:(∃e',P.underlying u=some (.slice e'))\/P.underlying u=some .string
 len:∀w',(Builtin.lenOf x).run P w'=.ok n w'
 first:∀w':World,w'.heap=w.heap->(Builtin.firstCells size n x).run P w'=.ok news.toArray w'
section
variable {P : Program} {w : World} {t u tyr e : TypeId} {i : TypeInfo} {x : Value} {n : Nat} {news : List Value}
def wv(ht:P.underlying t=some (.slice e))(hi:P.info? e=some i)(hs:Src P w i.size u x n news)(g sLen sCap:Nat)(cur:Array Value)(Ty:TypeId)(hg:w.heap[g]? = some (.cells cur Ty (0,0)))
  (h1:∀v,v∈news->v.oneCell'=true) (hroom:sLen+n<=sCap) (hfit:sLen * i.size+news.length<=cur.size) :
  (Builtin.append_ #[t,u] tyr #[.slice (some ⟨g,0,none⟩) sLen sCap,x]).run P w =
   .ok (.slice (some ⟨g,0,none⟩) (sLen+n) sCap) (w.setRow g (cur.toList.take (sLen * i.size)++news++cur.toList.drop (sLen * i.size+news.length)).toArray):=by
 have hst:=run_storeCells_at P g (sLen * i.size) Ty news 0 cur w hg (by simpa using hfit) h1;simp only[Nat.add_zero]at hst;have hf:=hs.first w rfl;rcases hs.ty with⟨e',hu⟩|hu<;>simp[Builtin.append_,run_underlying ht,run_underlying hu,sizeOf,typeInfo,hi,hs.len,hroom,hf,fW,hst]
def AA{z:Value}(ht:P.underlying t=some (.slice e))(hi:P.info? e=some i)(hzr:i.zero=some z)(hs:Src P w i.size u x n news)(b:Addr)(sLen sCap:Nat)(olds:List Value)(hlo:olds.length=sLen * i.size)
  (holds:∀j v,olds[j]? = some v->w.cell? (b.add j)=some v) (hg:sCap<sLen+n) (h63:sLen+n<=9223372036854775807) (hfit:(sLen+n) * i.bytes<=140737488355328) :
  (Builtin.append_ #[t,u] tyr #[.slice (some b) sLen sCap,x]).run P w =
   .ok (.slice (some ⟨w.heap.size,0,none⟩) (sLen+n) (grownCap w (sLen+n) sCap e))
    (w.drew.alloc (.cells (olds.toArray++news.toArray++Builtin.zeroCells z.cells (grownCap w (sLen+n) sCap e - (sLen+n))) e)):=by
 have hn:¬(sLen+n<=sCap):=by omega
 have h63':¬(9223372036854775807<((sLen:Int)+(n:Int))):=by omega
 have h48':¬(281474976710656<Builtin.nextslicecap (sLen+n) sCap * i.bytes):=by
  have:=growslice_fits (bytes:=i.bytes) hg hfit;omega
 have hf:=hs.first w.drew rfl
 have hfo:=run_firstCells_some (P:=P) w.drew i.size sLen b sLen sCap olds hlo (by simpa using holds);rcases hs.ty with⟨e',hu⟩|hu
 all_goals
  simp[Builtin.append_,run_underlying ht,run_underlying hu,sizeOf,typeInfo,zeroValue,hi,hzr,hs.len,hn,h63',h48',Question.forced,hf,hfo,newRow,grownCap]
  try (congr 2;apply Array.ext';simp[append_assoc])
def Ds{z:Value}(ht:P.underlying t=some (.slice e))(hi:P.info? e=some i)(hzr:i.zero=some z)(hs:Src P w i.size u x n news)
  (h0:0<n) (h63:n<=9223372036854775807) (hfit:n * i.bytes<=140737488355328) :
  (Builtin.append_ #[t,u] tyr #[.slice none 0 0,x]).run P w =
   .ok (.slice (some ⟨w.heap.size,0,none⟩) n (grownCap w n 0 e)) (w.drew.alloc (.cells (news.toArray++Builtin.zeroCells z.cells (grownCap w n 0 e - n)) e)):=by
 have hn:n≠0:=by omega
 have h63':¬(9223372036854775807<(n:Int)):=by omega
 have h48':¬(281474976710656<Builtin.nextslicecap n 0 * i.bytes):=by rw[nextslicecap_zero h0];omega
 have hf:=hs.first w.drew rfl;rcases hs.ty with⟨e',hu⟩|hu<;>simp[Builtin.append_,run_underlying ht,run_underlying hu,sizeOf,typeInfo,zeroValue,hi,hzr,hs.len,hn,h63',h48',Question.forced,run_firstCells_none,hf,newRow,grownCap]
end
def qH(w:World)(g:Nat)(cs:Array Value)(b:Nat)(h:b≠g):(w.setRow g cs).heap[b]? = w.heap[b]?:=by simp only[World.setRow,Array.getElem?_modify];rw[if_neg (by omega)]
def eE(w:World)(g:Nat)(cs cur:Array Value)(Ty:TypeId)(z:Nat×Nat)(h:w.heap[g]? = some (.cells cur Ty z)):(w.setRow g cs).heap[g]? = some (.cells cs Ty z):=by simp only[World.setRow,Array.getElem?_modify,if_true,h,Option.map_some]
def Ext.setRow(w:World)(g:Nat)(cs cur:Array Value)(Ty:TypeId)(z:Nat×Nat)(h:w.heap[g]? = some (.cells cur Ty z))(hs:cs.size=cur.size):Ext (λb=>b<w.heap.size/\b ∉ [g]) w (w.setRow g cs):=by
 refine⟨by simp[World.setRow],λb hb=>qH w g cs b (by simpa using hb.2),λb c T z' hc=>?_⟩;by_cases e:b=g
 ·subst e;rw[h]at hc;cases hc;exact⟨cs,eE w b cs cur Ty z h,hs⟩
 ·exact⟨c,by rw[qH w g cs b e];exact hc,rfl⟩
def Ext.mY(w:World)(o:Obj)(D:List Nat):Ext (λb=>b<w.heap.size/\b ∉ D) w (w.drew.alloc o):=by obtain⟨h1,h2,h3⟩:=Ext.alloc w.drew o D;exact⟨h1,h2,h3⟩
def iX(os:List (Nat×Option (List AV)))(sz:Nat):AV->Option (Nat×List AV)
 | .sl _ z l=>bif z == sz && l.all (AV.elem sz) then some (l.length,l.flatMap AV.cells) else none
 | .arr b off len z=>match O os b with
  | some cells=>if z=sz/\AV.nownL ((cells.drop off).take (len * sz))=true/\off+len * sz<=cells.length then some (len,(cells.drop off).take (len * sz)) else none
  | none=>none
 | .v (.slice none 0 0)=>some (0,[])
 | .str l=>bif sz == 1 then some (l.length,l.map λc=>.v (.int .u8 c.toNat)) else none
 | _=>none
section
variable {L : Nat -> Nat} {B : Nat -> Prop} {F0 : Nat -> Prop} {w0 : World} {F : Nat -> Prop} {own : Nat -> Own} {fp fs : Nat -> List Nat} {s : AS} {a : Act} {w : World} {P : Program}
def wW(h:di L B F0 w0 F own fp fs s a w){x:Operand}{sz n:Nat}{cells:List AV}{u:TypeId}(hs:iX s.o sz (ev s.t x)=some (n,cells))(hu:(∃e',P.underlying u=some (.slice e'))\/P.underlying u=some .string) :
  ∃news f,Src P w sz u (a.eval x) n news/\news.length=n * sz/\au L F w cells news f/\f.Nodup/\∀b,b∈f->∃i,i∈kills s.t [x]/\b∈fp i:=by
 have hr:=h.ev x
 have hn:=mU h x
 have hk:=gY h (x:=x) (xs:=[x]) (by simp)
 cases hx:ev s.t x with
 | sl own' z l =>
  rw[hx]at hs hr;simp only[iX]at hs
  cases hc:(z == sz && l.all (AV.elem sz))with
  | false=>rw[hc]at hs;simp at hs
  | true =>
   rw[hc]at hs;simp at hs hc;obtain⟨rfl,rfl⟩:=hs;obtain⟨rfl,hel⟩:=hc;simp only[Rep]at hr;rcases hr with⟨hv|⟨_,aa,hv⟩,rfl,hf⟩|⟨b,off,cap,vals,fp',hv,_,_,hrow,hE,hown⟩
   ·refine⟨[],[],⟨hu,λw'=>by simp[hv,Builtin.lenOf],λw' _=>by simp[hv,Builtin.firstCells]⟩,by simp,by simp[au],by simp,by simp⟩
   ·refine⟨[],[],⟨hu,λw'=>by simp[hv,Builtin.lenOf],λw' _=>by rw[hv];exact run_firstCells_some (P:=P) w' z 0 aa 0 0 [] (by simp) (by simp)⟩,by simp,by simp[au],by simp,by simp⟩
   ·have hlen:=hE.len;refine⟨vals,fp',⟨hu,λw'=>by simp[hv,Builtin.lenOf],λw' hw'=>?_⟩,hlen,hE.flat hel,?_,?_⟩
    ·rw[hv];refine run_firstCells_some (P:=P) w' z l.length ⟨b,off,none⟩ l.length cap vals hlen λj v hj=>?_;rw[fW];have:=hrow.cell hj;simpa[World.cell?,hw']using this
    ·rcases hown with⟨_,e,_⟩|⟨_,_,e,_⟩
     ·rw[e]at hn;exact(List.nodup_cons.1 hn).2
     ·rw[e];simp
    ·intro b' hb';rcases hown with⟨_,e,_⟩|⟨_,_,e,_⟩
     ·exact hk b' (by rw[e];simp[hb'])
     ·rw[e]at hb';simp at hb'
 | arr b off len z =>
  rw[hx]at hs hr;simp only[iX]at hs
  cases hO:O s.o b with
  | none=>rw[hO]at hs;simp at hs
  | some cs =>
   rw[hO]at hs;simp only at hs;split at hs
   ·rename_i hc;obtain⟨rfl,KV,hle⟩:=hc;simp at hs;obtain⟨rfl,rfl⟩:=hs;simp only[Rep]at hr;obtain⟨_,cap,hv,_⟩:=hr;obtain⟨vals,f,hrow,hl,_⟩:=h.row hO off;obtain⟨f',hl',_⟩:=hl.cut 0 (len * z);simp only[drop_zero]at hl';have hf':=au.eK KV hl';subst hf';have hlen:=hl'.len
    have Rn:(vals.take (len * z)).length=len * z:=by rw[hlen];simp;omega
    refine⟨vals.take (len * z),[],⟨hu,λw'=>by simp[hv,Builtin.lenOf],λw' hw'=>?_⟩,Rn,hl',by simp,by simp⟩;rw[hv];refine run_firstCells_some (P:=P) w' z len ⟨b,off,none⟩ len cap _ Rn λj v hj=>?_;rw[fW];have:=(hrow.cut 0 (len * z)).cell (i:=j) (v:=v) (by simpa using hj);simpa[World.cell?,hw']using this
   ·cases hs
 | v y =>
  rw[hx]at hs hr;simp only[Rep]at hr
  cases y with
  | slice q len cap =>
   cases q with
   | some q=>simp[iX]at hs
   | none =>
    cases len with
    | succ _=>simp[iX]at hs
    | zero =>
     cases cap with
     | succ _=>simp[iX]at hs
     | zero =>
      simp[iX]at hs;obtain⟨rfl,rfl⟩:=hs;refine⟨[],[],⟨hu,λw'=>by simp[hr.1,Builtin.lenOf],λw' _=>by simp[hr.1,Builtin.firstCells]⟩,by simp,by simp[au],by simp,by simp⟩
  | _=>simp[iX]at hs
 | str st =>
  rw[hx]at hs hr;simp only[Rep]at hr;simp only[iX]at hs
  cases hc:(sz == 1)with
  | false=>rw[hc]at hs;simp at hs
  | true =>
   rw[hc]at hs;simp at hs hc;obtain⟨rfl,rfl⟩:=hs;subst hc;refine⟨st.map λc=>.int .u8 c.toNat,[],⟨hu,λw'=>by simp[hr.1,Builtin.lenOf,ByteArray.size],λw' _=>?_⟩,by simp,?_,by simp,by simp⟩
   ·simp only[hr.1,Builtin.firstCells,Sem.run_pure]
    congr 1
    apply Array.ext'
    have he:(ByteArray.mk st.toArray).extract 0 st.length=⟨st.toArray⟩:=by
     apply WideShapes.bytes_inj;rw[ByteArray.data_extract];simp
    rw[he];simp
   ·have:=au.plain (L:=L) (F:=F) (w:=w) (st.map λc=>Value.int .u8 c.toNat);simpa[Function.comp_def,avz]using this
 | dead=>rw[hx]at hs;simp[iX]at hs
 | vp _=>rw[hx]at hs;simp[iX]at hs
 | ptr _ _=>rw[hx]at hs;simp[iX]at hs
 | agg _=>rw[hx]at hs;simp[iX]at hs
 | tup _=>rw[hx]at hs;simp[iX]at hs
 | fn _ _=>rw[hx]at hs;simp[iX]at hs
 | cnd _ _=>rw[hx]at hs;simp[iX]at hs
 | pin _ _=>rw[hx]at hs;simp[iX]at hs
 | slo _ _=>rw[hx]at hs;simp[iX]at hs
