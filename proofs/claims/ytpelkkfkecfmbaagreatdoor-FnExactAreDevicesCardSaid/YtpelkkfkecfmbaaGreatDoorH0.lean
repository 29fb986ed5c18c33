/- Part of a proof. -/
import Derived.KernelRfl
import Derived.Lib.ItoaNum
import Derived.WalkLawsBesides
set_option linter.all false
namespace Go.Ab
open Go.RowKit (Below)
section
inductive AV where
 | dead
 | v (x:Value)
 | str (l:List UInt8)
 | sl (own:Bool) (sz:Nat) (l:List AV)
 | vp (l:List AV)
 | arr (b off len sz:Nat)
 | ptr (b off:Nat)
 | agg (l:List AV)
 | tup (l:List AV)
 | fn (f:FuncId) (l:List AV)
 | cnd (g:Bool) (x:AV)
 | pin (v:Value) (x:AV)
 | slo (sz:Nat) (l:List AV)
abbrev AV.aa(k:Int):AV:=.v (.int .i64 k)
abbrev AV.ac(k:Bool):AV:=.v (.bool k)
abbrev kaa:List AV:=[.v (.int .i64 0),.str [],.v (.slice none 0 0)]
abbrev jaa(s:List UInt8)(k:Int)(b:Bool):List AV:=[.str s,.v (.int .i64 k),.v (.bool b)]
def _root_.Ir{P:Prop}(h:P:=by omega):P:=h
def _root_.QC{P:Prop}(h:P:=by simp):P:=h
def _root_.yG{P:Prop}(h:P:=by assumption):P:=h
def _root_.baa{P:Prop}(h:P:=by decide):P:=h
def _root_.LQ{P:Prop}(h:P:=by kernel_rfl):P:=h
abbrev _root_.daa:=List (Nat×AV)
abbrev _root_.eaa:=Nat->Nat
abbrev _root_.faa:=Nat->Prop
def fP(w:World)(b off:Nat)(vals:List Value):Prop :=
 ∃ c T z,w.heap[b]? = some (.cells c T z)/\∀ i,i<vals.length->c[off+i]? = vals[i]?
def mE(w:World)(b n:Nat):Prop:=∃ c T,w.heap[b]? = some (.cells c T (0,0))/\n<=c.size
mutual
def Rep(L:eaa)(F:faa)(w:World):AV->Value->List Nat->Prop
 | .dead,_,fp=>fp=[]
 | .v x,y,fp=>y=x/\fp=[]
 | .str l,y,fp=>y=.string ⟨l.toArray⟩/\l.length<=4611686018427387904/\fp=[]
 | .sl own sz l,y,fp=>((y=.slice none 0 0\/own=false/\∃ a,y=.slice (some a) 0 0)/\l=[]/\fp=[]) \/
   ∃ b off cap vals fp',y=.slice (some ⟨b,off,none⟩) l.length cap/\l.length<=cap/\l.length<=L sz/\fP w b off vals/\bZ L F w sz l vals fp' /\
    (own=true/\fp=b::fp'/\off=0/\mE w b (off+cap * sz)\/own=false/\F b/\fp'=[]/\fp=[])
 | .vp l,y,fp=>fp=[]/\∃ b off vals,y=.pointer (some ⟨b,off,none⟩)/\F b/\fP w b off vals/\au L F w l vals []
 | .arr b off len sz,y,fp=>fp=[]/\∃ cap,y=.slice (some ⟨b,off,none⟩) len cap/\len<=cap/\len<=L sz/\mE w b (off+cap * sz)
 | .ptr b off,y,fp=>y=.pointer (some ⟨b,off,none⟩)/\fp=[]
 | .agg l,y,fp=>∃ vs:List Value,y=.agg vs.toArray/\au L F w l vs fp
 | .tup l,y,fp=>∃ vs:List Value,y=.tuple vs.toArray/\au L F w l vs fp
 | .fn f l,y,fp=>∃ vs:List Value,y=.func (.func f) #[] vs.toArray/\au L F w l vs fp
 | .cnd g x,y,fp=>(g=true->Rep L F w x y fp)/\(g=false->y=undef/\fp=[])
 | .pin v x,y,fp=>y=v/\Rep L F w x y fp
 | .slo sz l,y,fp=>(y=.slice none 0 0/\l=[]/\fp=[]) \/
   ∃ b off cap vals fp',y=.slice (some ⟨b,off,none⟩) l.length cap/\l.length<=cap/\l.length<=L sz/\fP w b off vals/\bZ L F w sz l vals fp'/\fp=b::fp'/\mE w b (off+cap * sz)
def au(L:eaa)(F:faa)(w:World):List AV->List Value->List Nat->Prop
 | [],vs,fp=>vs=[]/\fp=[]
 | x::xs,vs,fp=>∃ y vs' f1 f2,vs=y::vs'/\fp=f1++f2/\Rep L F w x y f1/\au L F w xs vs' f2
def bZ(L:eaa)(F:faa)(w:World)(sz:Nat):List AV->List Value->List Nat->Prop
 | [],vs,fp=>vs=[]/\fp=[]
 | x::xs,vs,fp=>∃ y vs' f1 f2,vs=y.cells.toList++vs'/\y.cells.size=sz/\fp=f1++f2/\Rep L F w x y f1/\bZ L F w sz xs vs' f2
end
structure Ext(S:faa)(w w':World):Prop where
 size:w.heap.size<=w'.heap.size
 same:∀ b,S b->w'.heap[b]? = w.heap[b]?
 shape:∀ (b:Nat) (c:Array Value) (T:TypeId) (z:Nat×Nat),w.heap[b]? = some (.cells c T z)->∃ c':Array Value,w'.heap[b]? = some (.cells c' T z)/\c'.size=c.size
structure Kp(U:faa)(w w':World):Prop where
 os:w'.os=w.os
 tape:w'.tape=w.tape
 output:w'.output=w.output
 size:w.heap.size<=w'.heap.size
 block:∀ k,U k->w'.heap[k]? = w.heap[k]?
 shape:∀ (b:Nat) (c:Array Value) (T:TypeId) (z:Nat×Nat),w.heap[b]? = some (.cells c T z)->∃ c':Array Value,w'.heap[b]? = some (.cells c' T z)/\c'.size=c.size
def Kp.refl(U:faa)(w:World):Kp U w w:=⟨rfl,rfl,rfl,Nat.le_refl _,fun _ _=>rfl,fun _ c _ _ h=>⟨c,h,rfl⟩⟩
def Kp.trans{U:faa}{a b c:World}(h:Kp U a b)(k:Kp U b c):Kp U a c:=by refine ⟨k.os.trans h.os,k.tape.trans h.tape,k.output.trans h.output,Nat.le_trans h.size k.size,fun i hi=>(k.block i hi).trans (h.block i hi),fun i cc T z hc=>?_⟩;obtain ⟨c1,h1,h2⟩:=h.shape i cc T z hc;obtain ⟨c2,h3,h4⟩:=k.shape i c1 T z h1;exact ⟨c2,h3,by omega⟩
def Kp.mono{U V:faa}{w w':World}(h:Kp U w w')(hU:∀ b,V b->U b):Kp V w w':=⟨h.os,h.tape,h.output,h.size,fun k hk=>h.block k (hU k hk),h.shape⟩
def Kp.MQ{U S:faa}{n:Nat}{w w':World}(h:Below n w w')(he:Ext S w w')(hU:∀ b,U b->b<n):Kp U w w':=⟨h.os,h.tape,h.output,h.size,fun k hk=>h.block k (hU k hk),he.shape⟩
def fP.ext{S:faa}{w w':World}(h:Ext S w w'){b off:Nat}{vals:List Value}(hb:S b)(r:fP w b off vals):fP w' b off vals:=by obtain ⟨c,T,z,hc,hi⟩:=r;exact ⟨c,T,z,by rw [h.same b hb];exact hc,hi⟩
def mE.ext{S:faa}{w w':World}(h:Ext S w w'){b n:Nat}(r:mE w b n):mE w' b n:=by obtain ⟨c,T,hc,hi⟩:=r;obtain ⟨c',h',hs⟩:=h.shape b c T _ hc;exact ⟨c',T,h',by omega⟩
mutual
def Rep.ext{L:eaa}{S F F':faa}{w w':World}(h:Ext S w w')(hF:∀ b,F b->F' b/\S b):∀ {x:AV} {y:Value} {fp:List Nat},(∀ b,b∈fp->S b)->Rep L F w x y fp->Rep L F' w' x y fp
 | .dead,_,_,_,r=>by simpa [Rep] using r
 | .v _,_,_,_,r=>by simpa [Rep] using r
 | .str _,_,_,_,r=>by simpa [Rep] using r
 | .sl own sz l,y,fp,hS,r=>by
  simp only [Rep] at r ⊢;rcases r with r|⟨b,off,cap,vals,fp',hy,h1,h2,hrow,he,ho⟩
  ·exact .inl r
  ·refine .inr ⟨b,off,cap,vals,fp',hy,h1,h2,?_,?_,?_⟩
   ·rcases ho with ⟨_,rfl,_⟩|⟨_,hb,_,_⟩
    ·exact hrow.ext h (hS b (by simp))
    ·exact hrow.ext h (hF b hb).2
   ·refine bZ.ext h hF (fun b' hb'=>?_) he;rcases ho with ⟨_,rfl,_⟩|⟨_,hb,rfl,_⟩
    ·exact hS b' (by simp [hb'])
    ·simp at hb'
   ·rcases ho with ⟨a,e,o⟩|⟨a,hb,e1,e2⟩
    ·exact .inl ⟨a,e,o.1,o.2.ext h⟩
    ·exact .inr ⟨a,(hF b hb).1,e1,e2⟩
 | .vp l,y,fp,hS,r=>by
  simp only [Rep] at r ⊢;obtain ⟨e,b,off,vals,hy,hb,hrow,hl⟩:=r;exact ⟨e,b,off,vals,hy,(hF b hb).1,hrow.ext h (hF b hb).2,au.ext h hF (by simp) hl⟩
 | .arr b off len sz,y,fp,_,r=>by
  simp only [Rep] at r ⊢;obtain ⟨e,cap,hy,h1,h2,o⟩:=r;exact ⟨e,cap,hy,h1,h2,o.ext h⟩
 | .ptr _ _,_,_,_,r=>by simpa [Rep] using r
 | .agg l,y,fp,hS,r=>by
  simp only [Rep] at r ⊢;obtain ⟨vs,hy,hl⟩:=r;exact ⟨vs,hy,au.ext h hF hS hl⟩
 | .tup l,y,fp,hS,r=>by
  simp only [Rep] at r ⊢;obtain ⟨vs,hy,hl⟩:=r;exact ⟨vs,hy,au.ext h hF hS hl⟩
 | .fn f l,y,fp,hS,r=>by
  simp only [Rep] at r ⊢;obtain ⟨vs,hy,hl⟩:=r;exact ⟨vs,hy,au.ext h hF hS hl⟩
 | .cnd g x,y,fp,hS,r=>by
  simp only [Rep] at r ⊢;exact ⟨fun e=>Rep.ext h hF hS (r.1 e),r.2⟩
 | .pin v x,y,fp,hS,r=>by
  simp only [Rep] at r ⊢;exact ⟨r.1,Rep.ext h hF hS r.2⟩
 | .slo sz l,y,fp,hS,r=>by
  simp only [Rep] at r ⊢;rcases r with r|⟨b,off,cap,vals,fp',hy,h1,h2,hrow,he,rfl,o⟩
  ·exact .inl r
  ·exact .inr ⟨b,off,cap,vals,fp',hy,h1,h2,hrow.ext h (hS b (by simp)),bZ.ext h hF (fun b' hb'=>hS b' (by simp [hb'])) he,rfl,o.ext h⟩
def au.ext{L:eaa}{S F F':faa}{w w':World}(h:Ext S w w')(hF:∀ b,F b->F' b/\S b):∀ {l:List AV} {vs:List Value} {fp:List Nat},(∀ b,b∈fp->S b)->au L F w l vs fp->au L F' w' l vs fp
 | [],_,_,_,r=>by simpa [au] using r
 | x::xs,vs,fp,hS,r=>by
  simp only [au] at r ⊢;obtain ⟨y,vs',f1,f2,hv,rfl,hx,hxs⟩:=r;exact ⟨y,vs',f1,f2,hv,rfl,Rep.ext h hF (fun b hb=>hS b (by simp [hb])) hx,au.ext h hF (fun b hb=>hS b (by simp [hb])) hxs⟩
def bZ.ext{L:eaa}{S F F':faa}{w w':World}(h:Ext S w w')(hF:∀ b,F b->F' b/\S b){sz:Nat}:∀ {l:List AV} {vs:List Value} {fp:List Nat},(∀ b,b∈fp->S b)->bZ L F w sz l vs fp->bZ L F' w' sz l vs fp
 | [],_,_,_,r=>by simpa [bZ] using r
 | x::xs,vs,fp,hS,r=>by
  simp only [bZ] at r ⊢;obtain ⟨y,vs',f1,f2,hv,hsz,rfl,hx,hxs⟩:=r;exact ⟨y,vs',f1,f2,hv,hsz,rfl,Rep.ext h hF (fun b hb=>hS b (by simp [hb])) hx,bZ.ext h hF (fun b hb=>hS b (by simp [hb])) hxs⟩
end
mutual
def AV.frz:AV->AV
 | .sl o sz l=>bif o then .sl false sz (AV.bg l) else .sl false sz l
 | .agg l=>.agg (AV.bg l)
 | .tup l=>.tup (AV.bg l)
 | .fn f l=>.fn f (AV.bg l)
 | .cnd g x=>.cnd g x.frz
 | .pin _ x=>x.frz
 | .slo sz l=>.sl false sz (AV.bg l)
 | x=>x
def AV.bg:List AV->List AV
 | []=>[]
 | x::xs=>x.frz::AV.bg xs
end
def AV.ng(l:List AV):AV.bg l=l.map AV.frz:=by
 induction l with
 | nil=>rfl
 | cons x xs ih=>simp [AV.bg,ih]
mutual
def Rep.frz{L:eaa}{F F':faa}{w:World}(hF:∀ b,F b->F' b):∀ {x:AV} {y:Value} {fp:List Nat},(∀ b,b∈fp->F' b)->Rep L F w x y fp->Rep L F' w x.frz y []
 | .dead,_,_,_,_=>by simp [Rep,AV.frz]
 | .v _,_,_,_,r=>by simp only [Rep,AV.frz] at r ⊢;exact ⟨r.1,by trivial⟩
 | .str _,_,_,_,r=>by simp only [Rep,AV.frz] at r ⊢;exact ⟨r.1,r.2.1,by trivial⟩
 | .sl true sz l,y,fp,hS,r=>by
  simp only [Rep,AV.frz,cond_true] at r ⊢;rcases r with ⟨r1,rfl,r3⟩|⟨b,off,cap,vals,fp',hy,h1,h2,hrow,he,ho⟩
  ·exact .inl ⟨r1.imp id (fun e=>absurd e.1 (by simp)),by simp [AV.bg],by trivial⟩
  ·have hl:(AV.bg l).length=l.length:=by simp [AV.ng]
   refine .inr ⟨b,off,cap,vals,[],by rw [hl];exact hy,by rw [hl];exact h1,by rw [hl];exact h2,hrow,?_,?_⟩
   ·refine bZ.frz hF (fun b' hb'=>?_) he;rcases ho with ⟨_,rfl,_⟩|⟨e,_⟩
    ·exact hS b' (by simp [hb'])
    ·cases e
   ·rcases ho with ⟨a,e,o⟩|⟨e,_⟩
    ·exact .inr ⟨by trivial,hS b (by simp [e]),by trivial,by trivial⟩
    ·cases e
 | .sl false sz l,y,fp,hS,r=>by
  simp only [AV.frz,cond_false]
  have h0:fp=[]:=by
   simp only [Rep] at r;rcases r with ⟨_,_,e⟩|⟨_,_,_,_,_,_,_,_,_,_,ho⟩
   ·exact e
   ·rcases ho with ⟨e,_⟩|⟨_,_,_,e⟩
    ·cases e
    ·exact e
  subst h0;exact Rep.ext (S:=fun _=>True) ⟨Nat.le_refl _,fun _ _=>rfl,fun b c T z h=>⟨c,h,rfl⟩⟩ (fun b h=>⟨hF b h,trivial⟩) (by simp) r
 | .vp l,y,fp,hS,r=>by
  simp only [Rep,AV.frz] at r ⊢;obtain ⟨e,b,off,vals,hy,hb,hrow,hl⟩:=r;refine ⟨trivial,b,off,vals,hy,hF b hb,hrow,au.ext (S:=fun _=>True) ⟨Nat.le_refl _,fun _ _=>rfl,fun b c T z h=>⟨c,h,rfl⟩⟩ (fun b h=>⟨hF b h,trivial⟩) (by simp) hl⟩
 | .arr b off len sz,y,fp,_,r=>by
  simp only [Rep,AV.frz] at r ⊢;exact ⟨trivial,r.2⟩
 | .ptr _ _,_,_,_,r=>by simp only [Rep,AV.frz] at r ⊢;exact ⟨r.1,by trivial⟩
 | .agg l,y,fp,hS,r=>by
  simp only [Rep,AV.frz] at r ⊢;obtain ⟨vs,hy,hl⟩:=r;exact ⟨vs,hy,au.frz hF hS hl⟩
 | .tup l,y,fp,hS,r=>by
  simp only [Rep,AV.frz] at r ⊢;obtain ⟨vs,hy,hl⟩:=r;exact ⟨vs,hy,au.frz hF hS hl⟩
 | .fn f l,y,fp,hS,r=>by
  simp only [Rep,AV.frz] at r ⊢;obtain ⟨vs,hy,hl⟩:=r;exact ⟨vs,hy,au.frz hF hS hl⟩
 | .cnd g x,y,fp,hS,r=>by
  simp only [Rep,AV.frz] at r ⊢;exact ⟨fun e=>Rep.frz hF hS (r.1 e),fun e=>⟨(r.2 e).1,by trivial⟩⟩
 | .pin v x,y,fp,hS,r=>by
  simp only [Rep,AV.frz] at r ⊢;exact Rep.frz hF hS r.2
 | .slo sz l,y,fp,hS,r=>by
  simp only [Rep,AV.frz] at r ⊢;rcases r with ⟨r1,rfl,r3⟩|⟨b,off,cap,vals,fp',hy,h1,h2,hrow,he,rfl,o⟩
  ·exact .inl ⟨.inl r1,by simp [AV.bg],by trivial⟩
  ·have hl:(AV.bg l).length=l.length:=by simp [AV.ng]
   exact .inr ⟨b,off,cap,vals,[],by rw [hl];exact hy,by rw [hl];exact h1,by rw [hl];exact h2,hrow,bZ.frz hF (fun b' hb'=>hS b' (by simp [hb'])) he,.inr ⟨by trivial,hS b (by simp),by trivial,by trivial⟩⟩
def au.frz{L:eaa}{F F':faa}{w:World}(hF:∀ b,F b->F' b):∀ {l:List AV} {vs:List Value} {fp:List Nat},(∀ b,b∈fp->F' b)->au L F w l vs fp->au L F' w (AV.bg l) vs []
 | [],_,_,_,r=>by simp only [au,AV.bg] at r ⊢;exact ⟨r.1,by trivial⟩
 | x::xs,vs,fp,hS,r=>by
  simp only [au,AV.bg] at r ⊢;obtain ⟨y,vs',f1,f2,hv,rfl,hx,hxs⟩:=r;exact ⟨y,vs',[],[],hv,rfl,Rep.frz hF (fun b hb=>hS b (by simp [hb])) hx,au.frz hF (fun b hb=>hS b (by simp [hb])) hxs⟩
def bZ.frz{L:eaa}{F F':faa}{w:World}(hF:∀ b,F b->F' b){sz:Nat}:∀ {l:List AV} {vs:List Value} {fp:List Nat},(∀ b,b∈fp->F' b)->bZ L F w sz l vs fp->bZ L F' w sz (AV.bg l) vs []
 | [],_,_,_,r=>by simp only [bZ,AV.bg] at r ⊢;exact ⟨r.1,by trivial⟩
 | x::xs,vs,fp,hS,r=>by
  simp only [bZ,AV.bg] at r ⊢;obtain ⟨y,vs',f1,f2,hv,hsz,rfl,hx,hxs⟩:=r;exact ⟨y,vs',[],[],hv,hsz,rfl,Rep.frz hF (fun b hb=>hS b (by simp [hb])) hx,bZ.frz hF (fun b hb=>hS b (by simp [hb])) hxs⟩
end
end
section
inductive Own where
 | none
 | key
 | slot (i:Nat)
 | obj (b:Nat)
def T:daa->Nat->AV
 | [],_=>.dead
 | p::l,i=>bif p.1 == i then p.2 else T l i
def O:List (Nat×Option (List AV))->Nat->Option (List AV)
 | [],_=>none
 | p::l,b=>if p.1=b then p.2 else O l b
structure AS where
 n:Nat
 t:daa
 o:List (Nat×Option (List AV))
def avz:Value->AV
 | .string s=>bif Nat.ble s.data.toList.length 4611686018427387904 then .str s.data.toList else .dead
 | x=>.v x
def ev(t:daa):Operand->AV
 | .tmp i=>T t i
 | .const x=>avz x
 | .global g=>.v (.pointer (some ⟨g,0,none⟩))
 | .func f=>.v (.func (.func f) #[] #[])
def fpo(fp:Nat->List Nat):Operand->List Nat
 | .tmp i=>fp i
 | _=>[]
def put(t:daa)(d:Option Nat)(x:AV):daa :=
 match d with
 | some d=>(d,x)::t
 | none=>t
def killL(t:daa):List Nat->daa
 | []=>t
 | i::C=>(i,.dead)::killL t C
def cz(n:Nat):Option Nat->Bool
 | some d=>Nat.blt d n
 | none=>true
def tabs:Nat->Option (Array Value)
 | 0=>some (Lib.pow10Tab.map fun z=>Value.int .u64 z).toArray
 | _=>none
def Tb(L:eaa)(B:faa)(w:World):Prop :=
 ∀ (k g:Nat) (c:Array Value),tabs k=some c->g<1048576->L (1000000000+k)=2097152+g->B g/\∃ (T:TypeId) (z:Nat×Nat),w.heap[g]? = some (.cells c T z)
def Tb.mono{L:eaa}{B B':faa}{w w':World}(h:Tb L B w)(k:∀ b,B b->B' b/\w'.heap[b]? = w.heap[b]?):Tb L B' w':=by intro i g c hc hl hg;obtain ⟨hb,T,z,e⟩:=h i g c hc hl hg;exact ⟨(k g hb).1,T,z,by rw [(k g hb).2];exact e⟩
def Tb.kp{L:eaa}{B B':faa}{w w':World}(h:Tb L B w)(hk:Kp B w w')(k:∀ b,B b->B' b):Tb L B' w':=h.mono fun b hb=>⟨k b hb,hk.block b hb⟩
structure mM(L:eaa)(B:faa)(F0:faa)(w0:World)(F:faa)(own:Nat->Own)(fs:Nat->List Nat)(o:List (Nat×Option (List AV)))(w:World):Prop where
 below:Kp B w0 w
 hB:∀ b,B b->b<w.heap.size
 tb:Tb L B w0
 f0:∀ b,F0 b->F b
 fl:∀ b,F b->own b=.none/\b<w.heap.size/\(F0 b\/¬ B b)
 ol:∀ b,own b≠.none->¬ B b/\b<w.heap.size
 obj:∀ b cells,O o b=some cells->own b=.key/\(fs b).Nodup/\(∀ k,k∈fs b->own k=.obj b) /\
  ∃ (c:Array Value) (Ty:TypeId) (vals rest:List Value),w.heap[b]? = some (.cells c Ty (0,0))/\c.toList=vals++rest/\au L F w cells vals (fs b)
structure cv(L:eaa)(B:faa)(F0:faa)(w0:World)(F:faa)(own:Nat->Own)(fp fs:Nat->List Nat)(s:AS)(a:Act)(w:World):Prop where
 below:Kp B w0 w
 hB:∀ b,B b->b<w.heap.size
 tb:Tb L B w0
 f0:∀ b,F0 b->F b
 fl:∀ b,F b->own b=.none/\b<w.heap.size/\(F0 b\/¬ B b)
 ol:∀ b,own b≠.none->¬ B b/\b<w.heap.size
 defers:a.defers=[]
 size:a.tmps.size=s.n
 slots:∀ i,Rep L F w (T s.t i) (a.tmps.getD i undef) (fp i)
 sn:∀ i,(fp i).Nodup
 so:∀ i b,b∈fp i->own b=.slot i
 obj:∀ b cells,O s.o b=some cells->own b=.key/\(fs b).Nodup/\(∀ k,k∈fs b->own k=.obj b) /\
  ∃ (c:Array Value) (Ty:TypeId) (vals rest:List Value),w.heap[b]? = some (.cells c Ty (0,0))/\c.toList=vals++rest/\au L F w cells vals (fs b)
def Den(L:eaa)(B:faa)(F0:faa)(w0:World)(s:AS)(a:Act)(w:World):Prop :=
 ∃ F own fp fs,cv L B F0 w0 F own fp fs s a w
def Ext.lC{w w':World}(h:Below w.heap.size w w'):Ext (fun b=>b<w.heap.size) w w':=by
 refine ⟨h.size,fun b hb=>h.block b hb,fun b c T z hc=>⟨c,?_,rfl⟩⟩
 have hb:b<w.heap.size:=by
  rcases Nat.lt_or_ge b w.heap.size with h|h
  ·exact h
  ·rw [Array.getElem?_eq_none h] at hc;cases hc
 rw [h.block b hb];exact hc
def Kept(fp:Nat->List Nat)(C:List Nat)(w:World)(b:Nat):Prop:=b<w.heap.size/\¬ ∃ i,i∈C/\b∈fp i
def Kp.lC{fp:Nat->List Nat}{C:List Nat}{w w':World}(h:Below w.heap.size w w'):Kp (Kept fp C w) w w':=Kp.MQ h (Ext.lC h) fun _ hb=>hb.1
def I2{L:eaa}{F:faa}{w:World}(x:Value):Rep L F w (avz x) x []:=by
 cases x with
 | string s =>
  simp only [avz]
  cases h:Nat.ble s.data.toList.length 4611686018427387904 with
  | true=>simp only [cond_true,Rep];exact ⟨by cases s;simp,Nat.le_of_ble_eq_true h,by trivial⟩
  | false=>simp [Rep]
 | _=>simp [avz,Rep]
def cv.ev{L:eaa}{B:faa}{F0:faa}{w0:World}{F:faa}{own:Nat->Own}{fp fs:Nat->List Nat}{s:AS}{a:Act}{w:World}
  (h:cv L B F0 w0 F own fp fs s a w) (x:Operand):Rep L F w (ev s.t x) (a.eval x) (fpo fp x):=by
 cases x with
 | tmp i=>exact h.slots i
 | const v=>exact I2 v
 | global g=>simp [Ab.ev,Rep,Act.eval,fpo]
 | func f=>simp [Ab.ev,Rep,Act.eval,fpo]
def mg(t:daa)(d:Option Nat)(x:AV)(i:Nat):T (put t d x) i=if d=some i then x else T t i:=by
 cases d with
 | none=>simp [put]
 | some d =>
  by_cases h:d=i
  ·simp [put,T,h]
  ·have:(d == i)=false:=by simpa using h
   simp [put,T,h,this]
def BI(t:daa)(C:List Nat)(i:Nat):T (killL t C) i=if i∈C then .dead else T t i:=by
 induction C with
 | nil=>simp [killL]
 | cons j C ih =>
  by_cases h:j=i
  ·simp [killL,T,h]
  ·have:(j == i)=false:=by simpa using h
   have h':¬ i=j:=fun e=>h e.symm;simp [killL,T,this,ih,h']
def iZ(a:Act)(d:Option Nat)(v:Value)(i:Nat)(hd:cz a.tmps.size d=true) :
  (a.put d v).tmps.getD i undef=if d=some i then v else a.tmps.getD i undef:=by
 cases d with
 | none=>simp [Act.put]
 | some d =>
  have hd':d<a.tmps.size:=by simpa [cz] using hd
  simp only [Act.put,Array.getD_eq_getD_getElem?,Array.getElem?_setIfInBounds];by_cases h:d=i
  ·subst h;simp [hd']
  ·simp [h]
section
variable {L : Nat -> Nat} {B : Nat -> Prop} {F0 : Nat -> Prop} {w0 : World} {F : Nat -> Prop} {own : Nat -> Own} {fp fs : Nat -> List Nat} {s : AS} {a : Act} {w : World}
def cv.iq(h:cv L B F0 w0 F own fp fs s a w){i b:Nat}(hb:b∈fp i):¬ B b/\b<w.heap.size :=
 h.ol b (by rw [h.so i b hb];simp)
def cv.put(h:cv L B F0 w0 F own fp fs s a w){w':World}{F':faa}{x:AV}{v:Value}{fx:List Nat}(C:List Nat)(d:Option Nat)
  (hd:cz s.n d=true) (hb:Kp (Kept fp C w) w w') (hF:∀ b,F b->F' b) (hF':∀ b,F' b->F b\/(w.heap.size<=b/\b<w'.heap.size)\/∃ i,i∈C/\b∈fp i)
  (hx:Rep L F' w' x v fx) (hn:fx.Nodup) (hfx:∀ b,b∈fx->¬ F' b/\((∃ i,i∈C/\b∈fp i)\/(w.heap.size<=b/\b<w'.heap.size))) :
  Den L B F0 w0 ⟨s.n,Ab.put (killL s.t C) d x,s.o⟩ (a.put d v) w':=by
 have cE:Ext (Kept fp C w) w w':=⟨hb.size,hb.block,hb.shape⟩
 have hsz:=hb.size
 have hB:=h.hB
 have hFS:∀ b,F b->F' b/\Kept fp C w b:=fun b hb'=>⟨hF b hb',(h.fl b hb').2.1,fun ⟨i,_,hbi⟩=>by have e1:=(h.fl b hb').1;rw [h.so i b hbi] at e1;cases e1⟩
 classical
 let own':Nat->Own:=fun b=>if b∈fx then (match d with|some d=>.slot d|none=>.none) else if (∃ i,i∈C/\b∈fp i) then .none else own b
 have Gy:∀ b,own b≠.none->(∀ i,i∈C->own b≠.slot i)->b ∉ fx/\¬ ∃ i,i∈C/\b∈fp i:=by
  intro b h1 h2;have h3:¬ ∃ i,i∈C/\b∈fp i:=fun ⟨i,hi,hbi⟩=>h2 i hi (h.so i b hbi);refine ⟨fun hbx=>?_,h3⟩;rcases (hfx b hbx).2 with e|⟨h4,_⟩
  ·exact h3 e
  ·have:=(h.ol b h1).2;omega
 refine ⟨F',own',fun i=>if d=some i then fx else if i∈C then [] else fp i,fs,?_⟩;refine { below:=?_,hB:=fun b hb'=>Nat.lt_of_lt_of_le (hB b hb') hsz,tb:=h.tb,f0:=fun b hb'=>hF b (h.f0 b hb'),fl:=?_,ol:=?_,defers:=?_,size:=?_,slots:=?_,sn:=?_,so:=?_,obj:=?_ }
 ·exact h.below.trans (hb.mono fun b hb'=>⟨hB b hb',fun ⟨i,_,hbi⟩=>(h.iq hbi).1 hb'⟩)
 ·intro b hb';have hnx:b ∉ fx:=fun hbx=>(hfx b hbx).1 hb';rcases hF' b hb' with h4|h4|⟨i,hi,hbi⟩
  ·refine ⟨?_,by have:=(h.fl b h4).2.1;omega,(h.fl b h4).2.2⟩;have:¬ ∃ i,i∈C/\b∈fp i:=fun ⟨i,hi,hbi⟩=>by have e1:=(h.fl b h4).1;rw [h.so i b hbi] at e1;cases e1
   simp only [own',if_neg hnx,if_neg this];exact (h.fl b h4).1
  ·refine ⟨?_,h4.2,.inr fun e=>by have:=hB b e;omega⟩;have:¬ ∃ i,i∈C/\b∈fp i:=fun ⟨i,hi,hbi⟩=>by have:=(h.iq hbi).2;omega
   simp only [own',if_neg hnx,if_neg this];rcases Classical.em (own b=.none) with e|e
   ·exact e
   ·have:=(h.ol b e).2;omega
  ·have:=h.iq hbi;exact ⟨by simp only [own',if_neg hnx];rw [if_pos ⟨i,hi,hbi⟩],by omega,.inr this.1⟩
 ·intro b hb';simp only [own'] at hb';by_cases hbx:b∈fx
  ·rcases (hfx b hbx).2 with ⟨i,hi,hbi⟩|⟨h3,h4⟩
   ·have:=h.iq hbi;exact ⟨this.1,by omega⟩
   ·exact ⟨fun e=>by have:=hB b e;omega,h4⟩
  ·rw [if_neg hbx] at hb';by_cases e:∃ i,i∈C/\b∈fp i
   ·rw [if_pos e] at hb';exact absurd rfl hb'
   ·rw [if_neg e] at hb';have:=h.ol b hb';exact ⟨this.1,by omega⟩
 ·cases d<;>simpa [Act.put] using h.defers
 ·cases d<;>simpa [Act.put] using h.size
 ·intro i;simp only [mg,BI];rw [iZ a d v i (by rw [h.size];exact hd)];by_cases e:d=some i
  ·simp only [e,if_true];exact hx
  ·simp only [if_neg e];by_cases hi:i∈C
   ·simp only [if_pos hi];simp [Rep]
   ·simp only [if_neg hi];exact Rep.ext cE hFS (fun b hb'=>⟨(h.iq hb').2,fun ⟨j,hj,hbj⟩=>by have e1:=h.so i b hb';rw [h.so j b hbj] at e1;cases e1;exact hi hj⟩) (h.slots i)
 ·intro i;split
  ·exact hn
  ·split
   ·simp
   ·exact h.sn i
 ·intro i b hb';by_cases e:d=some i
  ·subst e;simp only [if_true] at hb';simp only [own',if_pos hb']
  ·rw [if_neg e] at hb';by_cases hi:i∈C
   ·rw [if_pos hi] at hb';simp at hb'
   ·rw [if_neg hi] at hb';have ho:=h.so i b hb'
    have:=Gy b (by rw [ho];simp) (fun j hj e=>by rw [ho] at e;cases e;exact hi hj);simp only [own',if_neg this.1,if_neg this.2];exact ho
 ·intro b cells hO;obtain ⟨h1,h2,h3,c,Ty,vals,rest,h4,h5,h6⟩:=h.obj b cells hO;have hlt:=(h.ol b (by rw [h1];simp)).2;refine ⟨?_,h2,?_,c,Ty,vals,rest,?_,h5,?_⟩
  ·have:=Gy b (by rw [h1];simp) (fun j _ e=>by rw [h1] at e;cases e);simp only [own',if_neg this.1,if_neg this.2];exact h1
  ·intro k hk;have ho:=h3 k hk
   have:=Gy k (by rw [ho];simp) (fun j _ e=>by rw [ho] at e;cases e);simp only [own',if_neg this.1,if_neg this.2];exact ho
  ·rw [hb.block b ⟨hlt,fun ⟨i,_,hbi⟩=>by have e1:=h.so i b hbi;rw [h1] at e1;cases e1⟩];exact h4
  ·refine au.ext cE hFS (fun k hk=>?_) h6;exact ⟨(h.ol k (by rw [h3 k hk];simp)).2,fun ⟨i,_,hbi⟩=>by have e1:=h.so i k hbi;rw [h3 k hk] at e1;cases e1⟩
def cv.GL(h:cv L B F0 w0 F own fp fs s a w){i b:Nat}(hb:b∈fp i):¬ F b:=fun hf=>by
 have e1:=(h.fl b hf).1;rw [h.so i b hb] at e1;cases e1
end
end
section
mutual
def AV.cW:AV->Bool
 | .sl o _ _=>!o
 | .agg l=>AV.nownL l
 | .tup l=>AV.nownL l
 | .fn _ l=>AV.nownL l
 | .cnd _ x=>x.cW
 | .pin _ x=>x.cW
 | .slo _ _=>false
 | _=>true
def AV.nownL:List AV->Bool
 | []=>true
 | x::xs=>x.cW && AV.nownL xs
end
mutual
def Rep.dX{L:eaa}{F:faa}{w:World}:∀ {x:AV} {y:Value} {fp:List Nat},x.cW=true->Rep L F w x y fp->fp=[]
 | .dead,_,_,_,r=>by simpa [Rep] using r
 | .v _,_,_,_,r=>by simp only [Rep] at r;exact r.2
 | .str _,_,_,_,r=>by simp only [Rep] at r;exact r.2.2
 | .sl own sz l,y,fp,h,r=>by
  simp only [Rep] at r;simp [AV.cW] at h;subst h;rcases r with ⟨_,_,e⟩|⟨b,off,cap,vals,fp',_,_,_,_,_,ho⟩
  ·exact e
  ·rcases ho with ⟨e,_⟩|⟨_,_,_,e⟩
   ·cases e
   ·exact e
 | .vp l,_,_,_,r=>by simp only [Rep] at r;exact r.1
 | .arr ..,_,_,_,r=>by simp only [Rep] at r;exact r.1
 | .ptr ..,_,_,_,r=>by simp only [Rep] at r;exact r.2
 | .agg l,y,fp,h,r=>by
  simp only [Rep] at r;obtain ⟨vs,_,hl⟩:=r;exact au.dX (by simpa [AV.cW] using h) hl
 | .tup l,y,fp,h,r=>by
  simp only [Rep] at r;obtain ⟨vs,_,hl⟩:=r;exact au.dX (by simpa [AV.cW] using h) hl
 | .fn f l,y,fp,h,r=>by
  simp only [Rep] at r;obtain ⟨vs,_,hl⟩:=r;exact au.dX (by simpa [AV.cW] using h) hl
 | .cnd g x,y,fp,h,r=>by
  simp only [Rep] at r
  cases g with
  | true=>exact Rep.dX (by simpa [AV.cW] using h) (r.1 rfl)
  | false=>exact (r.2 rfl).2
 | .pin v x,y,fp,h,r=>by
  simp only [Rep] at r;exact Rep.dX (by simpa [AV.cW] using h) r.2
 | .slo ..,_,_,h,_=>by simp [AV.cW] at h
def au.dX{L:eaa}{F:faa}{w:World}:∀ {l:List AV} {vs:List Value} {fp:List Nat},AV.nownL l=true->au L F w l vs fp->fp=[]
 | [],_,_,_,r=>by simp only [au] at r;exact r.2
 | x::xs,vs,fp,h,r=>by
  simp only [au] at r;obtain ⟨y,vs',f1,f2,_,rfl,hx,hxs⟩:=r;simp [AV.nownL] at h;rw [Rep.dX h.1 hx,au.dX h.2 hxs];rfl
end
def kills(t:daa):List Operand->List Nat
 | []=>[]
 | .tmp i::xs=>bif (T t i).cW then kills t xs else i::kills t xs
 | _::xs=>kills t xs
def Dy{t:daa}{xs:List Operand}{i:Nat}(h:.tmp i∈xs)(ho:(T t i).cW=false):i∈kills t xs:=by
 induction xs with
 | nil=>cases h
 | cons x xs ih =>
  cases h with
  | head=>simp [kills,ho]
  | tail _ h =>
   have:=ih h;cases x<;>simp only [kills]<;>first|exact this|(cases (T t _).cW<;>simp [this])
def OpW(L:eaa)(P:Program)(o:Oper)(s:AS)(K:AS->Prop):Prop :=
 ∀ B F0 w0 a w next Q,Den L B F0 w0 s a w->(∀ s' a' w',K s'->Den L B F0 w0 s' a' w'->next a' w')->o.wp P a w next Q
structure EO(L:eaa)(F:faa)(fp:Nat->List Nat)(C:List Nat)(w:World)(x:AV)(v:Value)(w':World):Prop where
 below:Kp (Kept fp C w) w w'
 rep:∃ F' fx,(∀ b,F b->F' b)/\(∀ b,F' b->F b\/(w.heap.size<=b/\b<w'.heap.size)\/∃ i,i∈C/\b∈fp i)/\Rep L F' w' x v fx/\fx.Nodup /\
  ∀ b,b∈fx->¬ F' b/\((∃ i,i∈C/\b∈fp i)\/(w.heap.size<=b/\b<w'.heap.size))
def LOp(L:eaa)(P:Program)(s:AS)(o:Oper)(x:AV)(C:List Nat):Prop :=
 ∀ B F0 w0 F own fp fs a w next Q,cv L B F0 w0 F own fp fs s a w->(∀ v w',EO L F fp C w x v w'->next (a.put o.dst v) w')->o.wp P a w next Q
def LOp.opW{L:eaa}{P:Program}{s:AS}{o:Oper}{x:AV}{C:List Nat}(h:LOp L P s o x C)(hd:cz s.n o.dst=true){K:AS->Prop}
  (hK:K ⟨s.n,put (killL s.t C) o.dst x,s.o⟩):OpW L P o s K:=by
 intro B F0 w0 a w next Q cr bF
 obtain ⟨F,own,fp,fs,cr⟩:=cr;refine h B F0 w0 F own fp fs a w next Q cr fun v w' g=>bF _ _ _ hK ?_
 obtain ⟨F',fx,h1,h2,h3,h4,h5⟩:=g.rep;exact cr.put C o.dst hd g.below h1 h2 h3 h4 h5
def LOp.of_run{L:eaa}{P:Program}{s:AS}{o:Oper}{x:AV}{C:List Nat}
  (h:∀ B F0 w0 F own fp fs a w,cv L B F0 w0 F own fp fs s a w->∃ v fx,(execOp a.eval o).run P w=.ok (.value v) w/\Rep L F w x v fx/\fx.Nodup/\∀ b,b∈fx->∃ i,i∈C/\b∈fp i) :
  LOp L P s o x C:=by
 intro B F0 w0 F own fp fs a w next Q cr bF
 obtain ⟨v,fx,hr,hx,hn,hfx⟩:=h B F0 w0 F own fp fs a w cr;unfold Oper.wp;rw [hr];exact bF v w ⟨Kp.refl _ _,F,fx,fun _ h=>h,fun _ h=>.inl h,hx,hn,fun b hb=>⟨(hfx b hb).elim fun i hi=>cr.GL hi.2,.inl (hfx b hb)⟩⟩
def LOp.gL{L:eaa}{P:Program}{s:AS}{o:Oper}{x:AV}
  (h:∀ B F0 w0 F own fp fs a w,cv L B F0 w0 F own fp fs s a w->∃ v,(execOp a.eval o).run P w=.ok (.value v) w/\Rep L F w x v []) :
  LOp L P s o x []:=by
 refine LOp.of_run fun B F0 w0 F own fp fs a w cr=>?_;obtain ⟨v,hr,hx⟩:=h B F0 w0 F own fp fs a w cr;exact ⟨v,[],hr,hx,by simp,by simp⟩
def gj{L:eaa}{B:faa}{F0:faa}{w0:World}{F:faa}{own:Nat->Own}{fp fs:Nat->List Nat}{s:AS}{a:Act}{w:World}
  (h:cv L B F0 w0 F own fp fs s a w) {x:Operand} {xs:List Operand} (hx:x∈xs):∀ b,b∈fpo fp x->∃ i,i∈kills s.t xs/\b∈fp i:=by
 intro b hb
 cases x with
 | tmp i =>
  simp only [fpo] at hb
  cases ho:(T s.t i).cW with
  | true=>rw [Rep.dX ho (h.slots i)] at hb;simp at hb
  | false=>exact ⟨i,Dy hx ho,hb⟩
 | const _=>simp [fpo] at hb
 | global _=>simp [fpo] at hb
 | func _=>simp [fpo] at hb
def ni{L:eaa}{B:faa}{F0:faa}{w0:World}{F:faa}{own:Nat->Own}{fp fs:Nat->List Nat}{s:AS}{a:Act}{w:World}
  (h:cv L B F0 w0 F own fp fs s a w) (x:Operand):(fpo fp x).Nodup:=by
 cases x with
 | tmp i=>exact h.sn i
 | _=>simp [fpo]
section ops
variable {L : Nat -> Nat} {P : Program} {s : AS} {o : Oper}
def F8{x:Operand}(ho:o.op=.move x\/o.op=.assign x):LOp L P s o (ev s.t x) (kills s.t [x]):=by
 refine LOp.of_run fun B F0 w0 F own fp fs a w h=>⟨a.eval x,fpo fp x,?_,h.ev x,ni h x,gj h (by simp)⟩
 rcases ho with ho|ho<;>simp [execOp,ho]
def jn{z:Value}(h:∀ B F0 w0 F own fp fs a w,cv L B F0 w0 F own fp fs s a w->(execOp a.eval o).run P w=.ok (.value z) w):LOp L P s o (.v z) [] :=
 LOp.gL fun B F0 w0 F own fp fs a w hd=>⟨z,h B F0 w0 F own fp fs a w hd,by simp [Rep]⟩
def cv.val{B:faa}{F0:faa}{w0:World}{F:faa}{own:Nat->Own}{fp fs:Nat->List Nat}{a:Act}{w:World}
  (h:cv L B F0 w0 F own fp fs s a w) {x:Operand} {y:Value} (hx:Ab.ev s.t x=.v y):a.eval x=y:=by
 have:=h.ev x;rw [hx] at this;simp only [Rep] at this;exact this.1
def cv.vV{B:faa}{F0:faa}{w0:World}{F:faa}{own:Nat->Own}{fp fs:Nat->List Nat}{a:Act}{w:World}
  (h:cv L B F0 w0 F own fp fs s a w) {x:Operand} {l:List UInt8} (hx:Ab.ev s.t x=.str l):a.eval x=.string ⟨l.toArray⟩/\l.length<=4611686018427387904:=by
 have:=h.ev x;rw [hx] at this;simp only [Rep] at this;exact ⟨this.1,this.2.1⟩
def uI{l:List UInt8}(h:∀ B F0 w0 F own fp fs a w,cv L B F0 w0 F own fp fs s a w->(execOp a.eval o).run P w=.ok (.value (.string ⟨l.toArray⟩)) w/\l.length<=4611686018427387904):LOp L P s o (.str l) [] :=
 LOp.gL fun B F0 w0 F own fp fs a w hd=>⟨_,(h B F0 w0 F own fp fs a w hd).1,by simp only [Rep];exact ⟨by trivial,(h B F0 w0 F own fp fs a w hd).2,by trivial⟩⟩
def Ci{op:BinOp}{ty ty':TypeId}{x y:Operand}{u v z:Value}(ho:o.op=.binOp op ty x y ty')(hx:ev s.t x=.v u)(hy:ev s.t y=.v v)
  (hr:∀ w,(do eqGuard op ty x y u v;binOp op ty u v:Sem Value).run P w=.ok z w):LOp L P s o (.v z) []:=by
 refine jn fun B F0 w0 F own fp fs a w h=>?_;have:=hr w;simp only [execOp,ho,h.val hx,h.val hy];rw [Sem.run_bind,this];rfl
def Vy{op:UnOp}{ty:TypeId}{x:Operand}{u z:Value}(ho:o.op=.unOp op ty x)(hx:ev s.t x=.v u)
  (hr:∀ w,(Op.unary op u).run P w=.ok z w):LOp L P s o (.v z) []:=by
 refine jn fun B F0 w0 F own fp fs a w h=>?_;simp only [execOp,ho,h.val hx];rw [Sem.run_bind,hr w];rfl
end ops
def AV.hdr:AV->AV
 | .pin u _=>.v u
 | x=>x
def fJ:List AV->List AV
 | []=>[]
 | x::xs=>x.hdr::fJ xs
def AV.cpy:AV->AV
 | .pin u _=>.v u
 | .agg l=>.agg (fJ l)
 | x=>x
def AV.aaz:AV->Option Value
 | .pin u _=>some u
 | _=>none
def au.V9{L:eaa}{F:faa}{w:World}:∀ {l:List AV} {vs:List Value} {fp:List Nat},au L F w l vs fp->∃ fp',au L F w (fJ l) vs fp'
 | [],_,fp,h=>⟨fp,h⟩
 | x::xs,vs,fp,h=>by
  simp only [au,fJ] at h ⊢;obtain ⟨y,vs',f1,f2,rfl,_,hx,hxs⟩:=h;obtain ⟨f2',h2⟩:=hxs.V9
  cases x with
  | pin v x=>simp only [Rep] at hx;exact ⟨[]++f2',y,vs',[],f2',rfl,rfl,by simp only [AV.hdr,Rep];exact ⟨hx.1,by trivial⟩,h2⟩
  | _=>exact ⟨f1++f2',y,vs',f1,f2',rfl,rfl,hx,h2⟩
def Rep.cpy{L:eaa}{F:faa}{w:World}{y:AV}{v:Value}{f:List Nat}(hn:y.cpy.cW=true)(h:Rep L F w y v f):Rep L F w y.cpy v []:=by
 have:∃ f',Rep L F w y.cpy v f':=by
  cases y with
  | pin u x=>simp only [Rep] at h;exact ⟨[],by simp only [AV.cpy,Rep];exact ⟨h.1,by trivial⟩⟩
  | agg l =>
   simp only [Rep] at h;obtain ⟨vs,e,hl⟩:=h;obtain ⟨f',hf⟩:=hl.V9;exact ⟨f',by simp only [AV.cpy,Rep];exact ⟨vs,e,hf⟩⟩
  | _=>exact ⟨f,h⟩
 obtain ⟨f',hf⟩:=this;rw [Rep.dX hn hf] at hf;exact hf
end
section
section lists
variable {L : Nat -> Nat} {F : Nat -> Prop} {w : World}
def au.len:∀ {l:List AV} {vs:List Value} {fp:List Nat},au L F w l vs fp->vs.length=l.length
 | [],_,_,r=>by simp only [au] at r;simp [r.1]
 | x::xs,vs,fp,r=>by
  simp only [au] at r;obtain ⟨y,vs',f1,f2,rfl,rfl,hx,hxs⟩:=r;simp [au.len hxs]
def au.get:∀ {l:List AV} {vs:List Value} {fp:List Nat} {i:Nat} {x:AV},au L F w l vs fp->l[i]? = some x->∃ y f,vs[i]? = some y/\Rep L F w x y f/\∀ b,b∈f->b∈fp
 | [],_,_,_,_,_,h=>by simp at h
 | x::xs,vs,fp,i,z,r,h=>by
  simp only [au] at r;obtain ⟨y,vs',f1,f2,rfl,rfl,hx,hxs⟩:=r
  cases i with
  | zero=>simp at h;subst h;exact ⟨y,f1,by simp,hx,fun b hb=>by simp [hb]⟩
  | succ i =>
   obtain ⟨y',f,h1,h2,h3⟩:=au.get hxs (i:=i) (by simpa using h);exact ⟨y',f,by simpa using h1,h2,fun b hb=>by simp [h3 b hb]⟩
def au.split:∀ {l1 l2:List AV} {vs:List Value} {fp:List Nat},au L F w (l1++l2) vs fp->∃ v1 v2 f1 f2,vs=v1++v2/\fp=f1++f2/\au L F w l1 v1 f1/\au L F w l2 v2 f2
 | [],l2,vs,fp,r=>⟨[],vs,[],fp,rfl,rfl,by simp [au],r⟩
 | x::xs,l2,vs,fp,r=>by
  simp only [List.cons_append,au] at r;obtain ⟨y,vs',f1,f2,rfl,rfl,hx,hxs⟩:=r;obtain ⟨v1,v2,g1,g2,rfl,rfl,h1,h2⟩:=au.split hxs;exact ⟨y::v1,v2,f1++g1,g2,rfl,by simp,by simp only [au];exact ⟨y,v1,f1,g1,rfl,rfl,hx,h1⟩,h2⟩
def au.join:∀ {l1 l2:List AV} {v1 v2:List Value} {f1 f2:List Nat},au L F w l1 v1 f1->au L F w l2 v2 f2->au L F w (l1++l2) (v1++v2) (f1++f2)
 | [],l2,v1,v2,f1,f2,r1,r2=>by simp only [au] at r1;obtain ⟨rfl,rfl⟩:=r1;exact r2
 | x::xs,l2,v1,v2,f1,f2,r1,r2=>by
  simp only [List.cons_append,au] at r1 ⊢;obtain ⟨y,vs',g1,g2,rfl,rfl,hx,hxs⟩:=r1;exact ⟨y,vs'++v2,g1,g2++f2,rfl,by simp,hx,au.join hxs r2⟩
def au.cut{l:List AV}{vs:List Value}{fp:List Nat}(r:au L F w l vs fp)(i n:Nat):∃ f,au L F w ((l.drop i).take n) ((vs.drop i).take n) f/\∀ b,b∈f->b∈fp:=by
 have hl:=r.len
 have e1:l=l.take i++((l.drop i).take n++(l.drop i).drop n):=by rw [List.take_append_drop,List.take_append_drop]
 rw [e1] at r;obtain ⟨v1,v23,f1,f23,rfl,rfl,r1,r23⟩:=r.split;obtain ⟨v2,v3,f2,f3,rfl,rfl,r2,r3⟩:=r23.split;have h1:=r1.len
 have h2:=r2.len;refine ⟨f2,?_,fun b hb=>by simp [hb]⟩
 have e2:((v1++(v2++v3)).drop i).take n=v2:=by
  simp only [List.length_take,List.length_drop] at h1 h2;have h3:=r3.len;simp only [List.length_drop] at h3;by_cases hi:i<=l.length
  ·have hv1:v1.length=i:=by omega
   rw [<- hv1,List.drop_left];by_cases hn:n<=l.length - i
   ·have hv2:v2.length=n:=by omega
    rw [<- hv2,List.take_left]
   ·have hv3:v3=[]:=List.eq_nil_of_length_eq_zero (by omega);subst hv3;rw [List.append_nil,List.take_of_length_le (by omega)]
  ·have hv2:v2=[]:=List.eq_nil_of_length_eq_zero (by omega)
   have hv3:v3=[]:=List.eq_nil_of_length_eq_zero (by omega);subst hv2 hv3;have:v1.drop i=[]:=List.drop_eq_nil_of_le (by omega);simp [this]
 rw [e2];exact r2
end lists
def fo(b off n:Nat):(⟨b,off,none⟩:Addr).add n=⟨b,off+n,none⟩:=by unfold Addr.add;split<;>simp_all
def fP.cell{w:World}{b off:Nat}{vals:List Value}(h:fP w b off vals){i:Nat}{v:Value}(hi:vals[i]? = some v):w.cell? ⟨b,off+i,none⟩=some v:=by
 obtain ⟨c,T,z,hc,hr⟩:=h
 have hlt:i<vals.length:=by
  rcases Nat.lt_or_ge i vals.length with h|h
  ·exact h
  ·rw [List.getElem?_eq_none h] at hi;cases hi
 simp [World.cell?,hc,hr i hlt,hi]
def fP.cut{w:World}{b off:Nat}{vals:List Value}(h:fP w b off vals)(i n:Nat):fP w b (off+i) ((vals.drop i).take n):=by obtain ⟨c,T,z,hc,hr⟩:=h;refine ⟨c,T,z,hc,fun j hj=>?_⟩;simp only [List.length_take,List.length_drop] at hj;have:=hr (i+j) (by omega);rw [Nat.add_assoc,this,List.getElem?_take,if_pos (by omega),List.getElem?_drop]
def fP.load{P:Program}{w:World}{b off:Nat}{vals:List Value}(h:fP w b off vals):(loadCells ⟨b,off,none⟩ vals.length).run P w=.ok vals.toArray w :=
 run_loadCells_list (P:=P) w _ vals fun j v hj=>by rw [fo];exact h.cell hj
def ty(P:Program)(t:TypeId):Option (Bool×Nat) :=
 match P.underlying t,P.info? t with
 | some d,some i=>some ((match d with|.struct _|.array _ _=>true|_=>false),i.size)
 | _,_=>none
def qw{P:Program}{t:TypeId}{g:Bool}{n:Nat}(h:ty P t=some (g,n))(w:World):(isAgg t).run P w=.ok g w/\(sizeOf t).run P w=.ok n w:=by
 unfold ty at h
 cases hu:P.underlying t with
 | none=>simp [hu] at h
 | some d =>
  cases hi:P.info? t with
  | none=>simp [hu,hi] at h
  | some i =>
   simp [hu,hi] at h;obtain ⟨rfl,rfl⟩:=h;constructor
   ·cases d<;>simp [isAgg,run_underlying hu]
   ·simp [sizeOf,typeInfo,hi]
def fld(P:Program)(t:TypeId)(k:Nat):Option (Nat×Bool×Nat) :=
 match P.underlying t with
 | some (.struct fs)=>match fs[k]? with
  | some f=>match ty P f.type with
   | some (g,n)=>some (f.offset,g,n)
   | none=>none
  | none=>none
 | _=>none
def tL{P:Program}{t:TypeId}{k off n:Nat}{g:Bool}(h:fld P t k=some (off,g,n)) :
  ∃ fs f,P.underlying t=some (.struct fs)/\fs[k]? = some f/\ty P f.type=some (g,n)/\f.offset=off:=by
 unfold fld at h;split at h
 ·rename_i fs hfs;split at h
  ·rename_i f hf;split at h
   ·rename_i g' n' hty;simp at h;obtain ⟨rfl,rfl,rfl⟩:=h;exact ⟨fs,f,hfs,hf,hty,rfl⟩
   ·cases h
  ·cases h
 ·cases h
def val(g:Bool)(n:Nat)(cells:List AV):Option AV :=
 bif g then (bif Nat.ble n cells.length then some (.agg (cells.take n)) else none) else cells.head?
section ops
variable {L : Nat -> Nat} {P : Program} {s : AS} {o : Oper}
def BK{F:faa}{w:World}{cells:List AV}{vals:List Value}{fp:List Nat}{g:Bool}{n:Nat}{y:AV}(r:au L F w cells vals fp)(h:val g n cells=some y) :
  (g=true/\n<=vals.length/\∃ f,Rep L F w y (.agg (vals.take n).toArray) f/\∀ b,b∈f->b∈fp)\/(g=false/\∃ u f,vals[0]? = some u/\Rep L F w y u f/\∀ b,b∈f->b∈fp):=by
 unfold val at h
 cases g with
 | true =>
  left
  cases hn:Nat.ble n cells.length with
  | false=>simp [hn] at h
  | true =>
   simp [hn] at h;subst h;obtain ⟨f,hf,hsub⟩:=r.cut 0 n;simp only [List.drop_zero] at hf;exact ⟨rfl,by rw [r.len];exact Nat.le_of_ble_eq_true hn,f,by simp only [Rep];exact ⟨_,rfl,hf⟩,hsub⟩
 | false =>
  right;simp at h;obtain ⟨u,f,h1,h2,h3⟩:=r.get (i:=0) (x:=y) (by rw [<- List.head?_eq_getElem?];exact h);exact ⟨rfl,u,f,h1,h2,h3⟩
def Bg{xt:TypeId}{x:Operand}{k off n:Nat}{g:Bool}{cells:List AV}{y z:AV}(ho:o.op=.field xt x k)(hx:ev s.t x=.agg cells)
  (hf:fld P xt k=some (off,g,n)) (hy:val g n (cells.drop off)=some y) (hown:∀ (F:faa) (w:World) (v:Value) (f:List Nat),Rep L F w y v f->Rep L F w z v []):LOp L P s o z []:=by
 obtain ⟨fs,f,hu,hk,ht,rfl⟩:=tL hf;refine LOp.gL fun B F0 w0 F own fp fs' a w h=>?_;have hr:=h.ev x;rw [hx] at hr;simp only [Rep] at hr;obtain ⟨vs,hv,hl⟩:=hr
 have PX:∃ f',au L F w (cells.drop f.offset) (vs.drop f.offset) f':=by
  obtain ⟨f',h1,_⟩:=hl.cut f.offset (cells.length+vs.length);rw [List.take_of_length_le (by simp;omega),List.take_of_length_le (by simp;omega)] at h1;exact ⟨f',h1⟩
 obtain ⟨f',PX⟩:=PX;obtain ⟨ha,hs⟩:=qw ht w;rcases BK PX hy with ⟨rfl,hn,f2,r2,_⟩|⟨rfl,u,f2,hu2,r2,_⟩
 ·refine ⟨_,?_,hown _ _ _ _ r2⟩;simp only [execOp,ho,hv,Instr.field,Sem.run_bind,run_underlying hu,Result.andThen_ok,hk,asAgg,Sem.run_pure,part,ha,if_true,hs];simp [List.extract_eq_take_drop]
 ·refine ⟨u,?_,hown _ _ _ _ r2⟩;have:vs[f.offset]? = some u:=by simpa using hu2
  simp [execOp,ho,hv,Instr.field,run_underlying hu,hk,asAgg,part,ha,this]
def MZ{xt:TypeId}{x:Operand}{k off n:Nat}{g:Bool}{cells:List AV}{y:AV}(ho:o.op=.field xt x k)(hx:ev s.t x=.agg cells)
  (hf:fld P xt k=some (off,g,n)) (hy:val g n (cells.drop off)=some y) (hown:y.cW=true):LOp L P s o y [] :=
 Bg ho hx hf hy fun _ _ _ _ r=>by rw [Rep.dX hown r] at r;exact r
def zl{xt:TypeId}{x:Operand}{k off n:Nat}{g:Bool}{cells:List AV}(ho:o.op=.fieldAddr xt x k)(hx:ev s.t x=.vp cells)
  (hf:fld P xt k=some (off,g,n)) (hn:Nat.blt 0 n=true):LOp L P s o (.vp (cells.drop off)) []:=by
 obtain ⟨fs,f,hu,hk,ht,rfl⟩:=tL hf;have hn':¬ n=0:=by simp at hn;omega
 refine LOp.gL fun B F0 w0 F own fp fs' a w h=>?_;have hr:=h.ev x;rw [hx] at hr;simp only [Rep] at hr;obtain ⟨_,b,o',vals,hv,hb,hrow,hl⟩:=hr;obtain ⟨ha,hs⟩:=qw ht w;refine ⟨.pointer (some ⟨b,o'+f.offset,none⟩),?_,?_⟩
 ·simp [execOp,ho,hv,Instr.fieldAt,run_underlying hu,hk,Instr.sureAddr,fieldPlace,hs,hn',fo]
 ·simp only [Rep];refine ⟨trivial,b,_,vals.drop f.offset,rfl,hb,?_,?_⟩
  ·have:=hrow.cut f.offset vals.length;rw [List.take_of_length_le (by simp)] at this;exact this
  ·obtain ⟨f',h1,h2⟩:=hl.cut f.offset (cells.length+vals.length);rw [List.take_of_length_le (by simp;omega),List.take_of_length_le (by simp;omega)] at h1;have:f'=[]:=List.eq_nil_iff_forall_not_mem.2 fun b hb=>by simpa using h2 b hb
   rw [this] at h1;exact h1
def yu{xt:TypeId}{x:Operand}{k off n b o':Nat}{g:Bool}(ho:o.op=.fieldAddr xt x k)(hx:ev s.t x=.ptr b o')
  (hf:fld P xt k=some (off,g,n)) (hn:Nat.blt 0 n=true):LOp L P s o (.ptr b (o'+off)) []:=by
 obtain ⟨fs,f,hu,hk,ht,rfl⟩:=tL hf;have hn':¬ n=0:=by simp at hn;omega
 refine LOp.gL fun B F0 w0 F own fp fs' a w h=>?_;have hr:=h.ev x;rw [hx] at hr;simp only [Rep] at hr;obtain ⟨ha,hs⟩:=qw ht w;refine ⟨.pointer (some ⟨b,o'+f.offset,none⟩),?_,by simp [Rep]⟩;simp [execOp,ho,hr.1,Instr.fieldAt,run_underlying hu,hk,Instr.sureAddr,fieldPlace,hs,hn',fo]
def uJ{w:World}{t:TypeId}{g:Bool}{n b off:Nat}{vals:List Value}(ht:ty P t=some (g,n))(hrow:fP w b off vals) :
  (g=true->n<=vals.length->(loadVar t ⟨b,off,none⟩).run P w=.ok (.agg (vals.take n).toArray) w) /\
  (g=false->∀ u,vals[0]? = some u->(loadVar t ⟨b,off,none⟩).run P w=.ok u w):=by
 obtain ⟨ha,hs⟩:=qw ht w;constructor
 ·rintro rfl hn;have h1:=(hrow.cut 0 n).load (P:=P);simp only [List.drop_zero,Nat.add_zero,List.length_take,Nat.min_eq_left hn] at h1;simp [loadVar,ha,hs,h1]
 ·rintro rfl u hu;have:=hrow.cell hu;simp only [Nat.add_zero] at this;simp [loadVar,ha,this]
def H3{t:TypeId}{x:Operand}{n:Nat}{g:Bool}{cells:List AV}{y:AV}(ho:o.op=.load t x)(hx:ev s.t x=.vp cells)
  (ht:ty P t=some (g,n)) (hy:val g n cells=some y):LOp L P s o y []:=by
 refine LOp.of_run fun B F0 w0 F own fp fs' a w h=>?_;have hr:=h.ev x;rw [hx] at hr;simp only [Rep] at hr;obtain ⟨_,b,o',vals,hv,hb,hrow,hl⟩:=hr;obtain ⟨l1,l2⟩:=uJ (P:=P) ht hrow;rcases BK hl hy with ⟨rfl,hn,f2,r2,h2⟩|⟨rfl,u,f2,hu2,r2,h2⟩
 ·have:f2=[]:=List.eq_nil_iff_forall_not_mem.2 fun b hb=>by simpa using h2 b hb
  subst this;exact ⟨_,[],by simp [execOp,ho,hv,Instr.loadAt,Instr.sureAddr,l1 rfl hn],r2,by simp,by simp⟩
 ·have:f2=[]:=List.eq_nil_iff_forall_not_mem.2 fun b hb=>by simpa using h2 b hb
  subst this;exact ⟨_,[],by simp [execOp,ho,hv,Instr.loadAt,Instr.sureAddr,l2 rfl u hu2],r2,by simp,by simp⟩
def cv.row{B:faa}{F0:faa}{w0:World}{F:faa}{own:Nat->Own}{fp fs:Nat->List Nat}{a:Act}{w:World}
  (h:cv L B F0 w0 F own fp fs s a w) {b:Nat} {cells:List AV} (hb:O s.o b=some cells) (off:Nat) :
  ∃ vals f,fP w b off vals/\au L F w (cells.drop off) vals f/\∀ k,k∈f->k∈fs b:=by
 obtain ⟨_,_,_,c,Ty,vals,rest,h4,h5,h6⟩:=h.obj b cells hb
 have hrow:fP w b 0 vals:=⟨c,Ty,_,h4,fun i hi=>by
  rw [Nat.zero_add,<- Array.getElem?_toList,h5,List.getElem?_append_left hi]⟩
 have hl:=h6.len;obtain ⟨f',h1,h2⟩:=h6.cut off (cells.length+vals.length);rw [List.take_of_length_le (by simp;omega),List.take_of_length_le (by simp;omega)] at h1;refine ⟨vals.drop off,f',?_,h1,h2⟩;have:=hrow.cut off vals.length;rw [List.take_of_length_le (by simp),Nat.zero_add] at this;exact this
def pG{t:TypeId}{x:Operand}{n b off:Nat}{g:Bool}{cells:List AV}{y z:AV}(ho:o.op=.load t x)(hx:ev s.t x=.ptr b off)
  (hb:O s.o b=some cells) (ht:ty P t=some (g,n)) (hy:val g n (cells.drop off)=some y) (hown:∀ (F:faa) (w:World) (v:Value) (f:List Nat),Rep L F w y v f->Rep L F w z v []):LOp L P s o z []:=by
 refine LOp.gL fun B F0 w0 F own fp fs' a w h=>?_;have hr:=h.ev x;rw [hx] at hr;simp only [Rep] at hr;obtain ⟨vals,f,hrow,hl,_⟩:=h.row hb off;obtain ⟨l1,l2⟩:=uJ (P:=P) ht hrow;rcases BK hl hy with ⟨rfl,hn,f2,r2,_⟩|⟨rfl,u,f2,hu2,r2,_⟩
 ·exact ⟨.agg (vals.take n).toArray,by simp [execOp,ho,hr.1,Instr.loadAt,Instr.sureAddr,l1 rfl hn],hown _ _ _ _ r2⟩
 ·exact ⟨u,by simp [execOp,ho,hr.1,Instr.loadAt,Instr.sureAddr,l2 rfl u hu2],hown _ _ _ _ r2⟩
def wx{t:TypeId}{x:Operand}{n b off:Nat}{g:Bool}{cells:List AV}{y:AV}(ho:o.op=.load t x)(hx:ev s.t x=.ptr b off)
  (hb:O s.o b=some cells) (ht:ty P t=some (g,n)) (hy:val g n (cells.drop off)=some y) (hown:y.cW=true):LOp L P s o y [] :=
 pG ho hx hb ht hy fun _ _ _ _ r=>by rw [Rep.dX hown r] at r;exact r
def F7{x:Operand}{b off:Nat}(ho:o.op=.nilCheck x)(hx:ev s.t x=.ptr b off):LOp L P s o (.ptr b off) []:=by refine LOp.gL fun B F0 w0 F own fp fs' a w h=>?_;have hr:=h.ev x;rw [hx] at hr;simp only [Rep] at hr;exact ⟨.pointer (some ⟨b,off,none⟩),by simp [execOp,ho,hr.1],by simp [Rep]⟩
def Bf{x:Operand}{cells:List AV}(ho:o.op=.nilCheck x)(hx:ev s.t x=.vp cells):LOp L P s o (.vp cells) []:=by refine LOp.gL fun B F0 w0 F own fp fs' a w h=>?_;have hr:=h.ev x;rw [hx] at hr;have hr':=hr;rw [Rep.dX rfl hr] at hr';simp only [Rep] at hr;obtain ⟨_,b,o',vals,hv,hb,hrow,hl⟩:=hr;exact ⟨a.eval x,by simp [execOp,ho,hv],hr'⟩
def yK{x:Operand}{k:Nat}{l:List AV}{y:AV}(ho:o.op=.extract x k)(hx:ev s.t x=.tup l)(hy:l[k]? = some y)(hown:y.cW=true):LOp L P s o y []:=by refine LOp.gL fun B F0 w0 F own fp fs' a w h=>?_;have hr:=h.ev x;rw [hx] at hr;simp only [Rep] at hr;obtain ⟨vs,hv,hl⟩:=hr;obtain ⟨u,f,h1,h2,_⟩:=hl.get hy;refine ⟨u,?_,by rw [Rep.dX hown h2] at h2;exact h2⟩;simp [execOp,ho,hv,Instr.extract,h1]
abbrev S(l:List UInt8):AV:=.str l
def H4{x:Operand}{c:Call}{t:TypeId}{l:List UInt8}(ho:o.op=.call c)(hc:c=⟨.builtin .len,#[x],#[t]⟩)(hx:ev s.t x=S l)(ht:P.underlying t=some .string) :
  LOp L P s o (.v (.int .i64 l.length)) []:=by
 subst hc;refine jn fun B F0 w0 F own fp fs a w h=>?_;simp [execOp,ho,resolve,invoke,builtin,(h.vV hx).1,run_len_string w t o.type _ ht,goInt,ByteArray.size]
def gY{t e:TypeId}(h:P.underlying t=some (.slice e)):P.underlying t=some (.slice (P.elem t)):=by simp [Program.elem,h]
def KI{x:Operand}{c:Call}{t e:TypeId}{own:Bool}{sz:Nat}{l:List AV}(ho:o.op=.call c)(hc:c=⟨.builtin .len,#[x],#[t]⟩)(hx:ev s.t x=.sl own sz l)(ht:P.underlying t=some (.slice e)) :
  LOp L P s o (.v (.int .i64 l.length)) []:=by
 subst hc;refine jn fun B F0 w0 F own fp fs a w h=>?_;have hr:=h.ev x;rw [hx] at hr;simp only [Rep] at hr;rcases hr with ⟨hv|⟨_,_,hv⟩,rfl,_⟩|⟨b,off,cap,vals,fp',hv,_⟩
 ·simp [execOp,ho,resolve,invoke,builtin,hv,run_len_slice w t o.type _ _ _ (gY ht),goInt]
 ·simp [execOp,ho,resolve,invoke,builtin,hv,run_len_slice w t o.type _ _ _ (gY ht),goInt]
 ·simp [execOp,ho,resolve,invoke,builtin,hv,run_len_slice w t o.type _ _ _ (gY ht),goInt]
def H5{x:Operand}{c:Call}{t e:TypeId}(ho:o.op=.call c)(hc:c=⟨.builtin .len,#[x],#[t]⟩)(hx:ev s.t x=.v (.slice none 0 0))(ht:P.underlying t=some (.slice e)) :
  LOp L P s o (.v (.int .i64 0)) []:=by
 subst hc;refine jn fun B F0 w0 F own fp fs a w h=>?_;simp [execOp,ho,resolve,invoke,builtin,h.val hx,run_len_slice w t o.type _ _ _ (gY ht),goInt]
def H6{x:Operand}{c:Call}{t e:TypeId}{b off len sz:Nat}(ho:o.op=.call c)(hc:c=⟨.builtin .len,#[x],#[t]⟩)(hx:ev s.t x=.arr b off len sz)(ht:P.underlying t=some (.slice e)) :
  LOp L P s o (.v (.int .i64 len)) []:=by
 subst hc;refine jn fun B F0 w0 F own fp fs a w h=>?_;have hr:=h.ev x;rw [hx] at hr;simp only [Rep] at hr;obtain ⟨_,cap,hv,_⟩:=hr;simp [execOp,ho,resolve,invoke,builtin,hv,run_len_slice w t o.type _ _ _ (gY ht),goInt]
def Ea{x i:Operand}{t:TypeId}{l:List UInt8}{k:IntKind}{n:Int}{c:UInt8}(ho:o.op=.index t x i)(hx:ev s.t x=S l)(hi:ev s.t i=.v (.int k n))
  (ht:P.underlying t=some .string) (h0:0<=n) (hc:l[n.toNat]? = some c):LOp L P s o (.v (.int .u8 c.toNat)) []:=by
 refine jn fun B F0 w0 F own fp fs a w h=>?_
 have hlt:n.toNat<l.length:=by
  rcases Nat.lt_or_ge n.toNat l.length with h|h
  ·exact h
  ·rw [List.getElem?_eq_none h] at hc;cases hc
 simp only [execOp,ho,(h.vV hx).1,h.val hi,Sem.run_bind,run_index_string w t _ k n ht];rw [dif_pos ⟨h0,by simp [ByteArray.size];omega⟩];have:l[n.toNat]=c:=by simpa [List.getElem?_eq_getElem hlt] using hc
 simp [<- this];rfl
def AV.cells:AV->List AV
 | .agg l=>l
 | x=>[x]
def AV.elem(sz:Nat):AV->Bool
 | .agg l=>l.length == sz
 | .v x=>x.oneCell' && sz == 1
 | .dead=>false
 | .tup _=>false
 | .cnd _ _=>false
 | .pin _ _=>false
 | _=>sz == 1
def bZ.len{F:faa}{w:World}{sz:Nat}:∀ {l:List AV} {vs:List Value} {fp:List Nat},bZ L F w sz l vs fp->vs.length=l.length * sz
 | [],_,_,r=>by simp only [bZ] at r;simp [r.1]
 | x::xs,vs,fp,r=>by
  simp only [bZ] at r;obtain ⟨y,vs',f1,f2,rfl,hsz,rfl,hx,hxs⟩:=r;have:=bZ.len hxs;simp [this,hsz,Nat.add_mul];omega
def bZ.get{F:faa}{w:World}{sz:Nat}:∀ {l:List AV} {vs:List Value} {fp:List Nat} {i:Nat} {x:AV},bZ L F w sz l vs fp->l[i]? = some x ->
  ∃ y f,(vs.drop (i * sz)).take sz=y.cells.toList/\y.cells.size=sz/\Rep L F w x y f/\∀ b,b∈f->b∈fp
 | [],_,_,_,_,_,h=>by simp at h
 | x::xs,vs,fp,i,z,r,h=>by
  simp only [bZ] at r;obtain ⟨y,vs',f1,f2,rfl,hsz,rfl,hx,hxs⟩:=r
  cases i with
  | zero=>simp at h;subst h;exact ⟨y,f1,by simp [<- hsz],hsz,hx,fun b hb=>by simp [hb]⟩
  | succ i =>
   obtain ⟨y',f,h1,h2,h3,h4⟩:=bZ.get hxs (i:=i) (by simpa using h);refine ⟨y',f,?_,h2,h3,fun b hb=>by simp [h4 b hb]⟩;rw [<- h1,Nat.add_mul,Nat.one_mul,Nat.add_comm,<- List.drop_drop]
   congr 2
   have:y.cells.toList.length=sz:=by simpa using hsz
   rw [<- this,List.drop_left]
def ny{F:faa}{w:World}{sz:Nat}{x:AV}{y:Value}{f:List Nat}(h:x.elem sz=true)(r:Rep L F w x y f):au L F w x.cells y.cells.toList f/\y.cells.size=sz:=by
 cases x with
 | agg l =>
  have r':=r;simp only [Rep] at r;obtain ⟨vs,rfl,hl⟩:=r;simp [AV.elem] at h;exact ⟨by simpa [AV.cells,Value.cells] using hl,by simp [Value.cells,hl.len,h]⟩
 | dead=>simp [AV.elem] at h
 | tup l=>simp [AV.elem] at h
 | cnd _ _=>simp [AV.elem] at h
 | pin _ _=>simp [AV.elem] at h
 | v x =>
  have r':=r;simp only [Rep] at r';obtain ⟨rfl,rfl⟩:=r';simp [AV.elem] at h;have:y.cells=#[y]:=by cases y<;>simp_all [Value.cells,Value.oneCell']
  rw [this];exact ⟨by simp only [AV.cells,au];exact ⟨y,[],[],[],rfl,rfl,r,rfl,rfl⟩,by simp [h.2]⟩
 | str l =>
  have r':=r;simp only [Rep] at r';have:y.cells=#[y]:=by rw [r'.1];rfl
  rw [this];simp [AV.elem] at h;exact ⟨by simp only [AV.cells,au];exact ⟨y,[],f,[],rfl,by simp,r,rfl,rfl⟩,by simp [h]⟩
 | sl o' z l =>
  have r':=r;simp only [Rep] at r';have:y.cells=#[y]:=by rcases r' with ⟨rfl|⟨_,_,rfl⟩,_⟩|⟨b,off,cap,vals,fp',rfl,_⟩<;>rfl
  rw [this];simp [AV.elem] at h;exact ⟨by simp only [AV.cells,au];exact ⟨y,[],f,[],rfl,by simp,r,rfl,rfl⟩,by simp [h]⟩
 | slo z l =>
  have r':=r;simp only [Rep] at r';have:y.cells=#[y]:=by rcases r' with ⟨rfl,_⟩|⟨b,off,cap,vals,fp',rfl,_⟩<;>rfl
  rw [this];simp [AV.elem] at h;exact ⟨by simp only [AV.cells,au];exact ⟨y,[],f,[],rfl,by simp,r,rfl,rfl⟩,by simp [h]⟩
 | vp l =>
  have r':=r;simp only [Rep] at r';have:y.cells=#[y]:=by obtain ⟨_,b,off,vals,rfl,_⟩:=r';rfl
  rw [this];simp [AV.elem] at h;exact ⟨by simp only [AV.cells,au];exact ⟨y,[],f,[],rfl,by simp,r,rfl,rfl⟩,by simp [h]⟩
 | arr _ _ _ _ =>
  have r':=r;simp only [Rep] at r';have:y.cells=#[y]:=by obtain ⟨_,b,rfl,_⟩:=r';rfl
  rw [this];simp [AV.elem] at h;exact ⟨by simp only [AV.cells,au];exact ⟨y,[],f,[],rfl,by simp,r,rfl,rfl⟩,by simp [h]⟩
 | ptr _ _ =>
  have r':=r;simp only [Rep] at r';have:y.cells=#[y]:=by obtain ⟨rfl,_⟩:=r';rfl
  rw [this];simp [AV.elem] at h;exact ⟨by simp only [AV.cells,au];exact ⟨y,[],f,[],rfl,by simp,r,rfl,rfl⟩,by simp [h]⟩
 | fn _ _ =>
  have r':=r;simp only [Rep] at r';have:y.cells=#[y]:=by obtain ⟨_,rfl,_⟩:=r';rfl
  rw [this];simp [AV.elem] at h;exact ⟨by simp only [AV.cells,au];exact ⟨y,[],f,[],rfl,by simp,r,rfl,rfl⟩,by simp [h]⟩
def elm(P:Program)(t:TypeId):Option (TypeId×Nat×Nat) :=
 match P.underlying t with
 | some (.slice e)=>match P.info? e with
  | some i=>some (e,i.size,i.bytes)
  | none=>none
 | _=>none
def gX{t e:TypeId}{sz by_:Nat}(h:elm P t=some (e,sz,by_)):∃ i,P.underlying t=some (.slice e)/\P.info? e=some i/\i.size=sz/\i.bytes=by_:=by
 unfold elm at h;split at h
 ·rename_i e' he;split at h
  ·rename_i i hi;simp at h;obtain ⟨rfl,rfl,rfl⟩:=h;exact ⟨i,he,hi,rfl,rfl⟩
  ·cases h
 ·cases h
def zk{x i:Operand}{t e:TypeId}{sz by_:Nat}{l:List AV}{k:IntKind}{n:Int}{y:AV}(ho:o.op=.indexAddr t x i)(hx:ev s.t x=.sl false sz l)
  (hi:ev s.t i=.v (.int k n)) (ht:elm P t=some (e,sz,by_)) (h0:0<=n) (hy:l[n.toNat]? = some y) (he:y.elem sz=true):LOp L P s o (.vp y.cells) []:=by
 obtain ⟨inf,hu,dR,hsz,_⟩:=gX ht;refine LOp.gL fun B F0 w0 F own fp fs a w h=>?_
 have hlt:n.toNat<l.length:=by
  rcases Nat.lt_or_ge n.toNat l.length with h|h
  ·exact h
  ·rw [List.getElem?_eq_none h] at hy;cases hy
 have hr:=h.ev x;rw [hx] at hr;simp only [Rep] at hr;rcases hr with ⟨_,rfl,_⟩|⟨b,off,cap,vals,fp',hv,_,_,hrow,hl,hF⟩
 ·simp at hlt
 ·rcases hF with ⟨hF,_⟩|⟨_,hF,rfl,_⟩
  ·cases hF
  ·obtain ⟨y',f,h1,h2,h3,h4⟩:=hl.get hy;have:f=[]:=List.eq_nil_iff_forall_not_mem.2 fun b hb=>by simpa using h4 b hb
   subst this;have hP:P.elem t=e:=by simp [Program.elem,hu]
   refine ⟨.pointer (some ⟨b,off+n.toNat * sz,none⟩),?_,?_⟩
   ·simp only [execOp,ho,hv,h.val hi,Sem.run_bind,run_indexAt_slice w t _ _ _ k n (gY hu)];rw [if_pos ⟨h0,by omega⟩];simp [hP,sizeOf,typeInfo,dR,hsz,fo]
   ·simp only [Rep];refine ⟨trivial,b,_,y'.cells.toList,rfl,hF,?_,(ny he h3).1⟩;rw [<- h1];exact hrow.cut _ _
def yt{x i:Operand}{t e:TypeId}{sz by_ b off len:Nat}{k:IntKind}{n:Int}(ho:o.op=.indexAddr t x i)(hx:ev s.t x=.arr b off len sz)
  (hi:ev s.t i=.v (.int k n)) (ht:elm P t=some (e,sz,by_)) (h0:0<=n) (hy:n<len):LOp L P s o (.ptr b (off+n.toNat * sz)) []:=by
 obtain ⟨inf,hu,dR,hsz,_⟩:=gX ht;refine LOp.gL fun B F0 w0 F own fp fs a w h=>?_;have hr:=h.ev x;rw [hx] at hr;simp only [Rep] at hr;obtain ⟨_,cap,hv,_⟩:=hr;have hP:P.elem t=e:=by simp [Program.elem,hu]
 refine ⟨.pointer (some ⟨b,off+n.toNat * sz,none⟩),?_,by simp [Rep]⟩;simp only [execOp,ho,hv,h.val hi,Sem.run_bind,run_indexAt_slice w t _ _ _ k n (gY hu)];rw [if_pos ⟨h0,hy⟩];simp [hP,sizeOf,typeInfo,dR,hsz,fo]
end ops
end
section
def jg(o:List (Nat×Option (List AV))):List Nat->List (Nat×Option (List AV))
 | []=>o
 | b::D=>(b,none)::jg o D
def nU(o:List (Nat×Option (List AV)))(D:List Nat)(b:Nat):O (jg o D) b=if b∈D then none else O o b:=by
 induction D with
 | nil=>simp [jg]
 | cons d D ih =>
  by_cases h:d=b
  ·simp [jg,O,h]
  ·have h':¬ b=d:=fun e=>h e.symm;simp [jg,O,h,h',ih]
section
variable {L : Nat -> Nat} {B : Nat -> Prop} {F0 : Nat -> Prop} {w0 : World} {F : Nat -> Prop} {own : Nat -> Own} {fp fs : Nat -> List Nat} {s : AS} {a : Act} {w : World}
def cv.O5(h:cv L B F0 w0 F own fp fs s a w){b:Nat}(hb:w.heap.size<=b):own b=.none:=by
 rcases Classical.em (own b=.none) with e|e
 ·exact e
 ·have:=(h.ol b e).2;omega
def cv.renew(h:cv L B F0 w0 F own fp fs s a w){w':World}{x:AV}{v:Value}(C D:List Nat)(bn:Nat)(cells':List AV)(fn:List Nat)(d:Option Nat)
  (hd:cz s.n d=true) (hst:w'.os=w.os/\w'.tape=w.tape/\w'.output=w.output) (cE:Ext (fun b=>b<w.heap.size/\b ∉ D) w w') (hD:∀ b,b∈D->own b=.key)
  (hbn:bn∈D\/(w.heap.size<=bn/\bn<w'.heap.size))
  (iD:∃ (c:Array Value) (Ty:TypeId) (vals rest:List Value),w'.heap[bn]? = some (.cells c Ty (0,0))/\c.toList=vals++rest/\au L F w' cells' vals fn)
  (hfn:fn.Nodup) (hfn':∀ k,k∈fn->(∃ i,i∈C/\k∈fp i)\/(∃ b,b∈D/\own k=.obj b)) (hx:Rep L F w' x v []) :
  Den L B F0 w0 ⟨s.n,Ab.put (killL s.t C) d x,(bn,some cells')::jg s.o D⟩ (a.put d v) w':=by
 have hsz:=cE.size
 have hB:=h.hB
 classical
 have PY:own bn=.key\/own bn=.none:=by
  rcases hbn with e|e
  ·exact .inl (hD _ e)
  ·exact .inr (h.O5 e.1)
 have abz:¬ B bn/\bn<w'.heap.size:=by
  rcases hbn with e|e
  ·have:=h.ol bn (by rw [hD _ e];simp);exact ⟨this.1,by omega⟩
  ·exact ⟨fun hb=>by have:=hB bn hb;omega,e.2⟩
 have wR:∀ k,k∈fn->(∃ i,i∈C/\own k=.slot i)\/∃ b,b∈D/\own k=.obj b:=fun k hk=>by
  rcases hfn' k hk with ⟨i,hi,hk'⟩|e
  ·exact .inl ⟨i,hi,h.so i k hk'⟩
  ·exact .inr e
 have Q7:∀ k,k∈fn->¬ B k/\k<w.heap.size/\k≠bn:=fun k hk=>by
  have e:own k≠.none/\own k≠.key:=by
   rcases wR k hk with ⟨i,_,e⟩|⟨b,_,e⟩<;>rw [e]<;>simp
  have:=h.ol k e.1;refine ⟨this.1,this.2,fun e'=>?_⟩;subst e';rcases PY with e'|e'
  ·exact e.2 e'
  ·exact e.1 e'
 have hFS:∀ b,F b->F b/\(b<w.heap.size/\b ∉ D):=fun b hb'=>⟨hb',(h.fl b hb').2.1,fun hd'=>by
  have e1:=(h.fl b hb').1;rw [hD b hd'] at e1;cases e1⟩
 let own':Nat->Own:=fun k=>if k=bn then .key else if k∈fn then .obj bn else if k∈D then .none else own k
 refine ⟨F,own',fun i=>if d=some i then [] else if i∈C then [] else fp i,fun b=>if b=bn then fn else fs b,?_⟩;refine { below:=h.below.trans ⟨hst.1,hst.2.1,hst.2.2,hsz,fun k hk=>cE.same k ⟨hB k hk,fun hd=>(h.ol k (by rw [hD k hd];simp)).1 hk⟩,cE.shape⟩,hB:=fun b hb=>Nat.lt_of_lt_of_le (hB b hb) hsz,tb:=h.tb,f0:=h.f0,fl:=?_,ol:=?_,defers:=?_,size:=?_,slots:=?_,sn:=?_,so:=?_,obj:=?_ }
 ·intro b hb;have h1:=h.fl b hb
  have n1:b≠bn:=by
   rintro rfl;rcases hbn with e|e
   ·exact (hFS b hb).2.2 e
   ·omega
  have n2:b ∉ fn:=fun hk=>by
   rcases wR b hk with ⟨i,_,e⟩|⟨b',_,e⟩<;>rw [h1.1] at e<;>cases e
  refine ⟨?_,by omega,h1.2.2⟩;simp only [own',if_neg n1,if_neg n2,if_neg (hFS b hb).2.2];exact h1.1
 ·intro b hb;simp only [own'] at hb;by_cases e1:b=bn
  ·subst e1;exact abz
  ·rw [if_neg e1] at hb;by_cases e2:b∈fn
   ·have:=Q7 b e2;exact ⟨this.1,by omega⟩
   ·rw [if_neg e2] at hb;by_cases e3:b∈D
    ·rw [if_pos e3] at hb;exact absurd rfl hb
    ·rw [if_neg e3] at hb;have:=h.ol b hb;exact ⟨this.1,by omega⟩
 ·cases d<;>simpa [Act.put] using h.defers
 ·cases d<;>simpa [Act.put] using h.size
 ·intro i;simp only [mg,BI];rw [iZ a d v i (by rw [h.size];exact hd)];by_cases e:d=some i
  ·simp only [e,if_true];exact hx
  ·simp only [if_neg e];by_cases hi:i∈C
   ·simp only [if_pos hi];simp [Rep]
   ·simp only [if_neg hi];refine Rep.ext cE hFS (fun b hb'=>⟨(h.iq hb').2,fun hd'=>?_⟩) (h.slots i);have e1:=h.so i b hb';rw [hD b hd'] at e1;cases e1
 ·intro i;split
  ·simp
  ·split
   ·simp
   ·exact h.sn i
 ·intro i b hb';by_cases e:d=some i
  ·rw [if_pos e] at hb';simp at hb'
  ·rw [if_neg e] at hb';by_cases hi:i∈C
   ·rw [if_pos hi] at hb';simp at hb'
   ·rw [if_neg hi] at hb';have ho:=h.so i b hb'
    have n1:b≠bn:=by rintro rfl;rcases PY with e'|e'<;>rw [ho] at e'<;>cases e'
    have n2:b ∉ fn:=fun hk=>by
     rcases wR b hk with ⟨j,hj,e'⟩|⟨b',_,e'⟩<;>rw [ho] at e'<;>cases e';exact hi hj
    have n3:b ∉ D:=fun hd'=>by have e1:=hD b hd';rw [ho] at e1;cases e1
    simp only [own',if_neg n1,if_neg n2,if_neg n3];exact ho
 ·intro b cells hO;simp only [O] at hO;by_cases e:bn=b
  ·subst e;rw [if_pos rfl] at hO;cases hO;obtain ⟨c,Ty,vals,rest,h1,h2,h3⟩:=iD;refine ⟨by simp [own'],by simpa using hfn,?_,c,Ty,vals,rest,h1,h2,by simpa using h3⟩;intro k hk;simp only [if_true] at hk;simp only [own',if_neg (Q7 k hk).2.2,if_pos hk]
  ·rw [if_neg e,nU] at hO;by_cases hdb:b∈D
   ·rw [if_pos hdb] at hO;cases hO
   ·rw [if_neg hdb] at hO;have e':¬ b=bn:=fun h=>e h.symm;obtain ⟨h1,h2,h3,c,Ty,vals,rest,h4,h5,h6⟩:=h.obj b cells hO;have hlt:=(h.ol b (by rw [h1];simp)).2
    have n2:b ∉ fn:=fun hk=>by
     rcases wR b hk with ⟨j,hj,e'⟩|⟨b',_,e'⟩<;>rw [h1] at e'<;>cases e'
    refine ⟨by simp only [own',if_neg e',if_neg n2,if_neg hdb];exact h1,by simpa [e'] using h2,?_,c,Ty,vals,rest,?_,h5,?_⟩
    ·intro k hk;simp only [if_neg e'] at hk;have ho:=h3 k hk
     have n1:k≠bn:=by rintro rfl;rcases PY with e'|e'<;>rw [ho] at e'<;>cases e'
     have n2:k ∉ fn:=fun hk=>by
      rcases wR k hk with ⟨j,hj,e'⟩|⟨b',hb',e'⟩<;>rw [ho] at e'<;>cases e';exact hdb hb'
     have n3:k ∉ D:=fun hd'=>by have e1:=hD k hd';rw [ho] at e1;cases e1
     simp only [own',if_neg n1,if_neg n2,if_neg n3];exact ho
    ·rw [cE.same b ⟨hlt,hdb⟩];exact h4
    ·simp only [if_neg e'];refine au.ext cE hFS (fun k hk=>⟨?_,fun hd'=>?_⟩) h6
     ·exact (h.ol k (by rw [h3 k hk];simp)).2
     ·have e1:=hD k hd';rw [h3 k hk] at e1;cases e1
end
def Ext.alloc(w:World)(o:Obj)(D:List Nat):Ext (fun b=>b<w.heap.size/\b ∉ D) w (w.alloc o):=by
 refine ⟨by show _<=(w.heap.push o).size;simp,fun b hb=>Below.heap_alloc w o b hb.1,fun b c T z hc=>⟨c,?_,rfl⟩⟩
 have hb:b<w.heap.size:=by
  rcases Nat.lt_or_ge b w.heap.size with h|h
  ·exact h
  ·rw [Array.getElem?_eq_none h] at hc;cases hc
 rw [Below.heap_alloc w o b hb];exact hc
def Ext.alloc'(w:World)(o:Obj):Ext (fun b=>b<w.heap.size) w (w.alloc o):=by obtain ⟨h1,h2,h3⟩:=Ext.alloc w o [];exact ⟨h1,fun b hb=>h2 b ⟨hb,by simp⟩,h3⟩
def fM(w:World)(o:Obj):(w.alloc o).heap[w.heap.size]? = some o:=by show (w.heap.push o)[w.heap.size]? = _;simp
def zer(P:Program)(t:TypeId):Option (List Value) :=
 match P.info? t with
 | some i=>match i.zero with
  | some z=>some z.cells.toList
  | none=>none
 | none=>none
def xx{P:Program}{t:TypeId}{zs:List Value}(h:zer P t=some zs):∃ z:Value,z.cells.toList=zs/\∀ w,(zeroValue t).run P w=.ok z w:=by
 unfold zer at h;split at h
 ·rename_i i hi;split at h
  ·rename_i z hz;simp at h;exact ⟨z,h,fun w=>by simp [zeroValue,typeInfo,hi,hz]⟩
  ·cases h
 ·cases h
def au.plain{L:eaa}{F:faa}{w:World}:∀ vs:List Value,au L F w (vs.map avz) vs []
 | []=>by simp [au]
 | y::vs=>by simp only [List.map_cons,au];exact ⟨y,vs,[],[],rfl,rfl,I2 y,au.plain vs⟩
section ops
variable {L : Nat -> Nat} {P : Program} {s : AS} {o : Oper}
def zY{F:faa}{w:World}{sz:Nat}{x:AV}{y:Value}{f:List Nat}(h:x.elem sz=true)(r:Rep L F w x y f):au L F w x.cells y.cells.toList f:=(ny h r).1
def SL{t:TypeId}{x:Operand}{sz:Nat}(ho:o.op=.box t x)(hx:(ev s.t x).elem sz=true):LOp L P s o (.vp (AV.bg (ev s.t x).cells)) (kills s.t [x]):=by
 intro B F0 w0 F own fp fs a w next Q h bF
 have hr:=h.ev x
 have hrun:(execOp a.eval o).run P w=.ok (.value (.pointer (some ⟨w.heap.size,0,none⟩))) (w.alloc (.cells (a.eval x).cells t)):=by
  simp [execOp,ho,Instr.box,newVar,newRow]
 unfold Oper.wp;rw [hrun]
 have hlt:∀ k,k∈fpo fp x->k<w.heap.size:=fun k hk=>by
  obtain ⟨i,_,hi⟩:=gj h (xs:=[x]) (by simp) k hk;exact (h.iq hi).2
 have hFS:∀ b,F b->F b/\(b<w.heap.size):=fun b hb'=>⟨hb',(h.fl b hb').2.1⟩
 refine bF _ _ ⟨Kp.lC ((Below.refl _ _).alloc (Nat.le_refl _) _),fun b=>F b\/b=w.heap.size\/b∈fpo fp x,[],fun _ h=>.inl h,?_,?_,by simp,by simp⟩
 ·rintro b (e|rfl|e)
  ·exact .inl e
  ·exact .inr (.inl ⟨Nat.le_refl _,by simp⟩)
  ·exact .inr (.inr (gj h (by simp) b e))
 ·simp only [Rep];refine ⟨trivial,w.heap.size,0,(a.eval x).cells.toList,rfl,.inr (.inl rfl),⟨_,_,_,fM w _,fun i _=>by simp⟩,?_⟩;refine au.frz (F:=F) (fun b h=>.inl h) (fun b hb=>.inr (.inr hb)) ?_;exact au.ext (Ext.alloc' w _) hFS hlt (zY hx hr)
end ops
end
section
def bZ.flat{L:eaa}{F:faa}{w:World}{sz:Nat}:∀ {l:List AV} {vs:List Value} {fp:List Nat},(∀ x,x∈l->x.elem sz=true)->bZ L F w sz l vs fp->au L F w (l.flatMap AV.cells) vs fp
 | [],_,_,_,r=>by simpa [bZ,au] using r
 | x::xs,vs,fp,h,r=>by
  simp only [bZ] at r;obtain ⟨y,vs',f1,f2,rfl,hsz,rfl,hx,hxs⟩:=r;rw [List.flatMap_cons];exact au.join (zY (h x (by simp)) hx) (bZ.flat (fun z hz=>h z (by simp [hz])) hxs)
def AV.one:AV->Bool
 | .v x=>x.oneCell'
 | .str _|.sl ..|.slo ..|.vp _|.arr ..|.ptr ..|.fn ..=>true
 | .pin _ x=>x.one
 | _=>false
def Rep.one{L:eaa}{F:faa}{w:World}:∀ {x:AV} {y:Value} {f:List Nat},Rep L F w x y f->x.one=true->y.oneCell'=true
 | .dead,_,_,_,h=>by simp [AV.one] at h
 | .agg _,_,_,_,h=>by simp [AV.one] at h
 | .tup _,_,_,_,h=>by simp [AV.one] at h
 | .cnd _ _,_,_,_,h=>by simp [AV.one] at h
 | .pin _ x,_,_,r,h=>by simp only [Rep] at r;exact Rep.one r.2 (by simpa [AV.one] using h)
 | .slo _ _,_,_,r,_=>by simp only [Rep] at r;rcases r with ⟨rfl,_⟩|⟨_,_,_,_,_,rfl,_⟩<;>rfl
 | .v x,_,_,r,h=>by simp only [Rep] at r;rw [r.1];simpa [AV.one] using h
 | .str _,_,_,r,_=>by simp only [Rep] at r;rw [r.1];rfl
 | .sl _ _ _,_,_,r,_=>by simp only [Rep] at r;rcases r with ⟨rfl|⟨_,_,rfl⟩,_⟩|⟨_,_,_,_,_,rfl,_⟩<;>rfl
 | .vp _,_,_,r,_=>by simp only [Rep] at r;obtain ⟨_,_,_,_,rfl,_⟩:=r;rfl
 | .arr _ _ _ _,_,_,r,_=>by simp only [Rep] at r;obtain ⟨_,_,rfl,_⟩:=r;rfl
 | .ptr _ _,_,_,r,_=>by simp only [Rep] at r;rw [r.1];rfl
 | .fn _ _,_,_,r,_=>by simp only [Rep] at r;obtain ⟨_,rfl,_⟩:=r;rfl
def au.ones{L:eaa}{F:faa}{w:World}:∀ {l:List AV} {vs:List Value} {fp:List Nat},au L F w l vs fp->l.all AV.one=true->∀ u,u∈vs->u.oneCell'=true
 | [],_,_,r,_,u,hu=>by simp only [au] at r;rw [r.1] at hu;simp at hu
 | x::xs,vs,fp,r,h,u,hu=>by
  simp only [au] at r;obtain ⟨y,vs',f1,f2,rfl,rfl,hx,hxs⟩:=r;simp at h;rcases List.mem_cons.1 hu with rfl|hu
  ·exact hx.one h.1
  ·exact au.ones hxs (by simpa using h.2) u hu
structure Src(P:Program)(w:World)(size:Nat)(u:TypeId)(x:Value)(n:Nat)(news:List Value):Prop where
 ty:(∃ e',P.underlying u=some (.slice e'))\/P.underlying u=some .string
 len:∀ w',(Builtin.lenOf x).run P w'=.ok n w'
 first:∀ w':World,w'.heap=w.heap->(Builtin.firstCells size n x).run P w'=.ok news.toArray w'
section
variable {P : Program} {w : World} {t u tyr e : TypeId} {i : TypeInfo} {x : Value} {n : Nat} {news : List Value}
def HL(ht:P.underlying t=some (.slice e))(hi:P.info? e=some i)(hs:Src P w i.size u x n news)(g sLen sCap:Nat)(cur:Array Value)(Ty:TypeId)(hg:w.heap[g]? = some (.cells cur Ty (0,0)))
  (h1:∀ v,v∈news->v.oneCell'=true) (hroom:sLen+n<=sCap) (hfit:sLen * i.size+news.length<=cur.size) :
  (Builtin.append_ #[t,u] tyr #[.slice (some ⟨g,0,none⟩) sLen sCap,x]).run P w =
   .ok (.slice (some ⟨g,0,none⟩) (sLen+n) sCap) (w.setRow g (cur.toList.take (sLen * i.size)++news++cur.toList.drop (sLen * i.size+news.length)).toArray):=by
 have hst:=run_storeCells_at P g (sLen * i.size) Ty news 0 cur w hg (by simpa using hfit) h1;simp only [Nat.add_zero] at hst;have hf:=hs.first w rfl;rcases hs.ty with ⟨e',hu⟩|hu<;>simp [Builtin.append_,run_underlying ht,run_underlying hu,sizeOf,typeInfo,hi,hs.len,hroom,hf,fo,hst]
def HN{z:Value}(ht:P.underlying t=some (.slice e))(hi:P.info? e=some i)(hzr:i.zero=some z)(hs:Src P w i.size u x n news)(b:Addr)(sLen sCap:Nat)(olds:List Value)(hlo:olds.length=sLen * i.size)
  (holds:∀ j v,olds[j]? = some v->w.cell? (b.add j)=some v) (hg:sCap<sLen+n) (h63:sLen+n<=9223372036854775807) (hfit:(sLen+n) * i.bytes<=140737488355328) :
  (Builtin.append_ #[t,u] tyr #[.slice (some b) sLen sCap,x]).run P w =
   .ok (.slice (some ⟨w.heap.size,0,none⟩) (sLen+n) (grownCap w (sLen+n) sCap e))
    (w.drew.alloc (.cells (olds.toArray++news.toArray++Builtin.zeroCells z.cells (grownCap w (sLen+n) sCap e - (sLen+n))) e)):=by
 have hn:¬ (sLen+n<=sCap):=by omega
 have h63':¬ (9223372036854775807<((sLen:Int)+(n:Int))):=by omega
 have h48':¬ (281474976710656<Builtin.nextslicecap (sLen+n) sCap * i.bytes):=by
  have:=growslice_fits (bytes:=i.bytes) hg hfit;omega
 have hf:=hs.first w.drew rfl
 have hfo:=run_firstCells_some (P:=P) w.drew i.size sLen b sLen sCap olds hlo (by simpa using holds);rcases hs.ty with ⟨e',hu⟩|hu
 all_goals
  simp [Builtin.append_,run_underlying ht,run_underlying hu,sizeOf,typeInfo,zeroValue,hi,hzr,hs.len,hn,h63',h48',Question.forced,hf,hfo,newRow,grownCap]
  try (congr 2;apply Array.ext';simp [List.append_assoc])
def J8{z:Value}(ht:P.underlying t=some (.slice e))(hi:P.info? e=some i)(hzr:i.zero=some z)(hs:Src P w i.size u x n news)
  (h0:0<n) (h63:n<=9223372036854775807) (hfit:n * i.bytes<=140737488355328) :
  (Builtin.append_ #[t,u] tyr #[.slice none 0 0,x]).run P w =
   .ok (.slice (some ⟨w.heap.size,0,none⟩) n (grownCap w n 0 e)) (w.drew.alloc (.cells (news.toArray++Builtin.zeroCells z.cells (grownCap w n 0 e - n)) e)):=by
 have hn:n≠0:=by omega
 have h63':¬ (9223372036854775807<(n:Int)):=by omega
 have h48':¬ (281474976710656<Builtin.nextslicecap n 0 * i.bytes):=by rw [nextslicecap_zero h0];omega
 have hf:=hs.first w.drew rfl;rcases hs.ty with ⟨e',hu⟩|hu<;>simp [Builtin.append_,run_underlying ht,run_underlying hu,sizeOf,typeInfo,zeroValue,hi,hzr,hs.len,hn,h63',h48',Question.forced,run_firstCells_none,hf,newRow,grownCap]
end
def pV(w:World)(g:Nat)(cs:Array Value)(b:Nat)(h:b≠g):(w.setRow g cs).heap[b]? = w.heap[b]?:=by simp only [World.setRow,Array.getElem?_modify];rw [if_neg (by omega)]
def iX(w:World)(g:Nat)(cs cur:Array Value)(Ty:TypeId)(z:Nat×Nat)(h:w.heap[g]? = some (.cells cur Ty z)):(w.setRow g cs).heap[g]? = some (.cells cs Ty z):=by simp only [World.setRow,Array.getElem?_modify,if_true,h,Option.map_some]
def Ext.setRow(w:World)(g:Nat)(cs cur:Array Value)(Ty:TypeId)(z:Nat×Nat)(h:w.heap[g]? = some (.cells cur Ty z))(hs:cs.size=cur.size):Ext (fun b=>b<w.heap.size/\b ∉ [g]) w (w.setRow g cs):=by
 refine ⟨by simp [World.setRow],fun b hb=>pV w g cs b (by simpa using hb.2),fun b c T z' hc=>?_⟩;by_cases e:b=g
 ·subst e;rw [h] at hc;cases hc;exact ⟨cs,iX w b cs cur Ty z h,hs⟩
 ·exact ⟨c,by rw [pV w g cs b e];exact hc,rfl⟩
def Ext.rT(w:World)(o:Obj)(D:List Nat):Ext (fun b=>b<w.heap.size/\b ∉ D) w (w.drew.alloc o):=by obtain ⟨h1,h2,h3⟩:=Ext.alloc w.drew o D;exact ⟨h1,h2,h3⟩
def gM(os:List (Nat×Option (List AV)))(sz:Nat):AV->Option (Nat×List AV)
 | .sl _ z l=>bif z == sz && l.all (AV.elem sz) then some (l.length,l.flatMap AV.cells) else none
 | .arr b off len z=>match O os b with
  | some cells=>if z=sz/\AV.nownL ((cells.drop off).take (len * sz))=true/\off+len * sz<=cells.length then some (len,(cells.drop off).take (len * sz)) else none
  | none=>none
 | .v (.slice none 0 0)=>some (0,[])
 | .str l=>bif sz == 1 then some (l.length,l.map fun c=>.v (.int .u8 c.toNat)) else none
 | _=>none
section
variable {L : Nat -> Nat} {B : Nat -> Prop} {F0 : Nat -> Prop} {w0 : World} {F : Nat -> Prop} {own : Nat -> Own} {fp fs : Nat -> List Nat} {s : AS} {a : Act} {w : World} {P : Program}
def vZ(h:cv L B F0 w0 F own fp fs s a w){x:Operand}{sz n:Nat}{cells:List AV}{u:TypeId}(hs:gM s.o sz (ev s.t x)=some (n,cells))(hu:(∃ e',P.underlying u=some (.slice e'))\/P.underlying u=some .string) :
  ∃ news f,Src P w sz u (a.eval x) n news/\news.length=n * sz/\au L F w cells news f/\f.Nodup/\∀ b,b∈f->∃ i,i∈kills s.t [x]/\b∈fp i:=by
 have hr:=h.ev x
 have hn:=ni h x
 have hk:=gj h (x:=x) (xs:=[x]) (by simp)
 cases hx:ev s.t x with
 | sl own' z l =>
  rw [hx] at hs hr;simp only [gM] at hs
  cases hc:(z == sz && l.all (AV.elem sz)) with
  | false=>rw [hc] at hs;simp at hs
  | true =>
   rw [hc] at hs;simp at hs hc;obtain ⟨rfl,rfl⟩:=hs;obtain ⟨rfl,hel⟩:=hc;simp only [Rep] at hr;rcases hr with ⟨hv|⟨_,aa,hv⟩,rfl,hf⟩|⟨b,off,cap,vals,fp',hv,_,_,hrow,hE,hown⟩
   ·refine ⟨[],[],⟨hu,fun w'=>by simp [hv,Builtin.lenOf],fun w' _=>by simp [hv,Builtin.firstCells]⟩,by simp,by simp [au],by simp,by simp⟩
   ·refine ⟨[],[],⟨hu,fun w'=>by simp [hv,Builtin.lenOf],fun w' _=>by rw [hv];exact run_firstCells_some (P:=P) w' z 0 aa 0 0 [] (by simp) (by simp)⟩,by simp,by simp [au],by simp,by simp⟩
   ·have hlen:=hE.len;refine ⟨vals,fp',⟨hu,fun w'=>by simp [hv,Builtin.lenOf],fun w' hw'=>?_⟩,hlen,hE.flat hel,?_,?_⟩
    ·rw [hv];refine run_firstCells_some (P:=P) w' z l.length ⟨b,off,none⟩ l.length cap vals hlen fun j v hj=>?_;rw [fo];have:=hrow.cell hj;simpa [World.cell?,hw'] using this
    ·rcases hown with ⟨_,e,_⟩|⟨_,_,e,_⟩
     ·rw [e] at hn;exact (List.nodup_cons.1 hn).2
     ·rw [e];simp
    ·intro b' hb';rcases hown with ⟨_,e,_⟩|⟨_,_,e,_⟩
     ·exact hk b' (by rw [e];simp [hb'])
     ·rw [e] at hb';simp at hb'
 | arr b off len z =>
  rw [hx] at hs hr;simp only [gM] at hs
  cases hO:O s.o b with
  | none=>rw [hO] at hs;simp at hs
  | some cs =>
   rw [hO] at hs;simp only at hs;split at hs
   ·rename_i hc;obtain ⟨rfl,K3,hle⟩:=hc;simp at hs;obtain ⟨rfl,rfl⟩:=hs;simp only [Rep] at hr;obtain ⟨_,cap,hv,_⟩:=hr;obtain ⟨vals,f,hrow,hl,_⟩:=h.row hO off;obtain ⟨f',hl',_⟩:=hl.cut 0 (len * z);simp only [List.drop_zero] at hl';have hf':=au.dX K3 hl';subst hf';have hlen:=hl'.len
    have Q6:(vals.take (len * z)).length=len * z:=by rw [hlen];simp;omega
    refine ⟨vals.take (len * z),[],⟨hu,fun w'=>by simp [hv,Builtin.lenOf],fun w' hw'=>?_⟩,Q6,hl',by simp,by simp⟩;rw [hv];refine run_firstCells_some (P:=P) w' z len ⟨b,off,none⟩ len cap _ Q6 fun j v hj=>?_;rw [fo];have:=(hrow.cut 0 (len * z)).cell (i:=j) (v:=v) (by simpa using hj);simpa [World.cell?,hw'] using this
   ·cases hs
 | v y =>
  rw [hx] at hs hr;simp only [Rep] at hr
  cases y with
  | slice q len cap =>
   cases q with
   | some q=>simp [gM] at hs
   | none =>
    cases len with
    | succ _=>simp [gM] at hs
    | zero =>
     cases cap with
     | succ _=>simp [gM] at hs
     | zero =>
      simp [gM] at hs;obtain ⟨rfl,rfl⟩:=hs;refine ⟨[],[],⟨hu,fun w'=>by simp [hr.1,Builtin.lenOf],fun w' _=>by simp [hr.1,Builtin.firstCells]⟩,by simp,by simp [au],by simp,by simp⟩
  | _=>simp [gM] at hs
 | str st =>
  rw [hx] at hs hr;simp only [Rep] at hr;simp only [gM] at hs
  cases hc:(sz == 1) with
  | false=>rw [hc] at hs;simp at hs
  | true =>
   rw [hc] at hs;simp at hs hc;obtain ⟨rfl,rfl⟩:=hs;subst hc;refine ⟨st.map fun c=>.int .u8 c.toNat,[],⟨hu,fun w'=>by simp [hr.1,Builtin.lenOf,ByteArray.size],fun w' _=>?_⟩,by simp,?_,by simp,by simp⟩
   ·simp only [hr.1,Builtin.firstCells,Sem.run_pure]
    congr 1
    apply Array.ext'
    have he:(ByteArray.mk st.toArray).extract 0 st.length=⟨st.toArray⟩:=by
     apply WideShapes.bytes_inj;rw [ByteArray.data_extract];simp
    rw [he];simp
   ·have:=au.plain (L:=L) (F:=F) (w:=w) (st.map fun c=>Value.int .u8 c.toNat);simpa [Function.comp_def,avz] using this
 | dead=>rw [hx] at hs;simp [gM] at hs
 | vp _=>rw [hx] at hs;simp [gM] at hs
 | ptr _ _=>rw [hx] at hs;simp [gM] at hs
 | agg _=>rw [hx] at hs;simp [gM] at hs
 | tup _=>rw [hx] at hs;simp [gM] at hs
 | fn _ _=>rw [hx] at hs;simp [gM] at hs
 | cnd _ _=>rw [hx] at hs;simp [gM] at hs
 | pin _ _=>rw [hx] at hs;simp [gM] at hs
 | slo _ _=>rw [hx] at hs;simp [gM] at hs
end
end
section
def sU{P:Program}{t:TypeId}{zs:List Value}(h:zer P t=some zs):∃ i z,P.info? t=some i/\i.zero=some z/\z.cells.toList=zs:=by
 unfold zer at h;split at h
 ·rename_i i hi;split at h
  ·rename_i z hz;simp at h;exact ⟨i,z,hi,hz,h⟩
  ·cases h
 ·cases h
section ops
variable {L : Nat -> Nat} {P : Program} {s : AS} {o : Oper}
def tu{c:Call}{x y:Operand}{t u e:TypeId}{b len sz bytes n:Nat}{cells ncells:List AV}{zs:List Value}(ho:o.op=.call c)(hc:c=⟨.builtin .append,#[x,y],#[t,u]⟩)
  (hd:cz s.n o.dst=true) (hx:ev s.t x=.arr b 0 len sz) (hO:O s.o b=some cells) (hlen:cells.length=len * sz) (ht:elm P t=some (e,sz,bytes)) (hz:zer P e=some zs) (hzl:zs.length=sz)
  (hu:(∃ e',P.underlying u=some (.slice e'))\/P.underlying u=some .string) (hsrc:gM s.o sz (ev s.t y)=some (n,ncells)) (hone:ncells.all AV.one=true)
  (hL:len+n<=L sz) (hby:(len+n) * bytes<=140737488355328) (h63:len+n<=9223372036854775807) {K:AS->Prop}
  (hK:∀ b',(∀ q cs,O (jg s.o [b]) q=some cs->q≠b')->K ⟨s.n,put (killL s.t (kills s.t [y])) o.dst (.arr b' 0 (len+n) sz),(b',some (cells++ncells))::jg s.o [b]⟩):OpW L P o s K:=by
 subst hc;obtain ⟨inf,hut,dR,rfl,rfl⟩:=gX ht;obtain ⟨KS,z,lh,hzz,Gv⟩:=sU hz;rw [dR] at lh;cases lh;intro B F0 w0 a w next Q cr bF
 obtain ⟨F,own,fp,fs,h⟩:=cr;have hr:=h.ev x;rw [hx] at hr;simp only [Rep] at hr;obtain ⟨_,cap,hv,hlc,hlL,iD⟩:=hr;obtain ⟨hkey,j1,eD,c,Ty,vals,rest,hc,hcl,gF⟩:=h.obj b cells hO;obtain ⟨news,f,hS,hnl,hnr,hfn,hfk⟩:=vZ h hsrc hu;have hvl:=gF.len
 have hbB:=h.ol b (by rw [hkey];simp)
 have Yw:cap * inf.size<=c.size:=by
  obtain ⟨c',Ty',hc',hle⟩:=iD;rw [hc] at hc';cases hc';omega
 have K8:(fs b++f).Nodup:=by
  rw [List.nodup_append];refine ⟨j1,hfn,fun k hk k' hk' e=>?_⟩;subst e;obtain ⟨i,_,hi⟩:=hfk k hk';have e1:=h.so i k hi;rw [eD k hk] at e1;cases e1
 have hfn':∀ k,k∈fs b++f->(∃ i,i∈kills s.t [y]/\k∈fp i)\/(∃ b',b'∈[b]/\own k=.obj b'):=by
  intro k hk;rcases List.mem_append.1 hk with hk|hk
  ·exact .inr ⟨b,by simp,eD k hk⟩
  ·exact .inl (hfk k hk)
 have hFS:∀ b',F b'->F b'/\(b'<w.heap.size/\b' ∉ [b]):=fun b' hb'=>⟨hb',(h.fl b' hb').2.1,fun hd'=>by
  have e0:b'=b:=by simpa using hd'
  have e1:=(h.fl b' hb').1;rw [e0,hkey] at e1;cases e1⟩
 have hSk:∀ k,k∈fs b++f->k<w.heap.size/\k ∉ [b]:=by
  intro k hk
  have hne:own k≠.none/\own k≠.key:=by
   rcases hfn' k hk with ⟨i,_,hi⟩|⟨b',_,e⟩
   ·rw [h.so i k hi];simp
   ·rw [e];simp
  refine ⟨(h.ol k hne.1).2,fun hd'=>?_⟩;have e0:k=b:=by simpa using hd'
  rw [e0] at hne;exact hne.2 hkey
 unfold Oper.wp;by_cases hroom:len+n<=cap
 ·have h2:len * inf.size+news.length<=c.size:=by
   rw [hnl,<- Nat.add_mul];exact Nat.le_trans (Nat.mul_le_mul_right _ hroom) Yw
  have hrun:=HL (tyr:=o.type) hut dR hS b len cap c Ty hc (hnr.ones hone) hroom h2
  have hex:(execOp a.eval o).run P w=.ok (.value (.slice (some ⟨b,0,none⟩) (len+n) cap)) (w.setRow b (c.toList.take (len * inf.size)++news++c.toList.drop (len * inf.size+news.length)).toArray):=by
   simp only [execOp,ho,resolve,invoke,builtin,Sem.run_bind,Sem.run_pure,Result.andThen_ok,List.map_toArray,List.map_cons,List.map_nil,hv,hrun]
  rw [hex]
  have htk:c.toList.take (len * inf.size)=vals:=by
   rw [hcl,<- hlen,<- hvl,List.take_left]
  have hsz:(c.toList.take (len * inf.size)++news++c.toList.drop (len * inf.size+news.length)).toArray.size=c.size:=by
   have:c.toList.length=c.size:=by simp
   simp only [List.size_toArray,List.length_append,List.length_take,List.length_drop,this];omega
  have cE:=Ext.setRow w b _ c Ty _ hc hsz;refine bF _ _ _ (hK b fun q cs hq e=>by (subst e;rw [nU] at hq;simp at hq)) ?_;refine h.renew (kills s.t [y]) [b] b (cells++ncells) (fs b++f) o.dst hd ⟨rfl,rfl,rfl⟩ cE (by simpa using hkey) (.inl (by simp)) ?_ K8 hfn' ?_
  ·refine ⟨_,Ty,vals++news,c.toList.drop (len * inf.size+news.length),iX w b _ c Ty _ hc,by rw [htk],?_⟩;exact au.join (au.ext cE hFS (fun k hk=>hSk k (by simp [hk])) gF) (au.ext cE hFS (fun k hk=>hSk k (by simp [hk])) hnr)
  ·simp only [Rep];exact ⟨trivial,cap,rfl,hroom,hL,iD.ext cE⟩
 ·have hrun:=HN (tyr:=o.type) hut dR hzz hS ⟨b,0,none⟩ len cap vals (by rw [hvl,hlen]) (fun j v hj=>by
   have hrow:fP w b 0 vals:=⟨c,Ty,_,hc,fun i hi=>by rw [Nat.zero_add,<- Array.getElem?_toList,hcl,List.getElem?_append_left hi]⟩
   rw [fo];exact hrow.cell hj) (by omega) h63 hby
  have hex:(execOp a.eval o).run P w=.ok (.value (.slice (some ⟨w.heap.size,0,none⟩) (len+n) (grownCap w (len+n) cap e)))
    (w.drew.alloc (.cells (vals.toArray++news.toArray++Builtin.zeroCells z.cells (grownCap w (len+n) cap e - (len+n))) e)):=by
   simp only [execOp,ho,resolve,invoke,builtin,Sem.run_bind,Sem.run_pure,Result.andThen_ok,List.map_toArray,List.map_cons,List.map_nil,hv,hrun]
  rw [hex]
  refine bF _ _ _ (hK w.heap.size fun q cs hq e=>by
   rw [nU] at hq;split at hq
   ·cases hq
   ·have:=(h.ol q (by rw [(h.obj q cs hq).1];simp)).2
    omega) ?_
  have cE:=Ext.rT w (.cells (vals.toArray++news.toArray++Builtin.zeroCells z.cells (grownCap w (len+n) cap e - (len+n))) e) [b]
  have hge:=grownCap_ge w (len+n) cap e
  have Cz:z.cells.size=inf.size:=by rw [<- hzl,<- Gv];simp
  refine h.renew (kills s.t [y]) [b] w.heap.size (cells++ncells) (fs b++f) o.dst hd ⟨rfl,rfl,rfl⟩ cE (by simpa using hkey) (.inr ⟨Nat.le_refl _,by simp⟩) ?_ K8 hfn' ?_
  ·refine ⟨_,e,vals++news,(Builtin.zeroCells z.cells (grownCap w (len+n) cap e - (len+n))).toList,fM w.drew _,by simp,?_⟩;exact au.join (au.ext cE hFS (fun k hk=>hSk k (by simp [hk])) gF) (au.ext cE hFS (fun k hk=>hSk k (by simp [hk])) hnr)
  ·simp only [Rep];refine ⟨trivial,_,rfl,hge,hL,_,e,fM w.drew _,?_⟩;simp only [Array.size_append,List.size_toArray,size_zeroCells,Cz,hvl,hlen,hnl,Nat.zero_add];rw [<- Nat.add_mul,<- Nat.add_mul];exact Nat.mul_le_mul_right _ (by omega)
def tr{c:Call}{x y:Operand}{t u e:TypeId}{sz bytes n:Nat}{ncells:List AV}{zs:List Value}(ho:o.op=.call c)(hc:c=⟨.builtin .append,#[x,y],#[t,u]⟩)
  (hd:cz s.n o.dst=true) (hx:ev s.t x=.v (.slice none 0 0)) (ht:elm P t=some (e,sz,bytes)) (hz:zer P e=some zs) (hzl:zs.length=sz)
  (hu:(∃ e',P.underlying u=some (.slice e'))\/P.underlying u=some .string) (hsrc:gM s.o sz (ev s.t y)=some (n,ncells)) (h0:0<n)
  (hL:n<=L sz) (hby:n * bytes<=140737488355328) (h63:n<=9223372036854775807) {K:AS->Prop}
  (hK:∀ b',(∀ q cs,O s.o q=some cs->q≠b')->K ⟨s.n,put (killL s.t (kills s.t [y])) o.dst (.arr b' 0 n sz),(b',some ncells)::s.o⟩):OpW L P o s K:=by
 subst hc;obtain ⟨inf,hut,dR,rfl,rfl⟩:=gX ht;obtain ⟨KS,z,lh,hzz,Gv⟩:=sU hz;rw [dR] at lh;cases lh;intro B F0 w0 a w next Q cr bF
 obtain ⟨F,own,fp,fs,h⟩:=cr;have hv:=h.val hx;obtain ⟨news,f,hS,hnl,hnr,hfn,hfk⟩:=vZ h hsrc hu;unfold Oper.wp
 have hrun:=J8 (tyr:=o.type) hut dR hzz hS h0 h63 hby
 have hex:(execOp a.eval o).run P w=.ok (.value (.slice (some ⟨w.heap.size,0,none⟩) n (grownCap w n 0 e)))
   (w.drew.alloc (.cells (news.toArray++Builtin.zeroCells z.cells (grownCap w n 0 e - n)) e)):=by
  simp only [execOp,ho,resolve,invoke,builtin,Sem.run_bind,Sem.run_pure,Result.andThen_ok,List.map_toArray,List.map_cons,List.map_nil,hv,hrun]
 rw [hex]
 refine bF _ _ _ (hK w.heap.size fun q cs hq e=>by
  have:=(h.ol q (by rw [(h.obj q cs hq).1];simp)).2
  omega) ?_
 have cE:=Ext.rT w (.cells (news.toArray++Builtin.zeroCells z.cells (grownCap w n 0 e - n)) e) []
 have hge:=grownCap_ge w n 0 e
 have Cz:z.cells.size=inf.size:=by rw [<- hzl,<- Gv];simp
 have hFS:∀ b',F b'->F b'/\(b'<w.heap.size/\b' ∉ ([]:List Nat)):=fun b' hb'=>⟨hb',(h.fl b' hb').2.1,by simp⟩
 refine h.renew (kills s.t [y]) [] w.heap.size ncells f o.dst hd ⟨rfl,rfl,rfl⟩ cE (by simp) (.inr ⟨Nat.le_refl _,by simp⟩) ?_ hfn (fun k hk=>.inl (hfk k hk)) ?_
 ·refine ⟨_,e,news,(Builtin.zeroCells z.cells (grownCap w n 0 e - n)).toList,fM w.drew _,by simp,?_⟩;exact au.ext cE hFS (fun k hk=>⟨by obtain ⟨i,_,hi⟩:=hfk k hk;exact (h.iq hi).2,by simp⟩) hnr
 ·simp only [Rep];refine ⟨trivial,_,rfl,hge,hL,_,e,fM w.drew _,?_⟩;simp only [Array.size_append,List.size_toArray,size_zeroCells,Cz,hnl,Nat.zero_add];rw [<- Nat.add_mul];exact Nat.mul_le_mul_right _ (by omega)
def au.Fj{F:faa}{w:World}{l m:List AV}{vs us:List Value}{f g:List Nat}(r:au L F w l vs f)(q:au L F w m us g)(off n:Nat)(hn:m.length=n)(hle:off+n<=l.length) :
  ∃ f',au L F w (l.take off++m++l.drop (off+n)) (vs.take off++us++vs.drop (off+n)) f'/\((f++g).Nodup->f'.Nodup)/\∀ b,b∈f'->b∈f\/b∈g:=by
 have hl:=r.len
 have e1:l=l.take off++((l.drop off).take n++l.drop (off+n)):=by
  rw [<- List.drop_drop,List.take_append_drop,List.take_append_drop]
 rw [e1] at r;obtain ⟨v1,v23,f1,f23,rfl,rfl,r1,r23⟩:=r.split;obtain ⟨v2,v3,f2,f3,rfl,rfl,r2,r3⟩:=r23.split;have h1:=r1.len
 have h2:=r2.len;simp only [List.length_take,List.length_drop] at h1 h2;have hv1:v1.length=off:=by omega
 have hv2:v2.length=n:=by omega
 have e2:(v1++(v2++v3)).take off=v1:=by rw [<- hv1,List.take_left]
 have e3:(v1++(v2++v3)).drop (off+n)=v3:=by
  rw [<- List.append_assoc,<- hv1,<- hv2,<- List.length_append,List.drop_left]
 rw [e2,e3];refine ⟨f1++g++f3,(r1.join q).join r3,fun hnd=>?_,fun b hb=>?_⟩
 ·have hsub:(f1++f3++g).Sublist (f1++(f2++f3)++g):=(List.Sublist.append (List.Sublist.append (List.Sublist.refl _) (List.sublist_append_right _ _)) (List.Sublist.refl _))
  have h3:=hsub.nodup hnd
  have hp:(f1++g++f3).Perm (f1++f3++g):=by
   rw [List.append_assoc,List.append_assoc];exact List.Perm.append_left _ List.perm_append_comm
  exact hp.nodup_iff.2 h3
 ·simp only [List.mem_append] at hb ⊢;rcases hb with (hb|hb)|hb
  ·exact .inl (.inl hb)
  ·exact .inr hb
  ·exact .inl (.inr (.inr hb))
def Du{t:TypeId}{ad x:Operand}{b off n:Nat}{g:Bool}{cells:List AV}(ho:o.op=.store t ad x)(hd:o.dst=none)(ha:ev s.t ad=.ptr b off)(hO:O s.o b=some cells)
  (ht:ty P t=some (g,n)) (hx:(ev s.t x).elem n=true) (hone:(ev s.t x).cells.all AV.one=true) (hle:off+n<=cells.length) {K:AS->Prop}
  (hK:K ⟨s.n,killL s.t (kills s.t [x]),(b,some (cells.take off++(ev s.t x).cells++cells.drop (off+n)))::jg s.o [b]⟩):OpW L P o s K:=by
 intro B F0 w0 a w next Q cr bF
 obtain ⟨F,own,fp,fs,h⟩:=cr;have hr:=h.ev ad;rw [ha] at hr;simp only [Rep] at hr;have hrx:=h.ev x;obtain ⟨hxl,hxs⟩:=ny hx hrx;obtain ⟨hkey,j1,eD,c,Ty,vals,rest,hc,hcl,gF⟩:=h.obj b cells hO;have hvl:=gF.len
 have hbB:=h.ol b (by rw [hkey];simp);obtain ⟨hag,abf⟩:=qw ht w;have Yu:c.size=vals.length+rest.length:=by rw [<- Array.length_toList,hcl];simp
 have hst:=run_storeCells_at P b off Ty (a.eval x).cells.toList 0 c w hc (by simp only [Nat.add_zero,Array.length_toList,hxs];omega) (hxl.ones hone);simp only [Nat.add_zero] at hst;have hln:(a.eval x).cells.toList.length=n:=by simp [hxs]
 rw [hln] at hst
 have hex:(execOp a.eval o).run P w=.ok .skip (w.setRow b (c.toList.take off++(a.eval x).cells.toList++c.toList.drop (off+n)).toArray):=by
  simp [execOp,ho,Instr.storeAt,hr.1,Instr.sureAddr,storeVar,abf,hxs,hst]
 unfold Oper.wp;rw [hex]
 have K8:(fs b++fpo fp x).Nodup:=by
  rw [List.nodup_append];refine ⟨j1,ni h x,fun k hk k' hk' e=>?_⟩;subst e;obtain ⟨i,_,hi⟩:=gj h (xs:=[x]) (by simp) k hk';have e1:=h.so i k hi;rw [eD k hk] at e1;cases e1
 obtain ⟨f',hf',hnd,hmem⟩:=gF.Fj hxl off n (by rw [<- hxl.len,hln]) hle
 have hsz:(c.toList.take off++(a.eval x).cells.toList++c.toList.drop (off+n)).toArray.size=c.size:=by
  have:c.toList.length=c.size:=by simp
  simp only [List.size_toArray,List.length_append,List.length_take,List.length_drop,this,hln];omega
 have cE:=Ext.setRow w b _ c Ty _ hc hsz
 have hFS:∀ b',F b'->F b'/\(b'<w.heap.size/\b' ∉ [b]):=fun b' hb'=>⟨hb',(h.fl b' hb').2.1,fun hd'=>by
  have e0:b'=b:=by simpa using hd'
  have e1:=(h.fl b' hb').1;rw [e0,hkey] at e1;cases e1⟩
 have hfn':∀ k,k∈f'->(∃ i,i∈kills s.t [x]/\k∈fp i)\/(∃ b',b'∈[b]/\own k=.obj b'):=by
  intro k hk;rcases hmem k hk with hk|hk
  ·exact .inr ⟨b,by simp,eD k hk⟩
  ·exact .inl (gj h (by simp) k hk)
 have hSk:∀ k,k∈f'->k<w.heap.size/\k ∉ [b]:=by
  intro k hk
  have hne:own k≠.none/\own k≠.key:=by
   rcases hfn' k hk with ⟨i,_,hi⟩|⟨b',_,e⟩
   ·rw [h.so i k hi];simp
   ·rw [e];simp
  refine ⟨(h.ol k hne.1).2,fun hd'=>?_⟩;have e0:k=b:=by simpa using hd'
  rw [e0] at hne;exact hne.2 hkey
 have:=h.renew (w':=w.setRow b (c.toList.take off++(a.eval x).cells.toList++c.toList.drop (off+n)).toArray) (x:=.dead) (v:=undef) (kills s.t [x]) [b] b _ f' o.dst (by rw [hd];rfl) ⟨rfl,rfl,rfl⟩ cE (by simpa using hkey) (.inl (by simp))
  ⟨_,Ty,_,rest.drop 0,iX w b _ c Ty _ hc,by
   simp only [List.drop_zero];rw [hcl,List.take_append_of_le_length (by omega),List.drop_append_of_le_length (by omega)]
   simp only [List.append_assoc],au.ext cE hFS hSk hf'⟩ (hnd K8) hfn' (by simp [Rep])
 rw [hd] at this;exact bF _ _ _ hK (by rw [hd];exact this)
end ops
end
section
def yL(off:Nat):∀ (xs:List Value) (k:Nat) (cells:List Value),off+k+xs.length<=cells.length ->
  (xs.zipIdx k).foldl (fun (cs:Array Value) (p:Value×Nat)=>cs.setIfInBounds (off+p.2) p.1) cells.toArray=(cells.take (off+k)++xs++cells.drop (off+k+xs.length)).toArray
 | [],k,cells,_=>by simp
 | x::xs,k,cells,h=>by
  simp only [List.length_cons] at h;simp only [List.zipIdx_cons,List.foldl_cons,List.setIfInBounds_toArray];rw [yL off xs (k+1) (cells.set (off+k) x) (by simp;omega)]
  congr 1
  have h1:off+k<cells.length:=by omega
  rw [List.set_eq_take_append_cons_drop,if_pos h1];have ht:(cells.take (off+k)).length=off+k:=by simp;omega
  have e1:(cells.take (off+k)++x::cells.drop (off+k+1)).take (off+(k+1))=cells.take (off+k)++[x]:=by
   rw [List.take_append,ht,show off+(k+1) - (off+k)=1 by omega,List.take_of_length_le (by rw [ht];omega)];simp
  have e2:(cells.take (off+k)++x::cells.drop (off+k+1)).drop (off+(k+1)+xs.length)=cells.drop (off+k+(xs.length+1)):=by
   rw [List.drop_append,ht,List.drop_eq_nil_of_le (by rw [ht];omega),show off+(k+1)+xs.length - (off+k)=xs.length+1 by omega];simp only [List.drop_succ_cons,List.drop_drop,List.nil_append]
   congr 1;omega
  rw [e1,e2];simp
def oM(place:Nat->Option (Nat×Nat)):List AV->daa->Option (List AV)
 | cells,[]=>some cells
 | cells,p::rest =>
  match place p.1 with
  | none=>none
  | some q=>bif p.2.elem q.2 && Nat.ble (q.1+q.2) cells.length then oM place (cells.take q.1++p.2.cells++cells.drop (q.1+q.2)) rest else none
section
variable {L : Nat -> Nat} {B : Nat -> Prop} {F0 : Nat -> Prop} {w0 : World} {F : Nat -> Prop} {own : Nat -> Own} {fp fs : Nat -> List Nat} {s : AS} {a : Act} {w : World} {P : Program}
def wY(h:cv L B F0 w0 F own fp fs s a w):∀ xs:List Operand,(kills s.t xs).Nodup->(xs.flatMap (fpo fp)).Nodup
 | [],_=>by simp
 | x::xs,hk=>by
  rw [List.flatMap_cons,List.nodup_append]
  have hk':(kills s.t xs).Nodup:=by
   cases x with
   | tmp i =>
    simp only [kills] at hk
    cases hn:(T s.t i).cW with
    | true=>rw [hn] at hk;exact hk
    | false=>rw [hn] at hk;simp at hk;exact hk.2
   | const _=>exact hk
   | global _=>exact hk
   | func _=>exact hk
  refine ⟨ni h x,wY h xs hk',fun b hb b' hb' e=>?_⟩;subst e
  cases x with
  | tmp i =>
   simp only [fpo] at hb;obtain ⟨y,hy,hby⟩:=List.mem_flatMap.1 hb'
   obtain ⟨j,hj,hbj⟩:=gj h hy b hby;have e1:=h.so i b hb;rw [h.so j b hbj] at e1;cases e1;simp only [kills] at hk
   cases hn:(T s.t i).cW with
   | true=>rw [Rep.dX hn (h.slots i)] at hb;simp at hb
   | false=>rw [hn] at hk;simp at hk;exact hk.1 hj
  | const _=>simp [fpo] at hb
  | global _=>simp [fpo] at hb
  | func _=>simp [fpo] at hb
def DJ(h:cv L B F0 w0 F own fp fs s a w)(xs:List Operand):∀ b,b∈xs.flatMap (fpo fp)->∃ i,i∈kills s.t xs/\b∈fp i:=by
 intro b hb;obtain ⟨y,hy,hby⟩:=List.mem_flatMap.1 hb
 exact gj h hy b hby
def zM(h:cv L B F0 w0 F own fp fs s a w)(place:Nat->Option (Nat×Nat)):∀ (parts:List (Nat×Operand)) (cells cells':List AV) (vals:List Value) (f0:List Nat),
  au L F w cells vals f0->oM place cells (parts.map fun p=>(p.1,ev s.t p.2))=some cells'->(f0++(parts.map Prod.snd).flatMap (fpo fp)).Nodup ->
  ∃ (lV:List Value) (f':List Nat),Instr.fill place vals.toArray (parts.map fun p=>(p.1,a.eval p.2))=some lV.toArray/\au L F w cells' lV f'/\f'.Nodup /\
   (∀ b,b∈f'->b∈f0\/b∈(parts.map Prod.snd).flatMap (fpo fp))/\cells'.length=cells.length
 | [],cells,cells',vals,f0,r,hf,hn=>by
  simp [oM] at hf;subst hf;exact ⟨vals,f0,by simp [Instr.fill],r,by simpa using hn,fun b hb=>.inl hb,rfl⟩
 | p::parts,cells,cells',vals,f0,r,hf,hn=>by
  simp only [List.map_cons,oM] at hf
  cases hp:place p.1 with
  | none=>rw [hp] at hf;simp at hf
  | some q =>
   rw [hp] at hf;simp only at hf
   cases hc:((ev s.t p.2).elem q.2 && Nat.ble (q.1+q.2) cells.length) with
   | false=>rw [hc] at hf;simp at hf
   | true =>
    rw [hc] at hf;simp only [cond_true] at hf;simp at hc;obtain ⟨hel,hle⟩:=hc;obtain ⟨hxl,hxs⟩:=ny hel (h.ev p.2);have hln:(a.eval p.2).cells.toList.length=q.2:=by simp [hxs]
    obtain ⟨f',hf',hnd,hmem⟩:=r.Fj hxl q.1 q.2 (by rw [<- hxl.len,hln]) hle;simp only [List.map_cons,List.flatMap_cons] at hn;have hn1:(f0++fpo fp p.2).Nodup:=by rw [<- List.append_assoc] at hn;exact (List.nodup_append.1 hn).1
    have hn2:(f'++(parts.map Prod.snd).flatMap (fpo fp)).Nodup:=by
     rw [<- List.append_assoc] at hn;rw [List.nodup_append] at hn ⊢;refine ⟨hnd hn1,hn.2.1,fun b hb b' hb'=>hn.2.2 b ?_ b' hb'⟩;rcases hmem b hb with e|e<;>simp [e]
    obtain ⟨lV,f'',h1,h2,h3,h4,h5⟩:=zM h place parts _ cells' _ f' hf' hf hn2;refine ⟨lV,f'',?_,h2,h3,fun b hb=>?_,?_⟩
    ·simp only [List.map_cons,Instr.fill,hp];have hvl:=r.len;rw [if_neg (by simp [hxs];omega)];rw [<- h1]
     congr 1
     rw [<- Array.foldl_toList,Array.toList_zipIdx];have:=yL q.1 (a.eval p.2).cells.toList 0 vals (by rw [hln];omega);simp only [Nat.add_zero,hln] at this;rw [<- this]
    ·simp only [List.map_cons,List.flatMap_cons,List.mem_append];rcases h4 b hb with e|e
     ·rcases hmem b e with e|e
      ·exact .inl e
      ·exact .inr (.inl e)
     ·exact .inr (.inr e)
    ·rw [h5];have:(ev s.t p.2).cells.length=q.2:=by rw [<- hxl.len,hln]
     simp [this];omega
end
def plc(P:Program)(t:TypeId):Option (List (Nat×Nat)×List Value) :=
 match P.info? t,P.underlying t with
 | some it,some (.struct fields) =>
  match it.zero,fields.toList.mapM (fun f=>(P.info? f.type).map fun i=>(f.offset,i.size)) with
  | some z,some places=>some (places,z.cells.toList)
  | _,_=>none
 | _,_=>none
def MC{P:Program}{t:TypeId}{places:List (Nat×Nat)}{zs:List Value}(h:plc P t=some (places,zs))(parts:List (Nat×Value)) :
  P.built t parts=Instr.fill (places[·]?) zs.toArray parts:=by
 unfold plc at h;split at h
 ·rename_i it fields hi hu;split at h
  ·rename_i z pl hz hp;simp at h;obtain ⟨rfl,rfl⟩:=h;simp [Program.built,hi,hu,hz,hp]
  ·cases h
 ·cases h
section ops
variable {L : Nat -> Nat} {P : Program} {s : AS} {o : Oper}
def M3{t:TypeId}{parts:Array (Nat×Operand)}{places:List (Nat×Nat)}{zs:List Value}{cells:List AV}(ho:o.op=.build t parts)(hp:plc P t=some (places,zs))
  (hf:oM (places[·]?) (zs.map avz) (parts.toList.map fun p=>(p.1,ev s.t p.2))=some cells) (hk:(kills s.t (parts.toList.map Prod.snd)).Nodup) :
  LOp L P s o (.agg cells) (kills s.t (parts.toList.map Prod.snd)):=by
 refine LOp.of_run fun B F0 w0 F own fp fs a w h=>?_;obtain ⟨lV,f',h1,h2,h3,h4,_⟩:=zM h (places[·]?) parts.toList _ cells zs [] (au.plain zs) hf (by simpa using wY h _ hk);refine ⟨.agg lV.toArray,f',?_,by simp only [Rep];exact ⟨lV,rfl,h2⟩,h3,fun b hb=>?_⟩
 ·have hb:=run_build (P:=P) w t (parts.map fun p=>(p.1,a.eval p.2)) lV.toArray (by rw [MC hp];simpa using h1);simp only [execOp,ho,Sem.run_bind];rw [show (fun (x:Nat×Operand)=>(x.1,a.eval x.2))=(fun p:Nat×Operand=>(p.1,a.eval p.2)) from rfl] at *;rw [hb];rfl
 ·rcases h4 b hb with e|e
  ·simp at e
  ·exact DJ h _ b e
end ops
end
section
def Ky{L:eaa}{F:faa}{w:World}{sz:Nat}{x:AV}{y:Value}{f:List Nat}(h:x.elem sz=true)(hx:x.cells=[x])(r:Rep L F w x y f)(hna:∀ l,x≠.agg l):y.cells.toList=[y]/\sz=1:=by
 have h2:=ny h r
 cases x with
 | agg l=>exact absurd rfl (hna l)
 | dead=>simp [AV.elem] at h
 | tup l=>simp [AV.elem] at h
 | cnd _ _=>simp [AV.elem] at h
 | pin _ _=>simp [AV.elem] at h
 | v x =>
  simp only [Rep] at r;obtain ⟨rfl,_⟩:=r;simp [AV.elem] at h;exact ⟨by cases y<;>simp_all [Value.cells,Value.oneCell'],h.2⟩
 | str _=>simp only [Rep] at r;simp [AV.elem] at h;rw [r.1];exact ⟨rfl,h⟩
 | sl _ _ _=>simp only [Rep] at r;simp [AV.elem] at h;rcases r with ⟨rfl|⟨_,_,rfl⟩,_⟩|⟨_,_,_,_,_,rfl,_⟩<;>exact ⟨rfl,h⟩
 | slo _ _=>simp only [Rep] at r;simp [AV.elem] at h;rcases r with ⟨rfl,_⟩|⟨_,_,_,_,_,rfl,_⟩<;>exact ⟨rfl,h⟩
 | vp _=>simp only [Rep] at r;simp [AV.elem] at h;obtain ⟨_,_,_,_,rfl,_⟩:=r;exact ⟨rfl,h⟩
 | arr _ _ _ _=>simp only [Rep] at r;simp [AV.elem] at h;obtain ⟨_,_,rfl,_⟩:=r;exact ⟨rfl,h⟩
 | ptr _ _=>simp only [Rep] at r;simp [AV.elem] at h;obtain ⟨rfl,_⟩:=r;exact ⟨rfl,h⟩
 | fn _ _=>simp only [Rep] at r;simp [AV.elem] at h;obtain ⟨_,rfl,_⟩:=r;exact ⟨rfl,h⟩
def FC{L:eaa}{F:faa}{w:World}{sz:Nat}{x:AV}{us:List Value}{f:List Nat}(h:x.elem sz=true)(r:au L F w x.cells us f):∃ y,Rep L F w x y f/\y.cells.toList=us/\y.cells.size=sz:=by
 by_cases ha:∃ l,x=.agg l
 ·obtain ⟨l,rfl⟩:=ha;simp [AV.elem] at h;exact ⟨.agg us.toArray,by simp only [Rep];exact ⟨us,rfl,r⟩,by simp [Value.cells],by simp [Value.cells,r.len,AV.cells,h]⟩
 ·have hna:∀ l,x≠.agg l:=fun l e=>ha ⟨l,e⟩
  have hx:x.cells=[x]:=by cases x<;>first|rfl|exact absurd rfl (hna _)
  rw [hx] at r;simp only [au] at r;obtain ⟨y,vs',f1,f2,rfl,rfl,hr,rfl,rfl⟩:=r;obtain ⟨h1,rfl⟩:=Ky h hx hr hna;exact ⟨y,by simpa using hr,h1,by rw [<- Array.length_toList,h1];rfl⟩
def au.oO{L:eaa}{F:faa}{w:World}{sz:Nat}:∀ {l:List AV} {vs:List Value} {fp:List Nat},(∀ x,x∈l->x.elem sz=true)->au L F w (l.flatMap AV.cells) vs fp->bZ L F w sz l vs fp
 | [],_,_,_,r=>by simpa [bZ,au] using r
 | x::xs,vs,fp,h,r=>by
  rw [List.flatMap_cons] at r;obtain ⟨v1,v2,f1,f2,rfl,rfl,r1,r2⟩:=r.split;obtain ⟨y,hy,e,hs⟩:=FC (h x (by simp)) r1;simp only [bZ];exact ⟨y,v2,f1,f2,by rw [e],hs,rfl,hy,au.oO (fun z hz=>h z (by simp [hz])) r2⟩
def au.LG{L:eaa}{F:faa}{w:World}:∀ vs:List Value,au L F w (List.replicate vs.length .dead) vs []
 | []=>by simp [au]
 | y::vs=>by simp only [List.length_cons,List.replicate_succ,au];exact ⟨y,vs,[],[],rfl,rfl,by simp [Rep],au.LG vs⟩
def uL(z:Value)(n:Nat):Array Value:=if n=0 then (Array.range n).map ((#[]:Array Value)[·% (#[]:Array Value).size]!) else (Array.range n).map (z.cells[·% z.cells.size]!)
def KR(z:Value)(n:Nat):(uL z n).size=n:=by unfold uL;split<;>simp
def U5{P:Program}{t e:TypeId}{inf:TypeInfo}{z:Value}(w:World)(len:Nat)(pv:Array (Nat×Value))(cells:Array Value)(hut:P.underlying t=some (.slice e))(dR:P.info? e=some inf)
  (hz:inf.zero=some z) (hsm:len * inf.size<=16777216)
  (xT:Instr.fill (fun i=>some (i * inf.size,inf.size)) (uL z (len * inf.size)) pv.toList=some cells) :
  (Instr.buildSlice t len pv).run P w=.ok (.slice (some ⟨w.heap.size,0,none⟩) len len) (w.alloc (.cells cells e)):=by
 have abh:¬ (len * inf.size > 2 ^ 24):=by omega
 unfold Instr.buildSlice;simp only [Sem.run_bind,run_underlying hut,Result.andThen_ok,sizeOf,typeInfo,run_program,dR,Sem.run_pure,zeroValue];rw [if_neg abh];by_cases h0:len * inf.size=0
 ·rw [if_pos h0];unfold uL at xT;rw [if_pos h0] at xT;simp only [Sem.run_pure,Sem.run_bind,Result.andThen_ok,xT,newRow,run_newObj];rfl
 ·rw [if_neg h0];unfold uL at xT;rw [if_neg h0] at xT;simp only [Sem.run_pure,Sem.run_bind,Result.andThen_ok,run_program,dR,hz,xT,newRow,run_newObj];rfl
section ops
variable {L : Nat -> Nat} {P : Program} {s : AS} {o : Oper}
def CZ{B:faa}{F0:faa}{w0:World}{F:faa}{own:Nat->Own}{fp fs:Nat->List Nat}{a:Act}{w:World}(h:cv L B F0 w0 F own fp fs s a w)
  {t e:TypeId} {len sz bytes:Nat} {parts:Array (Nat×Operand)} {zs:List Value} {cells:List AV} (ho:o.op=.buildSlice t len parts) (ht:elm P t=some (e,sz,bytes)) (hz:zer P e=some zs) (hsm:len * sz<=16777216)
  (hf:oM (fun i=>some (i * sz,sz)) (List.replicate (len * sz) .dead) (parts.toList.map fun p=>(p.1,ev s.t p.2))=some cells) (hk:(kills s.t (parts.toList.map Prod.snd)).Nodup) :
  ∃ vals f,(execOp a.eval o).run P w=.ok (.value (.slice (some ⟨w.heap.size,0,none⟩) len len)) (w.alloc (.cells vals.toArray e))/\au L F w cells vals f/\f.Nodup/\(∀ b,b∈f->∃ i,i∈kills s.t (parts.toList.map Prod.snd)/\b∈fp i)/\cells.length=len * sz:=by
 obtain ⟨inf,hut,dR,rfl,rfl⟩:=gX ht;obtain ⟨z,hzc,hzr⟩:=xx hz;obtain ⟨KS,z',lh,hzz,_⟩:=sU hz;rw [dR] at lh;cases lh
 obtain ⟨lV,f',h1,h2,h3,h4,h5⟩:=zM h (fun i=>some (i * inf.size,inf.size)) parts.toList (List.replicate (len * inf.size) .dead) cells (uL z' (len * inf.size)).toList [] (by
  have:=au.LG (L:=L) (F:=F) (w:=w) (uL z' (len * inf.size)).toList
  rwa [Array.length_toList,KR] at this) hf (by simpa using wY h _ hk)
 refine ⟨lV,f',?_,h2,h3,fun b hb=>?_,by simpa using h5⟩
 ·have hr:=U5 (P:=P) w len (parts.map fun p=>(p.1,a.eval p.2)) lV.toArray hut dR hzz hsm (by simpa using h1);simp only [execOp,ho,Sem.run_bind];rw [hr];rfl
 ·rcases h4 b hb with e'|e'
  ·simp at e'
  ·exact DJ h _ b e'
def Ch{t e:TypeId}{len sz bytes:Nat}{parts:Array (Nat×Operand)}{zs:List Value}{cells elems:List AV}(ho:o.op=.buildSlice t len parts)(ht:elm P t=some (e,sz,bytes))(hz:zer P e=some zs)(hsm:len * sz<=16777216)
  (hf:oM (fun i=>some (i * sz,sz)) (List.replicate (len * sz) .dead) (parts.toList.map fun p=>(p.1,ev s.t p.2))=some cells) (hk:(kills s.t (parts.toList.map Prod.snd)).Nodup)
  (hel:elems.flatMap AV.cells=cells) (hall:∀ x,x∈elems->x.elem sz=true) (hlen:elems.length=len) (hL:len<=L sz) :
  LOp L P s o (.sl true sz elems) (kills s.t (parts.toList.map Prod.snd)):=by
 intro B F0 w0 F own fp fs a w next Q h bF
 obtain ⟨vals,f,hrun,gF,hn,hmem,hcl⟩:=CZ h ho ht hz hsm hf hk;unfold Oper.wp;rw [hrun];have hvl:=gF.len
 have hFS:∀ b,F b->F b/\(b<w.heap.size):=fun b hb'=>⟨hb',(h.fl b hb').2.1⟩
 have hlt:∀ k,k∈f->k<w.heap.size:=fun k hk=>by obtain ⟨i,_,hi⟩:=hmem k hk;exact (h.iq hi).2
 refine bF _ _ ⟨Kp.lC ((Below.refl _ _).alloc (Nat.le_refl _) _),F,w.heap.size::f,fun _ h=>h,fun _ h=>.inl h,?_,?_,?_⟩
 ·simp only [Rep];refine .inr ⟨w.heap.size,0,len,vals,f,by rw [hlen],by omega,by omega,⟨_,_,_,fM w _,fun i _=>by simp⟩,?_,.inl ⟨by trivial,rfl,rfl,_,_,fM w _,by simp;omega⟩⟩;refine au.oO hall ?_;rw [hel];exact au.ext (Ext.alloc' w _) hFS hlt gF
 ·rw [List.nodup_cons];exact ⟨fun hm=>by have:=hlt _ hm;omega,hn⟩
 ·intro b hb;rcases List.mem_cons.1 hb with rfl|hb
  ·exact ⟨fun hF=>by have:=(hFS _ hF).2;omega,.inr ⟨Nat.le_refl _,by simp⟩⟩
  ·obtain ⟨i,hi,hbi⟩:=hmem b hb;exact ⟨h.GL hbi,.inl ⟨i,hi,hbi⟩⟩
def tC(z:Array Value)(n m:Nat)(hz:z.size=m):(madeCells z (n * m)).toList=(List.replicate n z.toList).flatten:=by
 have key:∀ n,((List.range (n * m)).map fun j=>z[j % m]!)=(List.replicate n z.toList).flatten:=by
  intro n
  induction n with
  | zero=>simp
  | succ n ih =>
   rw [List.replicate_succ',List.flatten_append,<- ih,Nat.add_mul,Nat.one_mul,List.range_add,List.map_append,List.map_map]
   congr 1
   simp only [List.flatten_cons,List.flatten_nil,List.append_nil];apply List.ext_getElem
   ·simp [hz]
   ·intro j h1 h2;simp only [List.length_map,List.length_range] at h1;simp only [List.getElem_map,List.getElem_range,Function.comp_apply];rw [Nat.mul_comm,Nat.mul_add_mod,Nat.mod_eq_of_lt h1,getElem!_pos z j (by omega)];simp
 have:=key n;rw [<- this];simp [madeCells,hz]
end ops
end
section
def AW(L:eaa)(P:Program)(c:Code)(s:AS)(Q:Exit->AS->Prop):Prop :=
 ∀ B F0 w0 a w,Den L B F0 w0 s a w->c.wp P (fun e a' w'=>∃ s',Q e s'/\Den L B F0 w0 s' a' w') a w
def lU(L:eaa)(P:Program)(ops:Array Oper)(l:List Nat)(s:AS)(K:AS->Prop):Prop :=
 ∀ B F0 w0 a w (Q:Exit->Act->World->Prop),Den L B F0 w0 s a w->(∀ s' a' w',K s'->Den L B F0 w0 s' a' w'->Q .normal a' w')->wpOps P ops Q l a w
section
variable {L : Nat -> Nat} {P : Program} {s : AS} {Q : Exit -> AS -> Prop}
def AW.mono{c:Code}{Q':Exit->AS->Prop}(h:AW L P c s Q)(hq:∀ e s,Q e s->Q' e s):AW L P c s Q' :=
 fun B F0 w0 a w hd=>wp_mono (h B F0 w0 a w hd) fun _ _ _ ⟨s',h1,h2⟩=>⟨s',hq _ _ h1,h2⟩
def AW.skip(h:Q .normal s):AW L P .skip s Q:=fun _ _ _ _ _ hd=>wp_skip ⟨s,h,hd⟩
def AW.exit{id:Nat}(h:Q (.exit id) s):AW L P (.exit id) s Q:=fun _ _ _ _ _ hd=>wp_exit ⟨s,h,hd⟩
def AW.ret(h:Q .ret s):AW L P .ret s Q:=fun _ _ _ _ _ hd=>wp_ret ⟨s,h,hd⟩
def thenQ(next:AS->Prop)(Q:Exit->AS->Prop):Exit->AS->Prop
 | .normal,s=>next s
 | e,s=>Q e s
def AW.seq{x y:Code}(h:AW L P x s (thenQ (fun s'=>AW L P y s' Q) Q)):AW L P (.seq x y) s Q:=by
 intro B F0 w0 a w hd;refine wp_seq (wp_mono (h B F0 w0 a w hd) ?_);rintro e a' w' ⟨s',h1,h2⟩
 cases e with
 | normal=>exact h1 B F0 w0 a' w' h2
 | _=>exact ⟨s',h1,h2⟩
def blockQ(id:Nat)(Q:Exit->AS->Prop):Exit->AS->Prop
 | .exit id',s=>if id'=id then Q .normal s else Q (.exit id') s
 | e,s=>Q e s
def AW.block{id:Nat}{c:Code}(h:AW L P c s (blockQ id Q)):AW L P (.block id c) s Q:=by
 intro B F0 w0 a w hd;refine wp_block (wp_mono (h B F0 w0 a w hd) ?_);rintro e a' w' ⟨s',h1,h2⟩
 cases e with
 | exit id' =>
  simp only [blockQ] at h1;simp only [Exit.inBlock];split
  ·rename_i e;rw [if_pos e] at h1;exact ⟨s',h1,h2⟩
  ·rename_i e;rw [if_neg e] at h1;exact ⟨s',h1,h2⟩
 | _=>exact ⟨s',h1,h2⟩
def AW.cond{c:Operand}{x y:Code}{t:Bool}(hc:ev s.t c=.v (.bool t))(ht:t=true->AW L P x s Q)(hf:t=false->AW L P y s Q):AW L P (.cond c x y) s Q:=by intro B F0 w0 a w hd;have hd':=hd;obtain ⟨F,own,fp,fs,h⟩:=hd';exact wp_cond_split (h.val hc) (fun e=>ht e B F0 w0 a w hd) (fun e=>hf e B F0 w0 a w hd)
def least{J:faa}(h:∃ n,J n):∃ n,J n/\∀ m,J m->n<=m:=by
 obtain ⟨n,hn⟩:=h
 induction n using Nat.strongRecOn with
 | _ n ih =>
  by_cases e:∃ m,m<n/\J m
  ·obtain ⟨m,hm,hj⟩:=e;exact ih m hm hj
  ·exact ⟨n,hn,fun m hm=>Nat.le_of_not_lt fun hlt=>e ⟨m,hlt,hm⟩⟩
def AW.loop{c:Code}(I:Nat->AS->Prop)(n:Nat)(h0:I n s)(round:∀ n s,I n s->AW L P c s (thenQ (fun s'=>∃ m,m<n/\I m s') Q)):AW L P (.loop c) s Q:=by
 intro B F0 w0 a w hd
 classical
 let J:Act->World->Nat->Prop:=fun a w n=>∃ s,I n s/\Den L B F0 w0 s a w
 let μ:Act->World->Nat:=fun a w=>if h:∃ n,J a w n then Classical.choose (least h) else 0
 refine wp_loop (fun a w=>∃ n,J a w n) μ ⟨n,s,h0,hd⟩ ?_;intro a w hJ;obtain ⟨⟨s,hI,hd⟩,pJ⟩:=Classical.choose_spec (least hJ);refine wp_mono (round _ s hI B F0 w0 a w hd) ?_;rintro e a' w' ⟨s',h1,h2⟩
 cases e with
 | normal =>
  obtain ⟨m,hm,hI'⟩:=h1;refine ⟨⟨m,s',hI',h2⟩,?_⟩
  have hJ':∃ n,J a' w' n:=⟨m,s',hI',h2⟩
  simp only [μ,dif_pos hJ,dif_pos hJ'];exact Nat.lt_of_le_of_lt ((Classical.choose_spec (least hJ')).2 m ⟨s',hI',h2⟩) hm
 | _=>exact ⟨s',h1,h2⟩
def Den.weaken{B:faa}{F0:faa}{w0:World}{a:Act}{w:World}{s':AS}(h:Den L B F0 w0 s a w)(hn:s'.n=s.n)(ht:∀ i,T s'.t i=T s.t i\/T s'.t i=.dead)
  (ho:∀ b cells,O s'.o b=some cells->O s.o b=some cells):Den L B F0 w0 s' a w:=by
 obtain ⟨F,own,fp,fs,h⟩:=h
 classical
 refine ⟨F,own,fun i=>if T s'.t i=T s.t i then fp i else [],fs,{ h with size:=by rw [hn];exact h.size,slots:=?_,sn:=?_,so:=?_,obj:=fun b cells hb=>h.obj b cells (ho b cells hb) }⟩
 ·intro i;by_cases e:T s'.t i=T s.t i
  ·simp only [if_pos e];rw [e];exact h.slots i
  ·simp only [if_neg e];rcases ht i with e'|e'
   ·exact absurd e' e
   ·rw [e'];simp [Rep]
 ·intro i;split
  ·exact h.sn i
  ·simp
 ·intro i b hb;split at hb
  ·exact h.so i b hb
  ·simp at hb
def AW.weaken{c:Code}{s':AS}(h:AW L P c s' Q)(hn:s'.n=s.n)(ht:∀ i,T s'.t i=T s.t i\/T s'.t i=.dead)
  (ho:∀ b cells,O s'.o b=some cells->O s.o b=some cells):AW L P c s Q :=
 fun B F0 w0 a w hd=>h B F0 w0 a w (hd.weaken hn ht ho)
def dP(t:daa)(ks:List Nat):daa:=ks.map fun i=>(i,T t i)
def tZ(t:daa)(ks:List Nat)(i:Nat):T (dP t ks) i=T t i\/T (dP t ks) i=.dead:=by
 induction ks with
 | nil=>exact .inr rfl
 | cons k ks ih =>
  simp only [dP,List.map_cons,T];by_cases e:k=i
  ·subst e;simp
  ·have:(k == i)=false:=by simpa using e
   rw [this];exact ih
def AW.region{id:Nat}{ops:Array Oper}(h:lU L P ops (List.range ops.size) s (fun s'=>Q .normal s')):AW L P (.region id ops false) s Q:=by intro B F0 w0 a w hd;exact wp_region (h B F0 w0 a w _ hd fun s' a' w' h1 h2=>⟨s',h1,h2⟩)
def pM:AV->Option (Bool×Bool)
 | .v (.bool g)=>some (true,g)
 | .cnd G (.v (.bool g))=>some (G,g)
 | .cnd false .dead=>some (false,false)
 | _=>none
def pW{B:faa}{F0:faa}{w0:World}{a:Act}{w:World}(h:Den L B F0 w0 s a w){ops:Array Oper}{j d:Nat}{oj:Oper}{G g:Bool}(hj:ops[j]? = some oj)(hd:oj.dst=some d)(hg:pM (T s.t d)=some (G,g))(hlt:Nat.blt d s.n=true) :
  yielded ops a.tmps j=if G then some g else none:=by
 obtain ⟨F,own,fp,fs,h⟩:=h;have hr:=h.slots d
 have nN:d<a.tmps.size:=by rw [h.size];simpa using hlt
 have key:∀ y,a.tmps.getD d undef=y->a.tmps[d]? = some y:=by
  intro y this;rw [Array.getD_eq_getD_getElem?,Array.getElem?_eq_getElem nN] at this;rw [Array.getElem?_eq_getElem nN];simpa using this
 generalize T s.t d=x at hg hr;unfold pM at hg;split at hg
 ·cases hg;simp only [Rep] at hr;simp [yielded,hj,hd,key _ hr.1]
 ·cases hg;simp only [Rep] at hr
  cases G with
  | true=>simp [yielded,hj,hd,key _ (hr.1 rfl).1]
  | false=>simp [yielded,hj,hd,key _ (hr.2 rfl).1,undef]
 ·cases hg;simp only [Rep] at hr;simp [yielded,hj,hd,key _ (hr.2 (by trivial)).1,undef]
 ·cases hg
def LOp.cnd{o:Oper}{x:AV}(h:LOp L P s o x []):LOp L P s o (.cnd true x) []:=by
 intro B F0 w0 F own fp fs a w next Q hd bF
 refine h B F0 w0 F own fp fs a w next Q hd fun v w' g=>bF v w' ⟨g.below,?_⟩
 obtain ⟨F',fx,h1,h2,h3,h4,h5⟩:=g.rep;exact ⟨F',fx,h1,h2,by simp only [Rep];exact ⟨fun _=>h3,fun e=>by cases e⟩,h4,h5⟩
end
end
section
def eY(L:eaa)(P:Program)(f:FuncId)(args:List AV)(res:AV):Prop :=
 ∀ (w:World) (F:faa) (vs:List Value),(∀ b,F b->b<w.heap.size)->Tb L (fun b=>b<w.heap.size) w->au L F w args vs [] ->
  Calls P f vs.toArray w fun e w'=>∃ v F' fp,e=.returned v/\Below w.heap.size w w'/\(∀ b,F b->F' b)/\(∀ b,F' b->F b\/(w.heap.size<=b/\b<w'.heap.size)) /\
   Rep L F' w' res v fp/\fp.Nodup/\∀ b,b∈fp->¬ F' b/\w.heap.size<=b/\b<w'.heap.size
def sw:Nat->List AV->daa
 | _,[]=>[]
 | i,x::xs=>(i,x)::sw (i+1) xs
def Rk:∀ (xs:List AV) (k i:Nat),T (sw k xs) i=if k<=i then (xs[i - k]?).getD .dead else .dead
 | [],k,i=>by simp [sw,T]
 | x::xs,k,i=>by
  simp only [sw,T];by_cases e:k=i
  ·subst e;simp
  ·have:(k == i)=false:=by simpa using e
   rw [this,cond_false,Rk xs (k+1) i];by_cases h:k<=i
   ·have h1:k+1<=i:=by omega
    rw [if_pos h,if_pos h1,show i - k=(i - (k+1))+1 by omega,List.getElem?_cons_succ]
   ·rw [if_neg h,if_neg (by omega)]
def Ends(L:eaa)(P:Program)(fn:Func)(s:AS)(res:AV):Prop :=
 ∀ B F0 w0 a w,Den L B F0 w0 s a w->∃ v F' fp,(results fn a.tmps).run P w=.ok v w/\(∀ b,F0 b->F' b)/\(∀ b,F' b->F0 b\/(¬ B b/\b<w.heap.size)) /\
  Rep L F' w res v fp/\fp.Nodup/\∀ b,b∈fp->¬ F' b/\¬ B b/\b<w.heap.size
def fin(L:eaa)(P:Program)(fn:Func)(res:AV):Exit->AS->Prop
 | .ret,s=>Ends L P fn s res
 | .normal,s=>Ends L P fn s res
 | _,_=>False
def enters(P:Program)(f:FuncId):Bool :=
 match P.funcs[f]? with
 | some fn=>fn.body.isSome && !(fn.name == "runtime.NumGoroutine")
 | none=>false
def uZ{P:Program}{f:FuncId}(h:enters P f=true)(args:Array Value)(w:World):(callFunc f args).run P w=.ok (.enter f args) w:=by
 unfold enters at h;split at h
 ·rename_i fn hf;simp at h;obtain ⟨h1,h2⟩:=h
  cases hb:fn.body with
  | none=>simp [hb] at h1
  | some c=>simp [callFunc,hf,h2,hb]
 ·cases h
section ops
variable {L : Nat -> Nat} {P : Program} {s : AS} {o : Oper}
def au.tw{B:faa}{F0:faa}{w0:World}{F:faa}{own:Nat->Own}{fp fs:Nat->List Nat}{a:Act}{w:World}(h:cv L B F0 w0 F own fp fs s a w) :
  ∀ xs:List Operand,AV.nownL (xs.map (ev s.t))=true->au L F w (xs.map (ev s.t)) (xs.map a.eval) []
 | [],_=>by simp [au]
 | x::xs,hn=>by
  simp [AV.nownL] at hn;simp only [List.map_cons,au];have hr:=h.ev x;rw [Rep.dX hn.1 hr] at hr;exact ⟨a.eval x,xs.map a.eval,[],[],rfl,rfl,hr,au.tw h xs (by simpa using hn.2)⟩
end ops
section ends
variable {L : Nat -> Nat} {P : Program} {s : AS} {fn : Func}
end ends
end
section
def slotsOf(ops:Array Oper)(o:Oper):List Nat :=
 (o.op.operands.toList.filterMap fun|.tmp t=>some t|_=>none)++(match o.guard with|some (j,_)=>((ops[j]?).bind (·.dst)).toList|none=>[])
def upd(o:Oper)(x:AV)(C:List Nat)(t:daa):daa:=put (killL t C) o.dst x
def yo(o:Oper)(x:AV)(C:List Nat)(t:daa)(k:Nat):T (upd o x C t) k=if o.dst=some k then x else if k∈C then .dead else T t k:=by simp only [upd,mg,BI]
structure ub(L:eaa)(P:Program)(ops:Array Oper)(n:Nat)(os:List (Nat×Option (List AV)))(t:daa)(o:Oper)(x:AV)(C:List Nat):Prop where
 dst:cz n o.dst=true
 sub:∀ i,i∈C->i∈slotsOf ops o
 run:(o.guard=none/\LOp L P ⟨n,dP t (slotsOf ops o),os⟩ o x C) \/
  ∃ j want oj d G g x0,o.guard=some (j,want)/\ops[j]? = some oj/\oj.dst=some d/\Nat.blt d n=true/\pM (T t d)=some (G,g)/\x=.cnd (G && (g == want)) x0/\C=[] /\
   ((G && (g == want))=true->LOp L P ⟨n,dP t (slotsOf ops o),os⟩ o x0 [])
inductive jB(L:eaa)(P:Program)(ops:Array Oper)(n:Nat)(os:List (Nat×Option (List AV)))(K:daa->List (AV×List Nat)->Prop):Nat->daa->List (AV×List Nat)->Prop
 | done {i t acc}:K t acc->jB L P ops n os K i t acc
 | step {i t acc} (o:Oper) (x:AV) (C:List Nat):ops[i]? = some o->ub L P ops n os t o x C->jB L P ops n os K (i+1) (upd o x C t) (acc++[(x,C)])->jB L P ops n os K i t acc
def cV(ops:Array Oper)(D:List (AV×List Nat))(t:daa):List Nat->daa
 | []=>t
 | i::l=>cV ops D (match ops[i]?,D[i]? with|some o,some d=>upd o d.1 d.2 t|_,_=>t) l
def yF(ops:Array Oper)(D:List (AV×List Nat)):∀ (l1 l2:List Nat) (t:daa),cV ops D t (l1++l2)=cV ops D (cV ops D t l1) l2
 | [],l2,t=>rfl
 | i::l1,l2,t=>by simp only [List.cons_append,cV];exact yF ops D l1 l2 _
def wr(ops:Array Oper)(Cs:List (List Nat))(i:Nat):List Nat:=((ops[i]?).bind (·.dst)).toList++(Cs[i]?).getD []
def rd(ops:Array Oper)(i:Nat):List Nat:=match ops[i]? with|some o=>slotsOf ops o|none=>[]
def conf(ops:Array Oper)(Cs:List (List Nat))(i j:Nat):Bool :=
 (wr ops Cs i).any (fun k=>(rd ops j).contains k || (wr ops Cs j).contains k) || (rd ops i).any (fun k=>(wr ops Cs j).contains k)
def wts(o:Oper):List Edge:=o.after.toList.filter (Region.binds .any)
def Cf{o:Oper}{e:Edge}:e∈wts o↔e∈o.after.toList/\Region.binds .any e=true:=by simp only [wts,List.mem_filter]
def drawOK(ops:Array Oper)(Cs:List (List Nat)):Bool :=
 let b:=Region.before ops
 let m:=Cs.length
 Nat.ble m ops.size &&
 ((List.range ops.size).all fun i=>((ops[i]?).map fun o=>(wts o).all fun e=>Nat.blt e.on i).getD true) &&
 ((List.range m).all fun j=>(List.range j).all fun i=>!conf ops Cs i j || (b.getD j 0).testBit i) &&
 ((List.range ops.size).all fun j=>Nat.blt j m || (List.range j).all fun i=>(b.getD j 0).testBit i)
def rn{ops:Array Oper}{D:List (AV×List Nat)}(k:Nat):∀ (l:List Nat) (t t':daa),T t k=T t' k ->
  T (cV ops D t l) k=T (cV ops D t' (l.filter fun i=>(wr ops (D.map Prod.snd) i).contains k)) k
 | [],t,t',h=>h
 | i::l,t,t',h=>by
  cases hk:(wr ops (D.map Prod.snd) i).contains k with
  | true =>
   rw [List.filter_cons_of_pos (by simpa using hk)];simp only [cV];refine rn k l _ _ ?_;split
   ·rw [yo,yo,h]
   ·exact h
  | false =>
   rw [List.filter_cons_of_neg (by simpa using hk)];simp only [cV];refine rn k l _ _ ?_;split
   ·rename_i o d ho hd;rw [yo];simp [wr,ho,hd] at hk;rw [if_neg (fun e=>hk.1 e),if_neg hk.2,h]
   ·exact h
def o8(ops:Array Oper)(S:faa):Prop:=∀ j o,S j->ops[j]? = some o->∀ e,e∈wts o->S e.on
def Dz(acc:Array Nat)(i:Nat):∀ (es:List Edge) (s0:Nat),((es.foldl (fun s e=>if Region.binds .any e then s ||| 2 ^ e.on ||| acc.getD e.on 0 else s) s0).testBit i=true) ->
  s0.testBit i=true\/∃ e,(e∈es/\Region.binds .any e=true)/\(e.on=i\/(acc.getD e.on 0).testBit i=true)
 | [],s0,h=>.inl h
 | e::es,s0,h=>by
  simp only [List.foldl_cons] at h;rcases Dz acc i es _ h with h|⟨e',he',h⟩
  ·by_cases hb:Region.binds .any e=true
   ·rw [if_pos hb] at h;simp only [Nat.testBit_or,Bool.or_eq_true] at h;rcases h with (h|h)|h
    ·exact .inl h
    ·rw [Nat.testBit_two_pow] at h;exact .inr ⟨e,⟨by simp,hb⟩,.inl (by simpa using h)⟩
    ·exact .inr ⟨e,⟨by simp,hb⟩,.inr h⟩
   ·rw [if_neg hb] at h;exact .inl h
  ·exact .inr ⟨e',⟨by simp [he'.1],he'.2⟩,h⟩
def yQ(ops:Array Oper)(S:faa)(hS:o8 ops S):∀ (l2 l1:List Oper) (acc:Array Nat),ops.toList=l1++l2->acc.size=l1.length ->
  (∀ j o i,l1[j]? = some o->(acc.getD j 0).testBit i=true->(∀ e,e∈wts o->S e.on)->S i) ->
  ∀ j o i,ops[j]? = some o->((l2.foldl (fun acc o=>acc.push (o.after.foldl (fun s e=>if Region.binds .any e then s ||| 2 ^ e.on ||| acc.getD e.on 0 else s) 0)) acc).getD j 0).testBit i=true->(∀ e,e∈wts o->S e.on)->S i
 | [],l1,acc,hl,_,hP,j,o,i,ho,hb,he=>by
  simp only [List.append_nil] at hl;exact hP j o i (by rw [<- hl,Array.getElem?_toList];exact ho) hb he
 | q::l2,l1,acc,hl,hsz,hP,j,o,i,ho,hb,he=>by
  simp only [List.foldl_cons] at hb;refine yQ ops S hS l2 (l1++[q]) _ (by simpa using hl) (by simp [hsz]) ?_ j o i ho hb he;intro j' o' i' ho' hb' he';by_cases hlt:j'<l1.length
  ·rw [List.getElem?_append_left hlt] at ho';rw [Array.getD_eq_getD_getElem?,Array.getElem?_push,if_neg (by omega),<- Array.getD_eq_getD_getElem?] at hb';exact hP j' o' i' ho' hb' he'
  ·have hj:j'=l1.length:=by
    rcases Nat.lt_or_ge j' (l1++[q]).length with h|h
    ·simp at h;omega
    ·rw [List.getElem?_eq_none h] at ho';cases ho'
   subst hj;simp at ho';subst ho';rw [Array.getD_eq_getD_getElem?,Array.getElem?_push,if_pos hsz.symm,Option.getD_some,<- Array.foldl_toList] at hb';rcases Dz acc i' q.after.toList 0 hb' with h|⟨e,hm,h⟩
   ·simp at h
   ·have hse:S e.on:=he' e (Cf.2 hm);rcases h with rfl|h
    ·exact hse
    ·by_cases nN:e.on<l1.length
     ·have hget:l1[e.on]? = some l1[e.on]:=List.getElem?_eq_getElem nN
      refine hP e.on _ i' hget h fun e' aby=>hS e.on l1[e.on] hse ?_ e' aby;rw [<- Array.getElem?_toList,hl,List.getElem?_append_left nN];exact hget
     ·rw [Array.getD_eq_getD_getElem?,Array.getElem?_eq_none (by omega)] at h;simp at h
def jy{ops:Array Oper}{S:faa}(hS:o8 ops S){i j:Nat}{o:Oper}(ho:ops[j]? = some o)(hb:((Region.before ops).getD j 0).testBit i=true)(he:∀ e,e∈wts o->S e.on):S i:=by unfold Region.before at hb;simp only [<- Array.foldl_toList] at hb;refine yQ ops S hS ops.toList [] #[] (by simp) (by simp) (by simp) j o i ho ?_ he;simpa only [<- Array.foldl_toList] using hb
end
section
structure jC(ops:Array Oper)(Cs:List (List Nat)):Prop where
 le:Cs.length<=ops.size
 edge:∀ (i:Nat) (o:Oper),ops[i]? = some o->∀ e,e∈wts o->e.on<i
 conf:∀ i j,i<j->j<Cs.length->conf ops Cs i j=true->((Region.before ops).getD j 0).testBit i=true
 tail:∀ i j,i<j->j<ops.size->Cs.length<=j->((Region.before ops).getD j 0).testBit i=true
def qY{ops:Array Oper}{Cs:List (List Nat)}(h:drawOK ops Cs=true):jC ops Cs:=by
 simp only [drawOK,Bool.and_eq_true,Bool.not_eq_true'] at h;obtain ⟨⟨⟨h2,h3⟩,h4⟩,h5⟩:=h;refine ⟨by simpa using h2,?_,?_,?_⟩
 ·intro i o ho e he
  have hlt:i<ops.size:=by
   rcases Nat.lt_or_ge i ops.size with h|h
   ·exact h
   ·rw [Array.getElem?_eq_none h] at ho;cases ho
  have:=List.all_eq_true.1 h3 i (by simpa using hlt);rw [ho] at this;simp only [Option.map_some,Option.getD_some] at this;simpa using List.all_eq_true.1 this e he
 ·intro i j hij hj hc;have:=List.all_eq_true.1 (List.all_eq_true.1 h4 j (by simpa using hj)) i (by simpa using hij);simpa [hc] using this
 ·intro i j hij hj hm;have:=List.all_eq_true.1 h5 j (by simpa using hj);simp only [Bool.or_eq_true] at this;rcases this with h|h
  ·simp at h;omega
  ·exact List.all_eq_true.1 h i (by simpa using hij)
def vG{l:List Nat}{p q:Nat->Bool}(h:∀ i,i∈l->p i=q i):l.filter p=l.filter q:=List.filter_congr h
def BR{ops:Array Oper}{D:List (AV×List Nat)}(hF:jC ops (D.map Prod.snd)){S:Nat->Bool}(hS:o8 ops (fun i=>S i=true)){j:Nat}{o:Oper}(ho:ops[j]? = some o)(hj:j<D.length)(hSj:S j=false)
  (he:∀ e,e∈wts o->S e.on=true) (t:daa) {k:Nat} (hk:k∈slotsOf ops o) :
  T (cV ops D t ((List.range D.length).filter S)) k=T (cV ops D t (List.range j)) k:=by
 have hrd:(rd ops j).contains k=true:=by simp [rd,ho,hk]
 rw [rn k _ t t rfl,rn k (List.range j) t t rfl]
 congr 2
 rw [List.filter_filter]
 have lG:List.range D.length=List.range j++(List.range (D.length - j)).map (j+·):=by
  rw [<- List.range_add];congr 1;omega
 rw [lG,List.filter_append]
 have h2:((List.range (D.length - j)).map (j+·)).filter (fun a=>(wr ops (D.map Prod.snd) a).contains k && S a)=[]:=by
  rw [List.filter_eq_nil_iff];intro i hi hc;simp only [List.mem_map,List.mem_range] at hi;obtain ⟨d,hd,rfl⟩:=hi;simp only [Bool.and_eq_true] at hc;rcases Nat.eq_zero_or_pos d with rfl|hpos
  ·simp [hSj] at hc
  ·have hlt:j+d<ops.size:=by have:=hF.le;simp at this;omega
   have Bs:conf ops (D.map Prod.snd) j (j+d)=true:=by
    simp only [conf,Bool.or_eq_true,List.any_eq_true];exact .inr ⟨k,by simpa using hrd,hc.1⟩
   have hb:=hF.conf j (j+d) (by omega) (by simp;omega) Bs
   have hs:=jy hS (Array.getElem?_eq_getElem hlt) hb (fun e he'=>hS (j+d) _ hc.2 (Array.getElem?_eq_getElem hlt) e he');rw [hSj] at hs;cases hs
 rw [h2,List.append_nil];refine vG fun i hi=>?_;simp only [List.mem_range] at hi
 cases hw:(wr ops (D.map Prod.snd) i).contains k with
 | false=>simp
 | true =>
  have Bs:conf ops (D.map Prod.snd) i j=true:=by
   simp only [conf,Bool.or_eq_true,List.any_eq_true];exact .inl ⟨k,by simpa using hw,.inl hrd⟩
  have hb:=hF.conf i j hi (by simpa using hj) Bs;simpa using jy hS ho hb he
def lA(ops:Array Oper)(D:List (AV×List Nat))(t:daa)(l:List Nat)(j:Nat):cV ops D t (l++[j])=match ops[j]?,D[j]? with|some o,some d=>upd o d.1 d.2 (cV ops D t l)|_,_=>cV ops D t l:=by rw [yF];rfl
def step_eq{ops:Array Oper}{D:List (AV×List Nat)}(hF:jC ops (D.map Prod.snd)){S S':Nat->Bool}(hS:o8 ops (fun i=>S i=true)){j:Nat}{o:Oper}{d:AV×List Nat}(ho:ops[j]? = some o)(hd:D[j]? = some d)(hSj:S j=false)
  (hS':∀ i,S' i=(S i || i == j)) (t:daa) (k:Nat) :
  T (upd o d.1 d.2 (cV ops D t ((List.range D.length).filter S))) k=T (cV ops D t ((List.range D.length).filter S')) k:=by
 have hj:j<D.length:=by
  rcases Nat.lt_or_ge j D.length with h|h
  ·exact h
  ·rw [List.getElem?_eq_none h] at hd;cases hd
 have lG:List.range D.length=List.range j++([j]++(List.range (D.length - (j+1))).map (j+1+·)):=by
  rw [<- List.append_assoc,<- List.range_succ,<- List.range_add];congr 1;omega
 cases hw:(wr ops (D.map Prod.snd) j).contains k with
 | false =>
  rw [yo];have hw':=hw;simp [wr,ho,hd] at hw';rw [if_neg (fun e=>hw'.1 e),if_neg hw'.2,rn k _ t t rfl,rn k ((List.range D.length).filter S') t t rfl,List.filter_filter,List.filter_filter]
  congr 2
  refine vG fun i _=>?_;rw [hS'];by_cases e:i=j
  ·subst e;rw [hw];simp
  ·have:(i == j)=false:=by simpa using e
   simp [this]
 | true =>
  have e0:∀ t0:daa,T (upd o d.1 d.2 t0) k=if o.dst=some k then d.1 else .dead:=by
   intro t0;rw [yo];have hw':=hw;simp [wr,ho,hd] at hw';by_cases e:o.dst=some k
   ·simp [e]
   ·rcases hw' with e'|e'
    ·exact absurd e' e
    ·simp [e,e']
  rw [e0,rn k ((List.range D.length).filter S') t t rfl,List.filter_filter,lG,List.filter_append,List.filter_append]
  have h2:((List.range (D.length - (j+1))).map (j+1+·)).filter (fun a=>(wr ops (D.map Prod.snd) a).contains k && S' a)=[]:=by
   rw [List.filter_eq_nil_iff];intro i hi hc;simp only [List.mem_map,List.mem_range] at hi;obtain ⟨q,hq,rfl⟩:=hi;simp only [Bool.and_eq_true,hS'] at hc;have hne:(j+1+q == j)=false:=by simp;omega
   rw [hne,Bool.or_false] at hc;have hlt:j+1+q<ops.size:=by have:=hF.le;simp at this;omega
   have Bs:conf ops (D.map Prod.snd) j (j+1+q)=true:=by
    simp only [conf,Bool.or_eq_true,List.any_eq_true];exact .inl ⟨k,by simpa using hw,.inr hc.1⟩
   have hb:=hF.conf j (j+1+q) (by omega) (by simp;omega) Bs
   have hs:=jy hS (Array.getElem?_eq_getElem hlt) hb (fun e he'=>hS (j+1+q) _ hc.2 (Array.getElem?_eq_getElem hlt) e he');rw [hSj] at hs;cases hs
  have h1:[j].filter (fun a=>(wr ops (D.map Prod.snd) a).contains k && S' a)=[j]:=by
   rw [List.filter_cons_of_pos (by simp only [hw,hS'];simp),List.filter_nil]
  rw [h2,h1,List.append_nil,lA];simp only [ho,hd];rw [e0]
def cv.congr{L:eaa}{B:faa}{F0:faa}{w0:World}{n:Nat}{t t':daa}{os:List (Nat×Option (List AV))}{a:Act}{w:World}(h:Den L B F0 w0 ⟨n,t,os⟩ a w)(ht:∀ k,T t k=T t' k):Den L B F0 w0 ⟨n,t',os⟩ a w :=
 h.weaken rfl (fun k=>.inl (ht k).symm) (fun _ _ h=>h)
def LOp.Cb{L:eaa}{P:Program}{n:Nat}{t t':daa}{os:List (Nat×Option (List AV))}{o:Oper}{x:AV}{C ks:List Nat}(h:LOp L P ⟨n,dP t ks,os⟩ o x C)(ht:∀ k,k∈ks->T t' k=T t k)(hC:∀ i,i∈C->i∈ks):LOp L P ⟨n,t',os⟩ o x C:=by
 intro B F0 w0 F own fp fs a w next Q hd bF
 have hT:∀ i,i∈ks->T (dP t ks) i=T t i:=by
  intro i hi;clear h hC ht
  induction ks with
  | nil=>cases hi
  | cons q ks ih =>
   simp only [dP,List.map_cons,T];by_cases e:q=i
   ·subst e;simp
   ·have:(q == i)=false:=by simpa using e
    rw [this];rcases List.mem_cons.1 hi with rfl|hi
    ·exact absurd rfl e
    ·exact ih hi
 have hT':∀ i,i ∉ ks->T (dP t ks) i=.dead:=by
  intro i hi;clear h hC ht hT
  induction ks with
  | nil=>rfl
  | cons q ks ih =>
   simp only [dP,List.map_cons,T];have e:¬ q=i:=fun e=>hi (by simp [e])
   have:(q == i)=false:=by simpa using e
   rw [this];exact ih (fun h=>hi (by simp [h]))
 classical
 refine h B F0 w0 F own (fun i=>if i∈ks then fp i else []) fs a w next Q { hd with slots:=?_,sn:=?_,so:=?_ } ?_
 ·intro i;by_cases e:i∈ks
  ·simp only [if_pos e,hT i e,<- ht i e];exact hd.slots i
  ·simp only [if_neg e,hT' i e];simp [Rep]
 ·intro i;split
  ·exact hd.sn i
  ·simp
 ·intro i b hb;split at hb
  ·exact hd.so i b hb
  ·simp at hb
 ·intro v w' g;refine bF v w' ⟨g.below.mono fun b hb=>⟨hb.1,fun ⟨i,hi,e⟩=>hb.2 ⟨i,hi,by by_cases hk:i∈ks<;>simp [hk] at e;exact e⟩⟩,?_⟩;obtain ⟨F',fx,h1,h2,h3,h4,h5⟩:=g.rep;refine ⟨F',fx,h1,fun b hb=>?_,h3,h4,fun b hb=>⟨(h5 b hb).1,?_⟩⟩
  ·rcases h2 b hb with e|e|⟨i,hi,e⟩
   ·exact .inl e
   ·exact .inr (.inl e)
   ·exact .inr (.inr ⟨i,hi,by simpa [hC i hi] using e⟩)
  ·rcases (h5 b hb).2 with ⟨i,hi,e⟩|e
   ·exact .inl ⟨i,hi,by simpa [hC i hi] using e⟩
   ·exact .inr e
end
section
def filter_le{p q:Nat->Bool}(h:∀ i,q i=true->p i=true):∀ l:List Nat,(l.filter q).length<=(l.filter p).length
 | []=>by simp
 | i::l=>by
  have:=filter_le h l
  cases hq:q i with
  | true=>rw [List.filter_cons_of_pos (by simpa using hq),List.filter_cons_of_pos (by simpa using h i hq)];simpa using this
  | false =>
   rw [List.filter_cons_of_neg (by simp [hq])]
   cases hp:p i with
   | true=>rw [List.filter_cons_of_pos (by simpa using hp)];simp;omega
   | false=>rw [List.filter_cons_of_neg (by simp [hp])];exact this
def filter_lt{p q:Nat->Bool}(h:∀ i,q i=true->p i=true):∀ l:List Nat,(∃ i,i∈l/\p i=true/\q i=false)->(l.filter q).length<(l.filter p).length
 | [],hex=>by simp at hex
 | i::l,⟨j,hj,hp,hq⟩=>by
  rcases List.mem_cons.1 hj with rfl|hj
  ·rw [List.filter_cons_of_neg (by simp [hq]),List.filter_cons_of_pos (by simpa using hp)];have:=filter_le h l;simp;omega
  ·have:=filter_lt h l ⟨j,hj,hp,hq⟩
   cases hq':q i with
   | true=>rw [List.filter_cons_of_pos (by simpa using hq'),List.filter_cons_of_pos (by simpa using h i hq')];simpa using this
   | false =>
    rw [List.filter_cons_of_neg (by simp [hq'])]
    cases hp':p i with
    | true=>rw [List.filter_cons_of_pos (by simpa using hp')];simp;omega
    | false=>rw [List.filter_cons_of_neg (by simp [hp'])];exact this
def ready(ops:Array Oper)(listed:Array Bool)(i:Nat):Bool :=
 !listed.getD i true && ((ops[i]?).map (·.after.all fun e=>!Region.binds .any e || listed.getD e.on false)).getD false
def iO{ops:Array Oper}{listed:Array Bool}(hs:listed.size=ops.size){i:Nat}(hi:i<ops.size) :
  ready ops listed i=true↔listed.getD i false=false/\∀ e,e∈wts ops[i]->listed.getD e.on false=true:=by
 have ho:ops[i]? = some ops[i]:=Array.getElem?_eq_getElem hi
 have e1:listed.getD i true=listed.getD i false:=by simp [Array.getD,hs,hi]
 simp only [ready,ho,Option.map_some,Option.getD_some,Bool.and_eq_true,Bool.not_eq_true',e1];constructor
 ·rintro ⟨h1,h2⟩;refine ⟨h1,fun e he=>?_⟩;obtain ⟨he1,he2⟩:=Cf.1 he;rw [Array.all_eq_true_iff_forall_mem] at h2;have:=h2 e (by simpa using he1);rw [he2] at this;simpa using this
 ·rintro ⟨h1,h2⟩;refine ⟨h1,?_⟩;rw [Array.all_eq_true_iff_forall_mem];intro e he
  cases hb:Region.binds .any e with
  | false=>simp
  | true=>rw [h2 e (Cf.2 ⟨by simpa using he,hb⟩)];simp
def go_succ(ops:Array Oper)(fuel t:Nat)(listed:Array Bool)(acc:List Nat):Region.linearise.go .any ops (fuel+1) t listed acc =
  match ((List.range ops.size).filter (ready ops listed))[t % ((List.range ops.size).filter (ready ops listed)).length]? with
  | some i=>Region.linearise.go .any ops fuel (t / ((List.range ops.size).filter (ready ops listed)).length) (listed.setIfInBounds i true) (i::acc)
  | none=>acc.reverse:=rfl
def uj{listed:Array Bool}{i:Nat}(hi:i<listed.size)(j:Nat):(listed.setIfInBounds i true).getD j false=(listed.getD j false || j == i):=by
 rw [Array.getD_eq_getD_getElem?,Array.getElem?_setIfInBounds];by_cases e:i=j
 ·subst e;simp [hi]
 ·have:(j == i)=false:=by simp;exact fun h=>e h.symm
  rw [if_neg e,this,Bool.or_false,Array.getD_eq_getD_getElem?]
def xU{ops:Array Oper}{Cs:List (List Nat)}(hF:jC ops Cs):∀ (fuel t p:Nat) (acc:List Nat) (listed:Array Bool),Cs.length<=p->p<=ops.size->listed.size=ops.size->(∀ i,listed.getD i false=decide (i<p))->ops.size - p<=fuel ->
  Region.linearise.go .any ops fuel t listed acc=acc.reverse++List.range' p (ops.size - p)
 | 0,t,p,acc,listed,hm,hp,hs,hl,hf=>by
  have:ops.size - p=0:=by omega
  rw [this];simp [Region.linearise.go]
 | fuel+1,t,p,acc,listed,hm,hp,hs,hl,hf=>by
  have hS:o8 ops (fun i=>listed.getD i false=true):=by
   intro j o hj ho e he;have hj':j<p:=by rw [hl] at hj;simpa using hj
   rw [hl];have:=hF.edge j o ho e he;simp;omega
  rcases Nat.lt_or_ge p ops.size with hlt|hge
  ·have hrs:(List.range ops.size).filter (ready ops listed)=[p]:=by
    have lG:List.range ops.size=List.range p++([p]++(List.range (ops.size - (p+1))).map (p+1+·)):=by
     rw [<- List.append_assoc,<- List.range_succ,<- List.range_add];congr 1;omega
    rw [lG,List.filter_append,List.filter_append]
    have h1:(List.range p).filter (ready ops listed)=[]:=by
     rw [List.filter_eq_nil_iff];intro i hi hr;simp only [List.mem_range] at hi;have:=((iO hs (by omega)).1 hr).1;rw [hl] at this;simp at this;omega
    have h2:[p].filter (ready ops listed)=[p]:=by
     rw [List.filter_cons_of_pos,List.filter_nil];refine (iO hs hlt).2 ⟨by rw [hl];simp,fun e he=>?_⟩;have:=hF.edge p _ (Array.getElem?_eq_getElem hlt) e he;rw [hl];simpa using this
    have h3:((List.range (ops.size - (p+1))).map (p+1+·)).filter (ready ops listed)=[]:=by
     rw [List.filter_eq_nil_iff];intro i hi hr;simp only [List.mem_map,List.mem_range] at hi;obtain ⟨q,hq,rfl⟩:=hi;have nN:p+1+q<ops.size:=by omega
     have:=(iO hs nN).1 hr
     have hb:=hF.tail p (p+1+q) (by omega) nN (by omega)
     have:=jy hS (Array.getElem?_eq_getElem nN) hb this.2;rw [hl] at this;simp at this
    rw [h1,h2,h3];rfl
   rw [go_succ,hrs];simp only [List.length_singleton,Nat.mod_one,List.getElem?_cons_zero]
   rw [xU hF fuel _ (p+1) (p::acc) (listed.setIfInBounds p true) (by omega) (by omega) (by simpa using hs) (fun i=>by
    rw [uj (by omega),hl];by_cases e:i=p
    ·subst e;simp
    ·have:(i == p)=false:=by simpa using e
     rw [this,Bool.or_false];congr 1;apply propext;omega) (by omega)]
   rw [show ops.size - p=(ops.size - (p+1))+1 by omega,List.range'_succ];simp
  ·have hrs:(List.range ops.size).filter (ready ops listed)=[]:=by
    rw [List.filter_eq_nil_iff];intro i hi hr;simp only [List.mem_range] at hi;have:=((iO hs hi).1 hr).1;rw [hl] at this;simp at this;omega
   rw [go_succ,hrs];have:ops.size - p=0:=by omega
   rw [this];simp
def Wd{L:eaa}{P:Program}{ops:Array Oper}{n:Nat}{os:List (Nat×Option (List AV))}{t0:daa}{D:List (AV×List Nat)}{K:AS->Prop}{B:faa}{F0:faa}{w0:World}{Q:Exit->Act->World->Prop}(hF:jC ops (D.map Prod.snd))
  (hst:∀ j o d,ops[j]? = some o->D[j]? = some d->ub L P ops n os (cV ops D t0 (List.range j)) o d.1 d.2)
  (htl:lU L P ops (List.range' D.length (ops.size - D.length)) ⟨n,cV ops D t0 (List.range D.length),os⟩ K) (hQ:∀ s' a' w',K s'->Den L B F0 w0 s' a' w'->Q .normal a' w') :
  ∀ (fuel t:Nat) (listed:Array Bool) (acc:List Nat),listed.size=ops.size->o8 ops (fun i=>listed.getD i false=true)->(∀ j,D.length<=j->listed.getD j false=false)->((List.range ops.size).filter fun i=>!listed.getD i false).length<=fuel ->
  ∃ rest,Region.linearise.go .any ops fuel t listed acc=acc.reverse++rest/\∀ a w,Den L B F0 w0 ⟨n,cV ops D t0 ((List.range D.length).filter fun i=>listed.getD i false),os⟩ a w->wpOps P ops Q rest a w:=by
 intro fuel;have GH:D.length<=ops.size:=by have:=hF.le;simpa using this
 induction fuel with
 | zero =>
  intro t listed acc hs hS hno wT;have hnil:(List.range ops.size).filter (fun i=>!listed.getD i false)=[]:=List.eq_nil_of_length_eq_zero (by omega);rw [List.filter_eq_nil_iff] at hnil;have hall:∀ i,i<ops.size->listed.getD i false=true:=fun i hi=>by simpa using hnil i (by simpa using hi)
  have hD:D.length=ops.size:=by
   rcases Nat.lt_or_ge D.length ops.size with h|h
   ·have:=hall D.length h;rw [hno D.length (Nat.le_refl _)] at this;cases this
   ·omega
  refine ⟨[],by simp [Region.linearise.go],fun a w hd=>?_⟩
  have zI:(List.range D.length).filter (fun i=>listed.getD i false)=List.range D.length:=by
   rw [List.filter_eq_self];intro i hi;exact hall i (by simp at hi;omega)
  rw [zI] at hd;have:=htl B F0 w0 a w Q hd hQ;rw [show ops.size - D.length=0 by omega] at this;exact this
 | succ fuel ih =>
  intro t listed acc hs hS hno wT;by_cases hall:∀ i,i<D.length->listed.getD i false=true
  ·refine ⟨List.range' D.length (ops.size - D.length),?_,fun a w hd=>?_⟩
   ·refine xU hF (fuel+1) t D.length acc listed (by simp) GH hs (fun i=>?_) ?_
    ·by_cases e:i<D.length
     ·rw [hall i e];simp [e]
     ·rw [hno i (by omega)];simp [e]
    ·refine Nat.le_trans ?_ wT
     have lG:List.range ops.size=List.range D.length++(List.range (ops.size - D.length)).map (D.length+·):=by
      rw [<- List.range_add];congr 1;omega
     rw [lG,List.filter_append,List.length_append]
     have:((List.range (ops.size - D.length)).map (D.length+·)).filter (fun i=>!listed.getD i false)=(List.range (ops.size - D.length)).map (D.length+·):=by
      rw [List.filter_eq_self];intro i hi;simp only [List.mem_map,List.mem_range] at hi;obtain ⟨q,_,rfl⟩:=hi;rw [hno _ (by omega)];rfl
     rw [this];simp
   ·have zI:(List.range D.length).filter (fun i=>listed.getD i false)=List.range D.length:=by
     rw [List.filter_eq_self];intro i hi;exact hall i (by simpa using hi)
    rw [zI] at hd;exact htl B F0 w0 a w Q hd hQ
  ·have hex:∃ i,i<D.length/\listed.getD i false=false:=by
    rcases Classical.em (∃ i,i<D.length/\listed.getD i false=false) with h|h
    ·exact h
    ·exact absurd (fun i hi=>by
      rcases hb:listed.getD i false with _|_
      ·exact absurd ⟨i,hi,hb⟩ h
      ·rfl) hall
   have pJ:=least hex;obtain ⟨i0,⟨hi0,hl0⟩,pJ⟩:=pJ
   have hr0:ready ops listed i0=true:=by
    refine (iO hs (by omega)).2 ⟨hl0,fun e he=>?_⟩;have hlt:=hF.edge i0 _ (Array.getElem?_eq_getElem (by omega)) e he;rcases hb:listed.getD e.on false with _|_
    ·have:=pJ e.on ⟨by omega,hb⟩;omega
    ·rfl
   have Br:i0∈(List.range ops.size).filter (ready ops listed):=List.mem_filter.2 ⟨by simp;omega,hr0⟩
   have hpos:0<((List.range ops.size).filter (ready ops listed)).length:=List.length_pos_of_mem Br
   have hlt:=Nat.mod_lt t hpos;rw [go_succ,List.getElem?_eq_getElem hlt];have rM:((List.range ops.size).filter (ready ops listed))[t % ((List.range ops.size).filter (ready ops listed)).length]∈(List.range ops.size).filter (ready ops listed):=List.getElem_mem hlt;generalize ((List.range ops.size).filter (ready ops listed))[t % ((List.range ops.size).filter (ready ops listed)).length]=j at rM;obtain ⟨hjn,hrj⟩:=List.mem_filter.1 rM;simp only [List.mem_range] at hjn;obtain ⟨hlj,hej⟩:=(iO hs hjn).1 hrj;have hoj:ops[j]? = some ops[j]:=Array.getElem?_eq_getElem hjn
   have hjD:j<D.length:=by
    rcases Nat.lt_or_ge j D.length with h|h
    ·exact h
    ·have hb:=hF.tail i0 j (by omega) hjn (by simpa using h)
     have:=jy hS hoj hb hej;rw [hl0] at this;cases this
   have hdj:D[j]? = some D[j]:=List.getElem?_eq_getElem hjD
   have hS':∀ i,(listed.setIfInBounds j true).getD i false=(listed.getD i false || i == j):=uj (by omega)
   obtain ⟨rest,hrest,hwp⟩:=ih (t / ((List.range ops.size).filter (ready ops listed)).length) (listed.setIfInBounds j true) (j::acc) (by simpa using hs) (by
    intro i o hi ho e he;rw [hS'] at hi ⊢;simp only [Bool.or_eq_true] at hi ⊢;rcases hi with hi|hi
    ·exact .inl (hS i o hi ho e he)
    ·have:i=j:=by simpa using hi
     subst this;rw [hoj] at ho;cases ho
     exact .inl (hej e he)) (by
    intro i hi;rw [hS',hno i hi];have:(i == j)=false:=by simp;omega
    rw [this];rfl) (by
    have:=filter_lt (p:=fun i=>!listed.getD i false) (q:=fun i=>!(listed.setIfInBounds j true).getD i false) (fun i hi=>by
     rw [hS'] at hi;simp only [Bool.not_or,Bool.and_eq_true] at hi;exact hi.1) (List.range ops.size) ⟨j,by simpa using hjn,by rw [hlj];rfl,by rw [hS'];simp⟩
    omega)
   refine ⟨j::rest,by dsimp only;rw [hrest];simp,fun a w hd=>?_⟩;have hSt:=hst j ops[j] D[j] hoj hdj
   have wP:∀ k,k∈slotsOf ops ops[j]->T (cV ops D t0 ((List.range D.length).filter fun i=>listed.getD i false)) k=T (cV ops D t0 (List.range j)) k:=fun k hk =>
    BR hF hS hoj hjD hlj hej t0 hk
   have bF:∀ a' w',Den L B F0 w0 ⟨n,upd ops[j] D[j].1 D[j].2 (cV ops D t0 ((List.range D.length).filter fun i=>listed.getD i false)),os⟩ a' w'->wpOps P ops Q rest a' w':=fun a' w' h' =>
    hwp a' w' (cv.congr h' (step_eq hF hS hoj hdj hlj hS' t0))
   have hop:LOp L P ⟨n,dP (cV ops D t0 (List.range j)) (slotsOf ops ops[j]),os⟩ ops[j] D[j].1 D[j].2->(ops[j]).wp P a w (wpOps P ops Q rest) Q:=fun hl =>
    (hl.Cb wP hSt.sub).opW hSt.dst (K:=fun s'=>s'=⟨n,upd ops[j] D[j].1 D[j].2 (cV ops D t0 ((List.range D.length).filter fun i=>listed.getD i false)),os⟩) rfl B F0 w0 a w _ Q hd fun s' a' w' e h'=>by
     subst e;exact bF a' w' h'
   rcases hSt.run with ⟨hg,hl⟩|⟨gi,want,oj,d,G,g,x0,hg,hgi,hgd,hgl,hT,hx,hC,h1⟩
   ·simp only [wpOps,hoj];rw [if_pos (by simp [Region.wanted,hg])];exact .inl (hop hl)
   ·have hk:d∈slotsOf ops ops[j]:=by simp [slotsOf,hg,hgi,hgd]
    have hy:=pW hd hgi hgd (by rw [wP d hk];exact hT) hgl;simp only [wpOps,hoj,Region.wanted,hg,hy]
    cases hw:(G && (g == want)) with
    | true =>
     have hl:=(h1 hw).cnd;rw [hw] at hx;rw [<- hx,<- hC] at hl;simp at hw;obtain ⟨rfl,rfl⟩:=hw;rw [if_pos (by simp)];exact .inl (hop hl)
    | false =>
     rw [if_neg (by cases G<;>simp_all)];refine bF _ _ ?_;obtain ⟨F,own,fp,fs,h⟩:=hd;have:=h.put (x:=.cnd false x0) (v:=undef) (fx:=[]) [] (ops[j]).dst hSt.dst (Kp.refl _ _) (fun _ h=>h) (fun _ h=>.inl h) (by simp [Rep]) (by simp) (by simp);rw [hx,hC,hw];exact this
def Den.drew{L:eaa}{B:faa}{F0:faa}{w0:World}{s:AS}{a:Act}{w:World}(h:Den L B F0 w0 s a w):Den L B F0 w0 s a { w with drawn:=w.drawn+1 }:=by
 obtain ⟨F,own,fp,fs,h⟩:=h
 have cE:Ext (fun _=>True) w { w with drawn:=w.drawn+1 }:=⟨Nat.le_refl _,fun _ _=>rfl,fun b c T z hc=>⟨c,hc,rfl⟩⟩
 refine ⟨F,own,fp,fs,{ h with below:=⟨h.below.os,h.below.tape,h.below.output,h.below.size,h.below.block,h.below.shape⟩,slots:=fun i=>Rep.ext cE (fun b hb=>⟨hb,trivial⟩) (fun _ _=>trivial) (h.slots i),obj:=fun b cells hb=>?_ }⟩;obtain ⟨h1,h2,h3,c,Ty,vals,rest,h4,h5,h6⟩:=h.obj b cells hb;exact ⟨h1,h2,h3,c,Ty,vals,rest,h4,h5,au.ext cE (fun b hb=>⟨hb,trivial⟩) (fun _ _=>trivial) h6⟩
def jB.inv{L:eaa}{P:Program}{ops:Array Oper}{n:Nat}{os:List (Nat×Option (List AV))}{K:daa->List (AV×List Nat)->Prop}{t0:daa} :
  ∀ {i:Nat} {t:daa} {acc:List (AV×List Nat)},jB L P ops n os K i t acc->i=acc.length->t=cV ops acc t0 (List.range acc.length) ->
  (∀ j o d,ops[j]? = some o->acc[j]? = some d->ub L P ops n os (cV ops acc t0 (List.range j)) o d.1 d.2) ->
  ∃ D,K (cV ops D t0 (List.range D.length)) D/\∀ j o d,ops[j]? = some o->D[j]? = some d->ub L P ops n os (cV ops D t0 (List.range j)) o d.1 d.2:=by
 intro i t acc h
 induction h with
 | done hK=>rintro _ rfl hst;exact ⟨_,hK,hst⟩
 | @step i t acc o x C ho hs _ ih =>
  rintro rfl rfl hst
  have hpre:∀ j,j<=acc.length->cV ops (acc++[(x,C)]) t0 (List.range j)=cV ops acc t0 (List.range j):=by
   intro j
   induction j with
   | zero=>intro _;rfl
   | succ j ihj =>
    intro hj;rw [List.range_succ,lA,lA,ihj (by omega),List.getElem?_append_left (by omega)]
  refine ih (by simp) ?_ ?_
  ·rw [List.length_append,List.length_singleton,List.range_succ,lA,hpre _ (Nat.le_refl _)];simp [ho]
  ·intro j o' d ho' hd;rcases Nat.lt_or_ge j acc.length with h|h
   ·rw [List.getElem?_append_left h] at hd;rw [hpre j (by omega)];exact hst j o' d ho' hd
   ·have hj:j=acc.length:=by
     rcases Nat.lt_or_ge j (acc++[(x,C)]).length with h'|h'
     ·simp at h';omega
     ·rw [List.getElem?_eq_none h'] at hd;cases hd
    subst hj;simp at hd;subst hd;rw [ho] at ho';cases ho';rw [hpre _ (Nat.le_refl _)];exact hs
class fQ(P:Program):Prop where
 h:P.follows .mixedOrders=true
theorem AW.draw{L:eaa}{P:Program}[hM:fQ P]{s:AS}{Q:Exit->AS->Prop}{id:Nat}{ops:Array Oper}
  (h:jB L P ops s.n s.o (fun t D=>drawOK ops (D.map Prod.snd)=true/\lU L P ops (List.range' D.length (ops.size - D.length)) ⟨s.n,t,s.o⟩ (fun s'=>Q .normal s')) 0 s.t []) :
  AW L P (.region id ops true) s Q:=by
 intro B F0 w0 a w hd;obtain ⟨D,⟨hok,htl⟩,hst⟩:=h.inv (t0:=s.t) rfl rfl (by simp);have hF:=qY hok;refine wp_region_draw fun t=>?_
 have Gx:Region.schedule (P.follows .mixedOrders) ops t=Region.linearise .any ops t:=by
  simp [Region.schedule,hM.h]
 rw [Gx]
 obtain ⟨rest,hrest,hwp⟩:=Wd (Q:=fun e a' w'=>∃ s',Q e s'/\Den L B F0 w0 s' a' w') (B:=B) (F0:=F0) (w0:=w0) hF hst htl (fun s' a' w' h1 h2=>⟨s',h1,h2⟩) ops.size t (Array.replicate ops.size false) [] (by simp) (by
  intro j o hj;rw [Array.getD_eq_getD_getElem?,Array.getElem?_replicate] at hj
  split at hj<;>simp at hj) (by
  intro j _;rw [Array.getD_eq_getD_getElem?,Array.getElem?_replicate]
  split<;>rfl) (by
  have:=List.length_filter_le (fun i=>!(Array.replicate ops.size false).getD i false) (List.range ops.size)
  simpa using this)
 unfold Region.linearise;rw [hrest];simp only [List.reverse_nil,List.nil_append];refine hwp a _ ?_
 have:(List.range D.length).filter (fun i=>(Array.replicate ops.size false).getD i false)=[]:=by
  rw [List.filter_eq_nil_iff];intro i _;rw [Array.getD_eq_getD_getElem?,Array.getElem?_replicate];split<;>simp
 rw [this];exact hd.drew
end
section
def WR(k:IntKind)(a b:Int):Int:=k.wrap (BitVec.ofInt k.bits a &&& BitVec.ofInt k.bits b).toNat
def Um(k:IntKind)(a b:Int):Int:=k.wrap (BitVec.ofInt k.bits a ^^^ BitVec.ofInt k.bits b).toNat
def UQ(k:IntKind)(a b:Int):Int:=a.fdiv (2 ^ min b.toNat k.bits)
def C0(op:BinOp):Value->Value->Option Value
 | .int k a,.int k' b=>match op with
  | .shr=>if b<0 then none else some (.int k (UQ k a b))
  | _=>if k=k' then
   (match op with
   | .add=>some (.int k (k.wrap (a+b)))
   | .sub=>some (.int k (k.wrap (a - b)))
   | .mul=>some (.int k (k.wrap (a * b)))
   | .eql=>some (.bool (a == b))
   | .neq=>some (.bool (a != b))
   | .lss=>some (.bool (decide (a<b)))
   | .leq=>some (.bool (decide (a<=b)))
   | .gtr=>some (.bool (decide (b<a)))
   | .geq=>some (.bool (decide (b<=a)))
   | .quo=>if b=0 then none else some (.int k (k.wrap (a.tdiv b)))
   | .rem=>if b=0 then none else some (.int k (a.tmod b))
   | .and=>some (.int k (WR k a b))
   | .xor=>some (.int k (Um k a b))
   | _=>none) else none
 | _,_=>none
def Fw{P:Program}{op:BinOp}{u v z:Value}{ty:TypeId}{x y:Operand}(h:C0 op u v=some z)(w:World):(do eqGuard op ty x y u v;binOp op ty u v:Sem Value).run P w=.ok z w:=by
 unfold C0 at h;split at h
 ·rename_i k a k' b;have hg:(eqGuard op ty x y (.int k a) (.int k' b)).run P w=.ok () w:=by cases op<;>simp [eqGuard]
  rw [Sem.run_bind,hg];simp only [Result.andThen_ok];split at h
  ·split at h
   ·cases h
   ·rename_i hb;cases h;simp [binOp,Op.shift,hb,UQ]
  ·split at h
   ·rename_i hk;subst hk
    cases op<;>simp at h<;>first
     | (subst h;simp [binOp,Op.intArith,Op.intCmp];done)
     | (subst h;simp [binOp,Op.intBits,WR,Um];done)
     | (obtain ⟨hb,h⟩:=h;subst h;simp [binOp,Op.intDiv,hb];done)
   ·cases h
 ·cases h
def HF(op:BinOp)(a b:List UInt8):Option Bool :=
 match op with
 | .eql=>some (a == b)
 | .neq=>some (!(a == b))
 | .lss=>some (Op.bytesLess a b)
 | .leq=>some (Op.bytesLess a b || a == b)
 | .gtr=>some (!(Op.bytesLess a b || a == b))
 | .geq=>some (!Op.bytesLess a b)
 | _=>none
def O1{P:Program}{op:BinOp}{a b:List UInt8}{z:Bool}{ty:TypeId}{x y:Operand}(h:HF op a b=some z)(w:World):(do eqGuard op ty x y (.string ⟨a.toArray⟩) (.string ⟨b.toArray⟩);binOp op ty (.string ⟨a.toArray⟩) (.string ⟨b.toArray⟩):Sem Value).run P w=.ok (.bool z) w:=by
 have hg:(eqGuard op ty x y (.string ⟨a.toArray⟩) (.string ⟨b.toArray⟩)).run P w=.ok () w:=by cases op<;>simp [eqGuard]
 rw [Sem.run_bind,hg];simp only [Result.andThen_ok];unfold HF at h;cases op<;>simp only [Option.some.injEq,reduceCtorEq] at h<;>(subst h;simp [binOp,Op.stringOp])
def unV(op:UnOp):Value->Option Value
 | .bool b=>match op with|.not=>some (.bool (!b))|_=>none
 | .int k n=>match op with|.neg=>some (.int k (k.wrap (0 - n)))|_=>none
 | _=>none
def RV{P:Program}{op:UnOp}{u z:Value}(h:unV op u=some z)(w:World):(Op.unary op u).run P w=.ok z w:=by
 unfold unV at h;split at h
 ·cases op<;>simp at h;subst h;simp [Op.unary]
 ·cases op<;>simp at h;subst h;simp [Op.unary,Op.intArith]
 ·cases h
section ops
variable {L : Nat -> Nat} {P : Program} {s : AS} {o : Oper}
def Pp{op:BinOp}{ty ty':TypeId}{x y:Operand}{u v z:Value}(ho:o.op=.binOp op ty x y ty')(hx:ev s.t x=.v u)(hy:ev s.t y=.v v)(hz:C0 op u v=some z):LOp L P s o (.v z) [] :=
 Ci ho hx hy (Fw hz)
def Pq{op:BinOp}{ty ty':TypeId}{x y:Operand}{a b:List UInt8}{z:Bool}(ho:o.op=.binOp op ty x y ty')(hx:ev s.t x=.str a)(hy:ev s.t y=.str b)(hz:HF op a b=some z):LOp L P s o (.v (.bool z)) []:=by refine jn fun B F0 w0 F own fp fs act w h=>?_;have:=O1 (P:=P) (ty:=ty) (x:=x) (y:=y) hz w;simp only [execOp,ho,(h.vV hx).1,(h.vV hy).1];rw [Sem.run_bind,this];rfl
def SK{ty ty':TypeId}{x y:Operand}{a b:List UInt8}(ho:o.op=.binOp .add ty x y ty')(hx:ev s.t x=S a)(hy:ev s.t y=S b)(hsz:a.length+b.length<=4611686018427387904):LOp L P s o (S (a++b)) []:=by
 refine uI fun B F0 w0 F own fp fs act w h=>⟨?_,by simpa using hsz⟩
 have h1:¬ ((a.length:Int)+(b.length:Int) > IntKind.i64.max):=by simp [IntKind.max,IntKind.bits,IntKind.signed];omega
 have hg:(eqGuard .add ty x y (.string ⟨a.toArray⟩) (.string ⟨b.toArray⟩)).run P w=.ok () w:=by simp [eqGuard]
 have hs:∀ l:List UInt8,(ByteArray.mk l.toArray).size=l.length:=fun l=>by simp [ByteArray.size]
 have hr:(do eqGuard .add ty x y (.string ⟨a.toArray⟩) (.string ⟨b.toArray⟩);binOp .add ty (.string ⟨a.toArray⟩) (.string ⟨b.toArray⟩):Sem Value).run P w=.ok (.string ⟨(a++b).toArray⟩) w:=by
  rw [Sem.run_bind,hg];simp only [Result.andThen_ok,binOp,Op.stringOp];rw [if_neg (by rw [hs,hs];push_cast;exact h1)];simp only [Sem.run_pure]
  congr 2
 simp only [execOp,ho,(h.vV hx).1,(h.vV hy).1];rw [Sem.run_bind,hr];rfl
def SH{op:UnOp}{ty:TypeId}{x:Operand}{u z:Value}(ho:o.op=.unOp op ty x)(hx:ev s.t x=.v u)(hz:unV op u=some z):LOp L P s o (.v z) [] :=
 Vy ho hx (RV hz)
def GI{F:faa}{w:World}{x:AV}{y:Value}{fp:List Nat}{G g:Bool}(h:pM x=some (G,g))(r:Rep L F w x y fp)(hG:G=true):y=.bool g:=by
 unfold pM at h;split at h
 ·cases h;simp only [Rep] at r;exact r.1
 ·cases h;simp only [Rep] at r;exact (r.1 hG).1
 ·cases h;cases hG
 ·cases h
def Po{c a b:Operand}{p Ga Gb u v:Bool}(ho:o.op=.pick c a b)(hc:ev s.t c=.v (.bool p))(ha:pM (ev s.t a)=some (Ga,u))(hb:pM (ev s.t b)=some (Gb,v))
  (h1:p=true->Ga=true) (h2:p=false->Gb=true):LOp L P s o (.v (.bool (bif p then u else v))) []:=by
 refine jn fun B F0 w0 F own fp fs act w h=>?_;simp only [execOp,ho,h.val hc,asBool,Sem.run_bind,Sem.run_pure,Result.andThen_ok]
 cases p with
 | true=>simp [GI ha (h.ev a) (h1 rfl)]
 | false=>simp [GI hb (h.ev b) (h2 rfl)]
def bnd(t:daa)(o:Option Operand)(d:Int):Option Int :=
 match o with
 | none=>some d
 | some y=>match ev t y with
  | .v (.int _ n)=>some n
  | _=>none
def mf{B:faa}{F0:faa}{w0:World}{F:faa}{own:Nat->Own}{fp fs:Nat->List Nat}{a:Act}{w:World}(h:cv L B F0 w0 F own fp fs s a w){y:Operand}{d n:Int}(hb:bnd s.t (some y) d=some n):∃ k,a.eval y=.int k n:=by
 unfold bnd at hb;simp only at hb;split at hb
 ·rename_i k m hm;cases hb;exact ⟨k,h.val hm⟩
 ·cases hb
def D8{t:TypeId}{x:Operand}{lo hi:Option Operand}{l:List UInt8}{i j:Int}(ho:o.op=.slice t x lo hi none)(ht:P.underlying t=some .string)(hx:ev s.t x=S l)(hlo:bnd s.t lo 0=some i)(hhi:bnd s.t hi l.length=some j)
  (h0:0<=i) (h1:i<=j) (h2:j<=l.length):LOp L P s o (S ((l.take j.toNat).drop i.toNat)) []:=by
 refine uI fun B F0 w0 F own fp fs a w h=>⟨?_,by have:=(h.vV hx).2;simp;omega⟩
 have hsz:(ByteArray.mk l.toArray).size=l.length:=by simp [ByteArray.size]
 have cE:(ByteArray.mk l.toArray).extract i.toNat j.toNat=⟨((l.take j.toNat).drop i.toNat).toArray⟩:=by
  apply WideShapes.bytes_inj;rw [ByteArray.data_extract];simp [List.extract_eq_take_drop,List.drop_take]
 have hv:=(h.vV hx).1
 have ht':=run_underlying ht w
 have hr:(Instr.sliceAt t (.string ⟨l.toArray⟩) (lo.map a.eval) (hi.map a.eval) none).run P w=.ok (.string ⟨((l.take j.toNat).drop i.toNat).toArray⟩) w:=by
  rw [<- cE,run_sliceAt_string w t _ _ _ _ ht];have hjn:((j.toNat:Nat):Int)=j:=by omega
  have e1:0<=j/\j<=(l.length:Int):=by omega
  cases lo with
  | none =>
   simp [bnd] at hlo;subst hlo
   cases hi with
   | none =>
    simp [bnd] at hhi;subst hhi;simp [Instr.slice,ht',Instr.sliceBounds];have h3:=cE;simp at h3;exact h3.symm
   | some y =>
    obtain ⟨k,hk⟩:=mf h hhi;simp [Instr.slice,ht',Instr.sliceBounds,Instr.sliceBound,hk,asIntOf,hsz,e1]
  | some z =>
   obtain ⟨k',hk'⟩:=mf h hlo
   cases hi with
   | none=>simp [bnd] at hhi;subst hhi;simp [Instr.slice,ht',Instr.sliceBounds,Instr.sliceBound,hk',asIntOf,hsz,h0,h1]
   | some y =>
    obtain ⟨k,hk⟩:=mf h hhi;simp [Instr.slice,ht',Instr.sliceBounds,Instr.sliceBound,hk,hk',asIntOf,hsz,h0,h1,e1,hjn]
 simp only [execOp,ho,hv,Sem.run_bind,Option.map_none];rw [hr];rfl
def bZ.split{F:faa}{w:World}{sz:Nat}:∀ {l1 l2:List AV} {vs:List Value} {fp:List Nat},bZ L F w sz (l1++l2) vs fp->∃ v1 v2 f1 f2,vs=v1++v2/\fp=f1++f2/\bZ L F w sz l1 v1 f1/\bZ L F w sz l2 v2 f2
 | [],l2,vs,fp,r=>⟨[],vs,[],fp,rfl,rfl,by simp [bZ],r⟩
 | x::xs,l2,vs,fp,r=>by
  simp only [List.cons_append,bZ] at r;obtain ⟨y,vs',f1,f2,rfl,hsz,rfl,hx,hxs⟩:=r;obtain ⟨v1,v2,g1,g2,rfl,rfl,h1,h2⟩:=bZ.split hxs;exact ⟨y.cells.toList++v1,v2,f1++g1,g2,by simp,by simp,by simp only [bZ];exact ⟨y,v1,f1,g1,rfl,hsz,rfl,hx,h1⟩,h2⟩
def F6{t e:TypeId}{x:Operand}{lo hi:Option Operand}{sz bytes:Nat}{l:List AV}{i j:Int}(ho:o.op=.slice t x lo hi none)(ht:elm P t=some (e,sz,bytes))(hx:ev s.t x=.sl false sz l)(hlo:bnd s.t lo 0=some i)(hhi:bnd s.t hi l.length=some j)
  (h0:0<=i) (h1:i<=j) (h2:j<=l.length):LOp L P s o (.sl false sz ((l.take j.toNat).drop i.toNat)) []:=by
 obtain ⟨inf,hut,dR,rfl,rfl⟩:=gX ht;refine LOp.gL fun B F0 w0 F own fp fs a w h=>?_;have hr:=h.ev x;rw [hx] at hr;have hP:P.elem t=e:=by simp [Program.elem,hut]
 have hsz:(sizeOf (P.elem t)).run P w=.ok inf.size w:=by rw [hP];simp [sizeOf,typeInfo,dR]
 have hjn:((j.toNat:Nat):Int)=j:=by omega
 have run:∀ (q:Option Addr) (cap:Nat),l.length<=cap->(Instr.sliceAt t (.slice q l.length cap) (lo.map a.eval) (hi.map a.eval) none).run P w=.ok (sliced q i.toNat j.toNat cap inf.size) w:=by
  intro q cap hc;have e1:0<=j/\j<=(cap:Int):=by omega
  rw [run_sliceAt_slice w t _ _ _ _ (gY hut),run_slice_any w t q l.length cap (gY hut)]
  cases lo with
  | none =>
   simp [bnd] at hlo;subst hlo
   cases hi with
   | none=>simp [bnd] at hhi;subst hhi;simp [Instr.sliceBounds,hsz]
   | some y =>
    obtain ⟨k,hk⟩:=mf h hhi;simp [Instr.sliceBounds,Instr.sliceBound,hk,asIntOf,e1,hsz]
  | some z =>
   obtain ⟨k',hk'⟩:=mf h hlo
   cases hi with
   | none=>simp [bnd] at hhi;subst hhi;simp [Instr.sliceBounds,Instr.sliceBound,hk',asIntOf,h0,h1,hsz]
   | some y =>
    obtain ⟨k,hk⟩:=mf h hhi;simp [Instr.sliceBounds,Instr.sliceBound,hk,hk',asIntOf,h0,h1,e1,hjn,hsz]
 have hlen:((l.take j.toNat).drop i.toNat).length=j.toNat - i.toNat:=by simp;omega
 simp only [Rep] at hr;rcases hr with ⟨hv|⟨_,aa,hv⟩,rfl,_⟩|⟨b,off,cap,vals,fp',hv,hlc,hlL,hrow,hE,hF⟩
 ·have hi0:i=0:=by simp at h2;omega
  have hj0:j=0:=by simp at h2;omega
  subst hi0 hj0;refine ⟨.slice none 0 0,?_,by simp [Rep]⟩;have:=run none 0 (by simp);simp only [List.length_nil] at this;simp only [execOp,ho,hv,Sem.run_bind,Option.map_none];rw [this];simp [sliced]
 ·have hi0:i=0:=by simp at h2;omega
  have hj0:j=0:=by simp at h2;omega
  subst hi0 hj0;refine ⟨sliced (some aa) 0 0 0 inf.size,?_,by simp [Rep,sliced]⟩;have:=run (some aa) 0 (by simp);simp only [List.length_nil] at this;simp only [execOp,ho,hv,Sem.run_bind,Option.map_none];rw [this];rfl
 ·rcases hF with ⟨hF,_⟩|⟨_,hF,rfl,_⟩
  ·cases hF
  ·refine ⟨sliced (some ⟨b,off,none⟩) i.toNat j.toNat cap inf.size,?_,?_⟩
   ·simp only [execOp,ho,hv,Sem.run_bind,Option.map_none];rw [run _ cap hlc];rfl
   ·have e1:l=l.take i.toNat++((l.take j.toNat).drop i.toNat++l.drop j.toNat):=by
     have h3:l.take j.toNat=l.take i.toNat++(l.take j.toNat).drop i.toNat:=by
      have:=List.take_append_drop i.toNat (l.take j.toNat);rw [List.take_take,Nat.min_eq_left (by omega)] at this;exact this.symm
     rw [<- List.append_assoc,<- h3,List.take_append_drop]
    rw [e1] at hE;obtain ⟨v1,v23,f1,f23,rfl,hf,r1,r23⟩:=hE.split;obtain ⟨v2,v3,f2,f3,rfl,hf2,r2,r3⟩:=r23.split;have hnil:f1++f23=[]:=hf.symm;simp only [List.append_eq_nil_iff] at hnil;obtain ⟨rfl,rfl⟩:=hnil;have Q5:f2++f3=[]:=hf2.symm;simp only [List.append_eq_nil_iff] at Q5;obtain ⟨rfl,rfl⟩:=Q5;have hl1:=r1.len
    have hl2:=r2.len;simp only [List.length_take] at hl1;rw [Nat.min_eq_left (by omega)] at hl1;simp only [Rep];by_cases hc:cap=i.toNat
    ·refine .inr ⟨b,off,0,[],[],?_,by omega,by omega,?_,?_,.inr ⟨by trivial,hF,rfl,by trivial⟩⟩
     ·simp only [sliced,hc,if_true,hlen];congr 1;omega
     ·obtain ⟨c,Ty,z,hc',_⟩:=hrow;exact ⟨c,Ty,z,hc',by simp⟩
     ·have:(l.take j.toNat).drop i.toNat=[]:=List.eq_nil_of_length_eq_zero (by omega);rw [this];simp [bZ]
    ·refine .inr ⟨b,off+i.toNat * inf.size,cap - i.toNat,v2,[],?_,by omega,by omega,?_,r2,.inr ⟨by trivial,hF,rfl,by trivial⟩⟩
     ·simp only [sliced,if_neg hc,Option.map_some,fo,hlen]
     ·have:=hrow.cut (i.toNat * inf.size) v2.length;rw [<- hl1,List.drop_left,List.take_left] at this;rw [<- hl1];exact this
def D9{t e:TypeId}{x:Operand}{lo hi:Option Operand}{sz bytes:Nat}{l:List AV}{i j:Int}(ho:o.op=.slice t x lo hi none)(ht:elm P t=some (e,sz,bytes))(hx:ev s.t x=.sl true sz l)(hlo:bnd s.t lo 0=some i)(hhi:bnd s.t hi l.length=some j)
  (h0:0<=i) (h1:i<=j) (h2:j<=l.length):LOp L P s o (.slo sz ((l.take j.toNat).drop i.toNat)) (kills s.t [x]):=by
 obtain ⟨inf,hut,dR,rfl,rfl⟩:=gX ht;refine LOp.of_run fun B F0 w0 F own fp fs a w h=>?_;have hnd:=ni h x
 have hkl:=gj h (x:=x) (xs:=[x]) (by simp)
 have hr:=h.ev x;rw [hx] at hr;have hP:P.elem t=e:=by simp [Program.elem,hut]
 have hsz:(sizeOf (P.elem t)).run P w=.ok inf.size w:=by rw [hP];simp [sizeOf,typeInfo,dR]
 have hjn:((j.toNat:Nat):Int)=j:=by omega
 have run:∀ (q:Option Addr) (cap:Nat),l.length<=cap->(Instr.sliceAt t (.slice q l.length cap) (lo.map a.eval) (hi.map a.eval) none).run P w=.ok (sliced q i.toNat j.toNat cap inf.size) w:=by
  intro q cap hc;have e1:0<=j/\j<=(cap:Int):=by omega
  rw [run_sliceAt_slice w t _ _ _ _ (gY hut),run_slice_any w t q l.length cap (gY hut)]
  cases lo with
  | none =>
   simp [bnd] at hlo;subst hlo
   cases hi with
   | none=>simp [bnd] at hhi;subst hhi;simp [Instr.sliceBounds,hsz]
   | some y =>
    obtain ⟨k,hk⟩:=mf h hhi;simp [Instr.sliceBounds,Instr.sliceBound,hk,asIntOf,e1,hsz]
  | some z =>
   obtain ⟨k',hk'⟩:=mf h hlo
   cases hi with
   | none=>simp [bnd] at hhi;subst hhi;simp [Instr.sliceBounds,Instr.sliceBound,hk',asIntOf,h0,h1,hsz]
   | some y =>
    obtain ⟨k,hk⟩:=mf h hhi;simp [Instr.sliceBounds,Instr.sliceBound,hk,hk',asIntOf,h0,h1,e1,hjn,hsz]
 have hlen:((l.take j.toNat).drop i.toNat).length=j.toNat - i.toNat:=by simp;omega
 simp only [Rep] at hr;rcases hr with ⟨hv|⟨hF,_⟩,rfl,_⟩|⟨b,off,cap,vals,fp',hv,hlc,hlL,hrow,hE,hF⟩
 ·have hi0:i=0:=by simp at h2;omega
  have hj0:j=0:=by simp at h2;omega
  subst hi0 hj0;refine ⟨.slice none 0 0,[],?_,by simp [Rep],by simp,by simp⟩;have:=run none 0 (by simp);simp only [List.length_nil] at this;simp only [execOp,ho,hv,Sem.run_bind,Option.map_none];rw [this];simp [sliced]
 ·cases hF
 ·rcases hF with ⟨_,hfp,rfl,iD⟩|⟨hF,_⟩
  ·have e1:l=l.take i.toNat++((l.take j.toNat).drop i.toNat++l.drop j.toNat):=by
    have h3:l.take j.toNat=l.take i.toNat++(l.take j.toNat).drop i.toNat:=by
     have:=List.take_append_drop i.toNat (l.take j.toNat);rw [List.take_take,Nat.min_eq_left (by omega)] at this;exact this.symm
    rw [<- List.append_assoc,<- h3,List.take_append_drop]
   rw [e1] at hE;obtain ⟨v1,v23,f1,f23,rfl,hf,r1,r23⟩:=hE.split;obtain ⟨v2,v3,f2,f3,rfl,hf2,r2,r3⟩:=r23.split
   have hsub:∀ q,q∈b::f2->q∈fpo fp x:=by
    intro q hq;rw [hfp,hf,hf2];rcases List.mem_cons.1 hq with rfl|hq
    ·simp
    ·simp [hq]
   have hn2:(b::f2).Nodup:=by
    rw [hfp,hf,hf2] at hnd;refine hnd.sublist (List.Sublist.cons_cons _ ?_);exact (List.sublist_append_left f2 f3).trans (List.sublist_append_right f1 _)
   have hl1:=r1.len;simp only [List.length_take] at hl1;rw [Nat.min_eq_left (by omega)] at hl1;by_cases hc:cap=i.toNat
   ·refine ⟨sliced (some ⟨b,0,none⟩) i.toNat j.toNat cap inf.size,b::f2,?_,?_,hn2,fun q hq=>hkl q (hsub q hq)⟩
    ·simp only [execOp,ho,hv,Sem.run_bind,Option.map_none];rw [run _ cap hlc];rfl
    ·have e2:(l.take j.toNat).drop i.toNat=[]:=List.eq_nil_of_length_eq_zero (by omega);rw [e2] at r2;simp only [bZ] at r2;obtain ⟨rfl,rfl⟩:=r2;rw [e2];simp only [Rep];refine .inr ⟨b,0,0,[],[],?_,by simp,by simp,?_,by simp [bZ],rfl,?_⟩
     ·simp only [sliced,hc,if_true,List.length_nil];congr 1<;>omega
     ·obtain ⟨c,Ty,z,hc',_⟩:=hrow;exact ⟨c,Ty,z,hc',by simp⟩
     ·obtain ⟨c,T,hc',_⟩:=iD;exact ⟨c,T,hc',by simp⟩
   ·refine ⟨sliced (some ⟨b,0,none⟩) i.toNat j.toNat cap inf.size,b::f2,?_,?_,hn2,fun q hq=>hkl q (hsub q hq)⟩
    ·simp only [execOp,ho,hv,Sem.run_bind,Option.map_none];rw [run _ cap hlc];rfl
    ·simp only [Rep];refine .inr ⟨b,0+i.toNat * inf.size,cap - i.toNat,v2,f2,?_,by omega,by omega,?_,r2,rfl,?_⟩
     ·simp only [sliced,if_neg hc,Option.map_some,fo,hlen]
     ·have:=hrow.cut (i.toNat * inf.size) v2.length;rw [<- hl1,List.drop_left,List.take_left] at this;rw [<- hl1];exact this
     ·obtain ⟨c,T,hc',abg⟩:=iD;refine ⟨c,T,hc',?_⟩
      have:i.toNat * inf.size+(cap - i.toNat) * inf.size=cap * inf.size:=by
       rw [<- Nat.add_mul];congr 1;omega
      omega
  ·cases hF
def cX(l:List UInt8):List AV:=l.map fun c=>.v (.int .u8 c.toNat)
def vl{F:faa}{w:World}:∀ {l:List UInt8} {vals:List Value} {f:List Nat},au L F w (cX l) vals f->vals=l.map fun c=>Value.int .u8 c.toNat
 | [],vals,f,hl=>by simp [cX,au] at hl;simp [hl.1]
 | c::l,vals,f,hl=>by
  simp only [cX,List.map_cons,au] at hl;obtain ⟨y,vs',f1,f2,rfl,rfl,hy,hl'⟩:=hl;simp only [Rep] at hy;rw [hy.1,vl hl'];simp
def Cg{src dst e:TypeId}{x:Operand}{b:Nat}{l:List UInt8}(ho:o.op=.convert src dst x)(hs:P.underlying src=some (.slice e))(he:P.underlying e=some (.int .u8))(hd:P.underlying dst=some .string)
  (hx:ev s.t x=.arr b 0 l.length 1) (hO:O s.o b=some (cX l)) (hlen:l.length<=4611686018427387904):LOp L P s o (S l) []:=by
 refine uI fun B F0 w0 F own fp fs a w h=>⟨?_,hlen⟩
 have hr:=h.ev x;rw [hx] at hr;simp only [Rep] at hr;obtain ⟨_,cap,hv,_⟩:=hr;obtain ⟨vals,f,hrow,hl,_⟩:=h.row hO 0;simp only [List.drop_zero] at hl;have KV:=vl hl;subst KV
 have hrun:=run_convert_bytes_back (P:=P) w src dst e ⟨b,0,none⟩ cap l hs he hd (fun j hj=>by
  rw [fo];exact hrow.cell (by simp [List.getElem?_eq_getElem hj]))
 simp only [execOp,ho,hv,Sem.run_bind,hrun];rfl
def unb:List AV->Option (List UInt8)
 | []=>some []
 | .v (.int .u8 n)::l=>if 0<=n/\n<=255 then (unb l).map (UInt8.ofNat n.toNat::·) else none
 | _=>none
def C9:∀ l:List UInt8,unb (cX l)=some l
 | []=>rfl
 | c::l=>by
  have h1:c.toNat<256:=c.toNat_lt
  have ih:=C9 l;simp only [cX] at ih;simp only [cX,List.map_cons,unb,Int.toNat_natCast,ih,Option.map_some,UInt8.ofNat_toNat];rw [if_pos (by omega)]
def Ix:∀ {l:List AV} {bs:List UInt8},unb l=some bs->l=cX bs
 | [],bs,h=>by simp [unb] at h;subst h;rfl
 | x::l,bs,h=>by
  unfold unb at h;split at h
  ·rename_i e;cases e
  ·rename_i n l' e;cases e;split at h
   ·rename_i hn
    cases hl:unb l with
    | none=>rw [hl] at h;cases h
    | some bs' =>
     rw [hl] at h;simp at h;subst h;rw [Ix hl]
     have:((UInt8.ofNat n.toNat).toNat:Int)=n:=by
      rw [UInt8.toNat_ofNat'];omega
     simp only [cX,List.map_cons,this]
   ·cases h
  ·cases h
def D7{src dst e:TypeId}{x:Operand}{own':Bool}{l:List UInt8}(ho:o.op=.convert src dst x)(hs:P.underlying src=some (.slice e))(he:P.underlying e=some (.int .u8))(hd:P.underlying dst=some .string)
  (hx:ev s.t x=.sl own' 1 (cX l)) (hlen:l.length<=4611686018427387904):LOp L P s o (S l) []:=by
 refine uI fun B F0 w0 F own fp fs a w h=>⟨?_,hlen⟩
 have hr:=h.ev x;rw [hx] at hr;simp only [Rep] at hr
 have hfl:(cX l).flatMap AV.cells=cX l:=by
  clear hx hr hlen
  induction l with
  | nil=>rfl
  | cons c l ih =>
   simp only [cX,List.map_cons,List.flatMap_cons] at ih ⊢;rw [ih];rfl
 have hel:∀ z,z∈cX l->z.elem 1=true:=by
  intro z hz;simp only [cX,List.mem_map] at hz;obtain ⟨c,_,rfl⟩:=hz;rfl
 rcases hr with ⟨hv,hl,_⟩|⟨b,off,cap,vals,fp',hv,_,_,hrow,hE,_⟩
 ·have:l=[]:=by cases l with|nil=>rfl|cons c l=>simp [cX] at hl
  subst this;rcases hv with hv|⟨_,aa,hv⟩
  ·have hrun:=run_convert_bytes_string (P:=P) w src dst e none 0 0 hs he hd
   have h0:(Conv.bytesToString (.slice none 0 0)).run P w=.ok (.string ⟨#[]⟩) w:=by
    unfold Conv.bytesToString;rfl
   rw [h0] at hrun;simp only [execOp,ho,hv,Sem.run_bind,hrun];rfl
  ·have hrun:=run_convert_bytes_back (P:=P) w src dst e aa 0 [] hs he hd (fun j hj=>by simp at hj);simp only [List.length_nil] at hrun;simp only [execOp,ho,hv,Sem.run_bind,hrun];rfl
 ·have hl:=hE.flat hel;rw [hfl] at hl;have KV:=vl hl;subst KV
  have hrun:=run_convert_bytes_back (P:=P) w src dst e ⟨b,off,none⟩ cap l hs he hd (fun j hj=>by
   rw [fo];exact hrow.cell (by simp [List.getElem?_eq_getElem hj]))
  have hll:(cX l).length=l.length:=by simp [cX]
  rw [hll] at hv;simp only [execOp,ho,hv,Sem.run_bind,hrun];rfl
def Gc{src dst:TypeId}{x:Operand}{k k':IntKind}{n:Int}{d:TypeDesc}(ho:o.op=.convert src dst x)(hs:P.underlying src=some d)(hd:P.underlying dst=some (.int k))(hx:ev s.t x=.v (.int k' n)):LOp L P s o (.v (.int k (k.wrap n))) []:=by refine jn fun B F0 w0 F own fp fs a w h=>?_;simp only [execOp,ho,h.val hx,Sem.run_bind,convert,run_underlying hs,run_underlying hd,Result.andThen_ok];simp [Conv.intToInt]
def F9{f:FuncId}{cap:Array Operand}(ho:o.op=.makeFunc (.func f) #[] cap)(hn:AV.nownL (cap.toList.map (ev s.t))=true):LOp L P s o (.fn f (cap.toList.map (ev s.t))) []:=by
 refine LOp.gL fun B F0 w0 F own fp fs a w h=>?_;refine ⟨.func (.func f) #[] (cap.toList.map a.eval).toArray,?_,?_⟩
 ·have e:cap.map a.eval=(cap.toList.map a.eval).toArray:=by apply Array.ext';simp
  rw [<- e];simp [execOp,ho,Instr.makeFunc]
 ·simp only [Rep];exact ⟨_,rfl,au.tw h _ hn⟩
def SI{c:Call}{x y:Operand}{ts:Array TypeId}{k:IntKind}{m n:Int}(ho:o.op=.call c)(hc:c=⟨.builtin .min,#[x,y],ts⟩)(hx:ev s.t x=.v (.int k m))(hy:ev s.t y=.v (.int k n)):LOp L P s o (.v (.int k (if n<m then n else m))) []:=by subst hc;refine jn fun B F0 w0 F own fp fs a w h=>?_;simp [execOp,ho,resolve,invoke,builtin,h.val hx,h.val hy,Builtin.min_,Builtin.min2]
def SJ{c:Call}{x y:Operand}{ts:Array TypeId}{k:IntKind}{m n:Int}(ho:o.op=.call c)(hc:c=⟨.builtin .max,#[x,y],ts⟩)(hx:ev s.t x=.v (.int k m))(hy:ev s.t y=.v (.int k n)):LOp L P s o (.v (.int k (if n > m then n else m))) []:=by subst hc;refine jn fun B F0 w0 F own fp fs a w h=>?_;simp [execOp,ho,resolve,invoke,builtin,h.val hx,h.val hy,Builtin.max_,Builtin.max2]
end ops
end
section
def AV.unp:AV->AV
 | .pin _ x=>x
 | x=>x
def AV.oH:AV->AV->AV
 | .pin u _,x'=>.pin u x'
 | _,x'=>x'
def AV.det:AV->Bool
 | .v _=>true
 | .str _=>true
 | _=>false
def q8:List AV->Bool
 | []=>true
 | x::xs=>x.det && q8 xs
def mi:List AV->List AV
 | []=>[]
 | x::xs=>x.unp::mi xs
def mC:List AV->List AV->List AV
 | x::xs,y::ys=>x.oH y::mC xs ys
 | _,_=>[]
def mkv(g:Bool)(vs:List Value):Value:=bif g then .agg vs.toArray else vs.headD undef
def kH(g:Bool)(l:List AV):AV:=bif g then .agg l else l.headD .dead
section
variable {L : Nat -> Nat} {F : Nat -> Prop} {w : World}
def Rep.unp{x:AV}{y:Value}{fp:List Nat}(h:Rep L F w x y fp):Rep L F w x.unp y fp:=by
 cases x with
 | pin v x=>simp only [Rep] at h;exact h.2
 | _=>exact h
def Rep.CV{F':faa}{w':World}{x:AV}{y y':Value}{fp fp':List Nat}(hd:x.hdr.det=true)(h:Rep L F w x y fp)(h':Rep L F' w' x.hdr y' fp'):y'=y:=by
 cases x with
 | pin v x=>simp only [Rep,AV.hdr] at h h';rw [h.1,h'.1]
 | v x=>simp only [Rep,AV.hdr] at h h';rw [h.1,h'.1]
 | str x=>simp only [Rep,AV.hdr] at h h';rw [h.1,h'.1]
 | _=>simp [AV.hdr,AV.det] at hd
def Rep.oH{F':faa}{w':World}{x z:AV}{y:Value}{fp fp':List Nat}(h:Rep L F w x y fp)(h':Rep L F' w' z y fp'):Rep L F' w' (x.oH z) y fp':=by
 cases x with
 | pin v x=>simp only [Rep,AV.oH] at h ⊢;exact ⟨h.1,h'⟩
 | _=>exact h'
def au.unp:∀ {l:List AV} {vs:List Value} {fp:List Nat},au L F w l vs fp->au L F w (mi l) vs fp
 | [],_,_,h=>h
 | x::xs,vs,fp,h=>by
  simp only [au,mi] at h ⊢;obtain ⟨y,vs',f1,f2,hv,hf,hx,hxs⟩:=h;exact ⟨y,vs',f1,f2,hv,hf,hx.unp,hxs.unp⟩
def au.CV{F':faa}{w':World}:∀ {l:List AV} {vs vs':List Value} {fp fp':List Nat},q8 (fJ l)=true->au L F w l vs fp->au L F' w' (fJ l) vs' fp'->vs'=vs
 | [],_,_,_,_,_,h,h'=>by simp only [au,fJ] at h h';rw [h.1,h'.1]
 | x::xs,vs,vs',fp,fp',hd,h,h'=>by
  simp only [fJ,q8,Bool.and_eq_true] at hd;simp only [au,fJ] at h h';obtain ⟨y,us,f1,f2,rfl,_,hx,hxs⟩:=h;obtain ⟨y',us',g1,g2,rfl,_,hx',abe⟩:=h';rw [hx.CV hd.1 hx',au.CV hd.2 hxs abe]
def au.oH{F':faa}{w':World}:∀ {l z:List AV} {vs:List Value} {fp fp':List Nat},au L F w l vs fp->au L F' w' z vs fp'->au L F' w' (mC l z) vs fp'
 | [],z,vs,fp,fp',h,h'=>by
  simp only [au] at h;obtain ⟨rfl,_⟩:=h
  cases z with
  | nil=>simpa [mC] using h'
  | cons a z=>simp only [au] at h';obtain ⟨y,vs',_,_,e,_⟩:=h';cases e
 | x::xs,z,vs,fp,fp',h,h'=>by
  simp only [au] at h;obtain ⟨y,us,f1,f2,rfl,_,hx,hxs⟩:=h
  cases z with
  | nil=>simp only [au] at h';exact absurd h'.1 (by simp)
  | cons a z =>
   simp only [au] at h';obtain ⟨y',us',g1,g2,e,rfl,ha,hz⟩:=h';cases e;simp only [mC,au];exact ⟨y,us,g1,g2,rfl,rfl,hx.oH ha,hxs.oH hz⟩
def uA{g:Bool}{x:List AV}{v:Value}{fp:List Nat}(hg:g=false->x.length=1)(h:Rep L F w (kH g x) v fp):∃ vs,au L F w x vs fp/\v=mkv g vs:=by
 cases g with
 | true =>
  simp only [kH,cond_true,Rep] at h;obtain ⟨vs,rfl,h⟩:=h;exact ⟨vs,h,rfl⟩
 | false =>
  have:=hg rfl
  match x,this,h with
  | [x],_,h =>
   refine ⟨[v],?_,rfl⟩;simp only [au];exact ⟨v,[],fp,[],rfl,by simp,by simpa [kH] using h,rfl,rfl⟩
def HK{g:Bool}{x:List AV}{vs:List Value}{fp:List Nat}(hg:g=false->x.length=1)(h:au L F w x vs fp):Rep L F w (kH g x) (mkv g vs) fp:=by
 cases g with
 | true=>simp only [kH,cond_true,Rep];exact ⟨vs,rfl,h⟩
 | false =>
  have:=hg rfl
  match x,this,h with
  | [x],_,h =>
   simp only [au] at h;obtain ⟨y,vs',f1,f2,rfl,rfl,hx,rfl,rfl⟩:=h;simpa [kH,mkv] using hx
def oL:∀ l:List AV,(fJ l).length=l.length
 | []=>rfl
 | x::xs=>by simp [fJ,oL xs]
def sy:∀ l:List AV,(mi l).length=l.length
 | []=>rfl
 | x::xs=>by simp [mi,sy xs]
end
end
section
mutual
def AV.closed:AV->Bool
 | .sl o _ l=>o && AV.cy l
 | .vp _=>false
 | .agg l=>AV.cy l
 | .tup l=>AV.cy l
 | .fn _ l=>AV.cy l
 | .cnd _ x=>x.closed
 | .pin _ x=>x.closed
 | .slo _ l=>AV.cy l
 | _=>true
def AV.cy:List AV->Bool
 | []=>true
 | x::xs=>x.closed && AV.cy xs
end
mutual
def Rep.closed{L:eaa}{F G:faa}{w:World}:∀ {x:AV} {y:Value} {fp:List Nat},x.closed=true->Rep L F w x y fp->Rep L G w x y fp
 | .dead,_,_,_,r=>by simpa [Rep] using r
 | .v _,_,_,_,r=>by simpa [Rep] using r
 | .str _,_,_,_,r=>by simpa [Rep] using r
 | .sl own sz l,y,fp,h,r=>by
  simp [AV.closed] at h;simp only [Rep] at r ⊢;rcases r with r|⟨b,off,cap,vals,fp',hy,h1,h2,hrow,he,ho⟩
  ·exact .inl r
  ·refine .inr ⟨b,off,cap,vals,fp',hy,h1,h2,hrow,bZ.closed h.2 he,?_⟩;rcases ho with ho|⟨e,_⟩
   ·exact .inl ho
   ·rw [h.1] at e;cases e
 | .vp _,_,_,h,_=>by simp [AV.closed] at h
 | .arr ..,_,_,_,r=>by simpa [Rep] using r
 | .ptr ..,_,_,_,r=>by simpa [Rep] using r
 | .agg l,y,fp,h,r=>by
  simp only [Rep] at r ⊢;obtain ⟨vs,hy,hl⟩:=r;exact ⟨vs,hy,au.closed (by simpa [AV.closed] using h) hl⟩
 | .tup l,y,fp,h,r=>by
  simp only [Rep] at r ⊢;obtain ⟨vs,hy,hl⟩:=r;exact ⟨vs,hy,au.closed (by simpa [AV.closed] using h) hl⟩
 | .fn f l,y,fp,h,r=>by
  simp only [Rep] at r ⊢;obtain ⟨vs,hy,hl⟩:=r;exact ⟨vs,hy,au.closed (by simpa [AV.closed] using h) hl⟩
 | .cnd g x,y,fp,h,r=>by
  simp only [Rep] at r ⊢;exact ⟨fun e=>Rep.closed (by simpa [AV.closed] using h) (r.1 e),r.2⟩
 | .pin v x,y,fp,h,r=>by
  simp only [Rep] at r ⊢;exact ⟨r.1,Rep.closed (by simpa [AV.closed] using h) r.2⟩
 | .slo sz l,y,fp,h,r=>by
  simp [AV.closed] at h;simp only [Rep] at r ⊢;rcases r with r|⟨b,off,cap,vals,fp',hy,h1,h2,hrow,he,ho⟩
  ·exact .inl r
  ·exact .inr ⟨b,off,cap,vals,fp',hy,h1,h2,hrow,bZ.closed h he,ho⟩
def au.closed{L:eaa}{F G:faa}{w:World}:∀ {l:List AV} {vs:List Value} {fp:List Nat},AV.cy l=true->au L F w l vs fp->au L G w l vs fp
 | [],_,_,_,r=>by simpa [au] using r
 | x::xs,vs,fp,h,r=>by
  simp [AV.cy] at h;simp only [au] at r ⊢;obtain ⟨y,vs',f1,f2,hv,rfl,hx,hxs⟩:=r;exact ⟨y,vs',f1,f2,hv,rfl,Rep.closed h.1 hx,au.closed h.2 hxs⟩
def bZ.closed{L:eaa}{F G:faa}{w:World}{sz:Nat}:∀ {l:List AV} {vs:List Value} {fp:List Nat},AV.cy l=true->bZ L F w sz l vs fp->bZ L G w sz l vs fp
 | [],_,_,_,r=>by simpa [bZ] using r
 | x::xs,vs,fp,h,r=>by
  simp [AV.cy] at h;simp only [bZ] at r ⊢;obtain ⟨y,vs',f1,f2,hv,hsz,rfl,hx,hxs⟩:=r;exact ⟨y,vs',f1,f2,hv,hsz,rfl,Rep.closed h.1 hx,bZ.closed h.2 hxs⟩
end
def Low(os:List (Nat×Option (List AV)))(x y:AV):Prop :=
 (x.cW=true/\y=x)\/(∃ b off len sz l cells,x=.arr b off len sz/\O os b=some cells/\y=.sl false sz l/\l.length=len/\l.flatMap AV.cells=AV.bg ((cells.drop off).take (len * sz))/\(∀ z,z∈l->z.elem sz=true))\/y=x.frz \/
 (∃ g b pre px post,O os b=some (pre++(px++post))/\q8 (fJ px)=true/\(g=false->px.length=1)/\x=kH g (fJ px)/\y=kH g (AV.bg px)) \/
 (∃ b off cells,x=.ptr b off/\O os b=some cells/\y=.vp (AV.bg (cells.drop off)))
inductive mY(os:List (Nat×Option (List AV))):List AV->List AV->Prop
 | nil:mY os [] []
 | cons {x y xs ys}:Low os x y->mY os xs ys->mY os (x::xs) (y::ys)
def ud(L:eaa)(P:Program)(os:List (Nat×Option (List AV)))(f:FuncId)(args:List AV)(res:AV):Prop :=
 enters P f=true/\((AV.nownL args=true/\eY L P f args res)\/∃ args',mY os args args'/\res.closed=true/\eY L P f args' res)
def ud.pure{L:eaa}{P:Program}{os:List (Nat×Option (List AV))}{f:FuncId}{args:List AV}{res:AV}(he:enters P f=true)(hn:AV.nownL args=true)(h:eY L P f args res):ud L P os f args res:=⟨he,.inl ⟨hn,h⟩⟩
section
variable {L : Nat -> Nat} {P : Program} {s : AS} {o : Oper}
def SG{B:faa}{F0:faa}{w0:World}{F:faa}{own:Nat->Own}{fp fs:Nat->List Nat}{a:Act}{w:World}(h:cv L B F0 w0 F own fp fs s a w){x y:AV}{v:Value}{f:List Nat}(hl:Low s.o x y)(hr:Rep L F w x v f)(hf:∀ b,b∈f->b<w.heap.size) :
  Rep L (fun b=>b<w.heap.size) w y v []:=by
 have hFl:∀ b,F b->b<w.heap.size:=fun b hb=>(h.fl b hb).2.1
 have hid:Ext (fun _=>True) w w:=⟨Nat.le_refl _,fun _ _=>rfl,fun b c T z hc=>⟨c,hc,rfl⟩⟩
 rcases hl with ⟨hn,rfl⟩|⟨b,off,len,sz,l,cells,rfl,hO,rfl,hlen,hfl,hel⟩|rfl|⟨g,b,pre,px,post,hO,hdt,hg,rfl,rfl⟩|⟨b,off,cells,rfl,hO,rfl⟩
 ·rw [Rep.dX hn hr] at hr;exact Rep.ext hid (fun b hb=>⟨hFl b hb,trivial⟩) (by simp) hr
 ·simp only [Rep] at hr;obtain ⟨_,cap,hv,hlc,hlL,iD⟩:=hr;obtain ⟨vals,f',hrow,hl',hsub⟩:=h.row hO off;obtain ⟨f2,hl2,Yp⟩:=hl'.cut 0 (len * sz);simp only [List.drop_zero] at hl2;obtain ⟨hkey,_,eD,_⟩:=h.obj b cells hO;have hb:=(h.ol b (by rw [hkey];simp)).2
  have hfz:=au.frz (F':=fun b=>b<w.heap.size) hFl (fun k hk=>(h.ol k (by rw [eD k (hsub k (Yp k hk))];simp)).2) hl2;simp only [Rep];refine .inr ⟨b,off,cap,vals.take (len * sz),[],by rw [hlen];exact hv,by omega,by omega,?_,?_,.inr ⟨by trivial,hb,rfl,by trivial⟩⟩
  ·have:=hrow.cut 0 (len * sz);simpa using this
  ·refine au.oO hel ?_;rw [hfl];exact hfz
 ·exact Rep.frz hFl hf hr
 ·obtain ⟨hkey,j1,eD,c,Ty,vals,rst,hc,hcl,hl⟩:=h.obj b _ hO;obtain ⟨v1,v23,f1,f23,rfl,hfs,r1,r23⟩:=hl.split;obtain ⟨vs,v3,fx,f3,rfl,rfl,r2,r3⟩:=r23.split;obtain ⟨vs',Gw,rfl⟩:=uA (x:=fJ px) (fun e=>by rw [oL];exact hg e) hr;have e0:vs'=vs:=au.CV hdt r2 Gw;subst e0;refine HK (fun e=>by rw [AV.ng,List.length_map];exact hg e) (au.frz hFl (fun k hk=>?_) r2);exact (h.ol k (by rw [eD k (by rw [hfs];simp [hk])];simp)).2
 ·simp only [Rep] at hr;obtain ⟨vals,f',hrow,hl',hsub⟩:=h.row hO off;obtain ⟨hkey,_,eD,_⟩:=h.obj b cells hO;have hb:=(h.ol b (by rw [hkey];simp)).2
  have hfz:=au.frz (F':=fun b=>b<w.heap.size) hFl (fun k hk=>(h.ol k (by rw [eD k (hsub k hk)];simp)).2) hl';simp only [Rep];exact ⟨trivial,b,off,vals,hr.1,hb,hrow,hfz⟩
def F3{B:faa}{F0:faa}{w0:World}{F:faa}{own:Nat->Own}{fp fs:Nat->List Nat}{a:Act}{w:World}(h:cv L B F0 w0 F own fp fs s a w):∀ {xs ys:List AV} {vs:List Value} {f:List Nat},mY s.o xs ys->au L F w xs vs f->(∀ b,b∈f->b<w.heap.size) ->
  au L (fun b=>b<w.heap.size) w ys vs []
 | _,_,_,_,.nil,r,_=>by simp only [au] at r ⊢;exact ⟨r.1,by trivial⟩
 | _,_,_,_,.cons hx hxs,r,hf=>by
  simp only [au] at r ⊢;obtain ⟨y,vs',f1,f2,hv,rfl,h1,h2⟩:=r;exact ⟨y,vs',[],[],hv,rfl,SG h hx h1 (fun b hb=>hf b (by simp [hb])),F3 h hxs h2 (fun b hb=>hf b (by simp [hb]))⟩
def au.Jj{B:faa}{F0:faa}{w0:World}{F:faa}{own:Nat->Own}{fp fs:Nat->List Nat}{a:Act}{w:World}(h:cv L B F0 w0 F own fp fs s a w) :
  ∀ xs:List Operand,∃ f,au L F w (xs.map (ev s.t)) (xs.map a.eval) f/\∀ b,b∈f->b<w.heap.size
 | []=>⟨[],by simp [au],by simp⟩
 | x::xs=>by
  obtain ⟨f,h1,h2⟩:=au.Jj h xs;refine ⟨fpo fp x++f,?_,fun b hb=>?_⟩
  ·simp only [List.map_cons,au];exact ⟨_,_,fpo fp x,f,rfl,rfl,h.ev x,h1⟩
  ·rcases List.mem_append.1 hb with hb|hb
   ·obtain ⟨i,_,hi⟩:=gj h (xs:=[x]) (by simp) b hb;exact (h.iq hi).2
   ·exact h2 b hb
def fnA:AV->Option (FuncId×List AV)
 | .fn f caps=>some (f,caps)
 | .v (.func (.func f) first cap)=>if first.size=0/\cap.size=0 then some (f,[]) else none
 | _=>none
def rE{c:Call}{y:Operand}{xs:Array Operand}{ts:Array TypeId}{f:FuncId}{caps:List AV}{res:AV}(ho:o.op=.call c)(hc:c=⟨.value y,xs,ts⟩)(hy:fnA (ev s.t y)=some (f,caps))
  (hcn:AV.nownL caps=true) (hcall:ud L P s.o f (xs.toList.map (ev s.t)++caps) res):LOp L P s o res []:=by
 subst hc;intro B F0 w0 F own fp fs a w next Q h bF
 have hry:=h.ev y
 obtain ⟨cvs,hyv,hcr⟩:∃ cvs:List Value,a.eval y=.func (.func f) #[] cvs.toArray/\au L F w caps cvs []:=by
  generalize ev s.t y=z at hy hry;unfold fnA at hy;split at hy
  ·cases hy;simp only [Rep] at hry;obtain ⟨vs,e,hl⟩:=hry;rw [au.dX hcn hl] at hl;exact ⟨vs,e,hl⟩
  ·split at hy
   ·rename_i first cap hsz
    cases hy;simp only [Rep] at hry;have e1:first=#[]:=Array.eq_empty_of_size_eq_zero hsz.1
    have e2:cap=#[]:=Array.eq_empty_of_size_eq_zero hsz.2;exact ⟨[],by rw [hry.1,e1,e2],by simp [au]⟩
   ·cases hy
  ·cases hy
 obtain ⟨he,Yv⟩:=hcall
 have hex:(execOp a.eval o).run P w=.ok (.enter f (xs.toList.map a.eval++cvs).toArray) w:=by
  have:=uZ he (xs.toList.map a.eval++cvs).toArray w
  have e:xs.map a.eval++cvs.toArray=(xs.toList.map a.eval++cvs).toArray:=by apply Array.ext';simp
  rw [<- e] at this ⊢;simp only [execOp,ho,resolve,Sem.run_bind,hyv,Deferred.ofValue,Sem.run_pure,Result.andThen_ok,invoke,Array.empty_append];exact this
 unfold Oper.wp;rw [hex];have hl:∀ b,F b->b<w.heap.size:=fun b hb=>(h.fl b hb).2.1;obtain ⟨f',hargs,hf'⟩:=au.Jj h xs.toList;rcases Yv with ⟨hn,hp⟩|⟨args',hlow,hcl,hp⟩
 ·have hall:=au.join hargs hcr;rw [au.dX hn hall] at hall;refine (hp w F _ hl (h.tb.kp h.below h.hB) hall).mono ?_;rintro e w' ⟨v,F',fp',rfl,h1,h2,h3,h4,h5,h6⟩;refine bF v w' ⟨Kp.lC h1,F',fp',h2,fun b hb=>?_,h4,h5,fun b hb=>⟨(h6 b hb).1,.inr (h6 b hb).2⟩⟩;rcases h3 b hb with e|e
  ·exact .inl e
  ·exact .inr (.inl e)
 ·have hall:=F3 h hlow (au.join hargs hcr) (by simpa using hf');refine (hp w (fun b=>b<w.heap.size) _ (fun _ h=>h) (h.tb.kp h.below h.hB) hall).mono ?_;rintro e w' ⟨v,F',fp',rfl,h1,h2,h3,h4,h5,h6⟩;refine bF v w' ⟨Kp.lC h1,F,fp',fun _ h=>h,fun b hb=>.inl hb,Rep.closed hcl h4,h5,fun b hb=>⟨fun hF=>?_,.inr (h6 b hb).2⟩⟩;have:=hl b hF
  have:=(h6 b hb).2.1;omega
end
end
end Go.Ab
namespace Go.Ab
section ops
variable {L : Nat -> Nat} {P : Program} {s : AS} {o : Oper}
def ael(P:Program)(t:TypeId):Option (Nat×Nat) :=
 match P.underlying t with
 | some (.array n e)=>match P.info? e with
  | some i=>some (n,i.size)
  | none=>none
 | _=>none
def C8{t:TypeId}{m sz:Nat}(h:ael P t=some (m,sz)):∃ e i,P.underlying t=some (.array m e)/\P.info? e=some i/\i.size=sz:=by
 unfold ael at h;split at h
 ·rename_i n e he;split at h
  ·rename_i i hi;simp at h;obtain ⟨rfl,rfl⟩:=h;exact ⟨e,i,he,hi,rfl⟩
  ·cases h
 ·cases h
def yq{x i:Operand}{t:TypeId}{sz b off m:Nat}{k:IntKind}{n:Int}(ho:o.op=.indexAddr t x i)(hx:ev s.t x=.ptr b off)
  (hi:ev s.t i=.v (.int k n)) (ht:ael P t=some (m,sz)) (h0:0<=n) (hy:n<m):LOp L P s o (.ptr b (off+n.toNat * sz)) []:=by
 obtain ⟨e,inf,hu,dR,hsz⟩:=C8 ht;refine LOp.gL fun B F0 w0 F own fp fs a w h=>?_;have hr:=h.ev x;rw [hx] at hr;simp only [Rep] at hr;have hP:P.elem t=e:=by simp [Program.elem,hu]
 have hA:P.arrayLen t=m:=by simp [Program.arrayLen,hu]
 refine ⟨.pointer (some ⟨b,off+n.toNat * sz,none⟩),?_,by simp [Rep]⟩;simp only [execOp,ho,hr.1,h.val hi,Sem.run_bind,run_indexAt_array w t _ k n (by rw [hP,hA];exact hu)];rw [hA,if_pos ⟨h0,hy⟩];simp [hP,sizeOf,typeInfo,dR,hsz,fo]
def zj{x i:Operand}{t:TypeId}{sz m:Nat}{cells:List AV}{k:IntKind}{n:Int}(ho:o.op=.indexAddr t x i)(hx:ev s.t x=.vp cells)
  (hi:ev s.t i=.v (.int k n)) (ht:ael P t=some (m,sz)) (h0:0<=n) (hy:n<m):LOp L P s o (.vp (cells.drop (n.toNat * sz))) []:=by
 obtain ⟨e,inf,hu,dR,hsz⟩:=C8 ht;refine LOp.gL fun B F0 w0 F own fp fs' a w h=>?_;have hr:=h.ev x;rw [hx] at hr;simp only [Rep] at hr;obtain ⟨_,b,o',vals,hv,hb,hrow,hl⟩:=hr;have hP:P.elem t=e:=by simp [Program.elem,hu]
 have hA:P.arrayLen t=m:=by simp [Program.arrayLen,hu]
 refine ⟨.pointer (some ⟨b,o'+n.toNat * sz,none⟩),?_,?_⟩
 ·simp only [execOp,ho,hv,h.val hi,Sem.run_bind,run_indexAt_array w t _ k n (by rw [hP,hA];exact hu)];rw [hA,if_pos ⟨h0,hy⟩];simp [hP,sizeOf,typeInfo,dR,hsz,fo]
 ·simp only [Rep];refine ⟨trivial,b,_,vals.drop (n.toNat * sz),rfl,hb,?_,?_⟩
  ·have:=hrow.cut (n.toNat * sz) vals.length;rw [List.take_of_length_le (by simp)] at this;exact this
  ·obtain ⟨f',h1,h2⟩:=hl.cut (n.toNat * sz) (cells.length+vals.length);rw [List.take_of_length_le (by simp;omega),List.take_of_length_le (by simp;omega)] at h1;have:f'=[]:=List.eq_nil_iff_forall_not_mem.2 fun b hb=>by simpa using h2 b hb
   rw [this] at h1;exact h1
def KJ{t:TypeId}{parts:Array (Nat×Operand)}{m sz:Nat}{zs:List Value}(ho:o.op=.build t parts)(hp:parts.toList=[])(ht:ael P t=some (m,sz))(hz:zer P t=some zs):LOp L P s o (.agg (zs.map avz)) []:=by
 obtain ⟨e,inf,hu,dR,hsz⟩:=C8 ht;obtain ⟨z,hzc,hzr⟩:=xx hz;have hp':parts=#[]:=by apply Array.ext';simpa using hp
 subst hp';refine LOp.gL fun B F0 w0 F own fp fs a w h=>?_;refine ⟨.agg z.cells,?_,?_⟩
 ·simp [execOp,ho,Instr.build,hzr,run_underlying hu,sizeOf,typeInfo,dR,Instr.fill]
 ·simp only [Rep];exact ⟨zs,by rw [<- hzc],au.plain zs⟩
end ops
end Go.Ab
namespace Go.Ab
open Go.RowKit (Below)
def HM{P:Program}{w:World}{t u tyr e:TypeId}{i:TypeInfo}{x:Value}(ht:P.underlying t=some (.slice e))(hi:P.info? e=some i)(hs:Src P w i.size u x 0 []) :
  (Builtin.append_ #[t,u] tyr #[.slice none 0 0,x]).run P w=.ok (.slice none 0 0) w:=by
 have hf:=hs.first w rfl;rcases hs.ty with ⟨e',hu⟩|hu<;>simp [Builtin.append_,run_underlying ht,run_underlying hu,sizeOf,typeInfo,hi,hs.len,hf]
def pd(sz:Nat):AV->Option (List AV)
 | .sl _ z l=>bif z == sz then some l else none
 | .v (.slice none 0 0)=>some []
 | .str l=>bif sz == 1 then some (cX l) else none
 | _=>none
def oU{os:List (Nat×Option (List AV))}{sz:Nat}{x:AV}{l:List AV}(h:pd sz x=some l)(hel:∀ z,z∈l->z.elem sz=true):gM os sz x=some (l.length,l.flatMap AV.cells):=by
 cases x with
 | sl o z m =>
  simp only [pd] at h
  cases hz:(z == sz) with
  | false=>rw [hz] at h;cases h
  | true =>
   rw [hz] at h;cases h;have:(l.all (AV.elem sz))=true:=by simpa [List.all_eq_true] using hel
   simp [gM,hz,this]
 | v y =>
  unfold pd at h;split at h
  ·rename_i e;cases e
  ·cases h;simp_all [gM]
  ·rename_i e;cases e
  ·cases h
 | str m =>
  simp only [pd] at h
  cases hz:(sz == 1) with
  | false=>rw [hz] at h;cases h
  | true =>
   rw [hz] at h;cases h;simp only [gM,hz,cond_true,cX,List.length_map,Option.some.injEq,Prod.mk.injEq,true_and];clear hel hz
   induction m with
   | nil=>rfl
   | cons c m ih=>simp only [List.map_cons,List.flatMap_cons,<- ih];rfl
 | _=>simp [pd] at h
def eN{t:daa}{xs:List Operand}{i:Nat}:i∈kills t xs↔.tmp i∈xs/\(T t i).cW=false:=by
 constructor
 ·intro h
  induction xs with
  | nil=>simp [kills] at h
  | cons x xs ih =>
   cases x with
   | tmp j =>
    simp only [kills] at h
    cases hn:(T t j).cW with
    | true=>rw [hn] at h;have:=ih h;exact ⟨by simp [this.1],this.2⟩
    | false =>
     rw [hn] at h;rcases List.mem_cons.1 h with rfl|h
     ·exact ⟨by simp,hn⟩
     ·have:=ih h;exact ⟨by simp [this.1],this.2⟩
   | const _=>have:=ih h;exact ⟨by simp [this.1],this.2⟩
   | global _=>have:=ih h;exact ⟨by simp [this.1],this.2⟩
   | func _=>have:=ih h;exact ⟨by simp [this.1],this.2⟩
 ·rintro ⟨h1,h2⟩;exact Dy h1 h2
def db{sz:Nat}:∀ {l:List AV},(∀ z,z∈l->z.elem sz=true)->(l.flatMap AV.cells).length=l.length * sz
 | [],_=>by simp
 | x::xs,h=>by
  have h1:=h x (by simp)
  have h2:=db (l:=xs) fun z hz=>h z (by simp [hz])
  have h3:x.cells.length=sz:=by
   cases x<;>simp [AV.elem] at h1<;>simp [AV.cells,h1]
  rw [List.flatMap_cons,List.length_append,h2,h3,List.length_cons,Nat.add_mul];omega
def ES(P:Program)(e:TypeId):Option Nat:=(zer P e).map List.length
def Bb:Operand->Nat->Bool
 | .tmp j,i=>!(Nat.beq j i)
 | _,_=>true
def Dx{y:Operand}{i:Nat}(h:Bb y i=true):y≠.tmp i:=by intro e;subst e;simp [Bb] at h
def ER{P:Program}{e:TypeId}{sz:Nat}(h:ES P e=some sz):∃ zs,zer P e=some zs/\zs.length=sz:=by
 unfold ES at h
 cases hz:zer P e with
 | none=>rw [hz] at h;cases h
 | some zs=>rw [hz] at h;cases h;exact ⟨zs,rfl,rfl⟩
def apW(t:daa):Op->Bool
 | .call c=>match c.callee,c.args.toList with
  | .builtin .append,[.tmp i,_]=>match T t i with
   | .sl true _ _=>true
   | _=>false
  | _,_=>false
 | _=>false
section
variable {L : Nat -> Nat} {P : Program} {s : AS} {o : Oper}
def Cj{c:Call}{i:Nat}{y:Operand}{t u e:TypeId}{sz bytes:Nat}{l l':List AV}{zs:List Value}(ho:o.op=.call c)(hc:c=⟨.builtin .append,#[.tmp i,y],#[t,u]⟩)
  (hx:T s.t i=.sl true sz l) (hxy:y≠.tmp i) (ht:elm P t=some (e,sz,bytes)) (hz:zer P e=some zs) (hzl:zs.length=sz)
  (hu:(∃ e',P.underlying u=some (.slice e'))\/P.underlying u=some .string) (hsrc:pd sz (ev s.t y)=some l') (hel:∀ z,z∈l->z.elem sz=true) (jH:∀ z,z∈l'->z.elem sz=true) (hone:(l'.flatMap AV.cells).all AV.one=true)
  (hL:l.length+l'.length<=L sz) (hby:(l.length+l'.length) * bytes<=140737488355328) (h63:l.length+l'.length<=9223372036854775807):LOp L P s o (.sl true sz (l++l')) (kills s.t [.tmp i,y]):=by
 subst hc;obtain ⟨inf,hut,dR,rfl,rfl⟩:=gX ht;obtain ⟨KS,z,lh,hzz,Gv⟩:=sU hz;rw [dR] at lh;cases lh;intro B F0 w0 F own fp fs a w next Q h bF
 have hi:i∈kills s.t [.tmp i,y]:=eN.2 ⟨by simp,by rw [hx];rfl⟩
 have hsub:∀ j,j∈kills s.t [y]->j∈kills s.t [.tmp i,y]/\j≠i:=fun j hj=>by
  have:=eN.1 hj
  have h1:=this.1;simp only [List.mem_cons,List.not_mem_nil,or_false] at h1;exact ⟨eN.2 ⟨by simp [h1],this.2⟩,fun e=>hxy (by rw [<- h1,e])⟩
 obtain ⟨news,f,hS,hnl,hnr,hfn,hfk⟩:=vZ h (oU (os:=s.o) hsrc jH) hu;have hr:=h.slots i;rw [hx] at hr;simp only [Rep] at hr
 have hFS:∀ b,F b->F b/\b<w.heap.size:=fun b hb=>⟨hb,(h.fl b hb).2.1⟩
 have uP:∀ k,k∈f->k<w.heap.size/\¬ F k/\∃ j,j∈kills s.t [.tmp i,y]/\k∈fp j:=fun k hk=>by
  obtain ⟨j,hj,hkj⟩:=hfk k hk;exact ⟨(h.iq hkj).2,h.GL hkj,j,(hsub j hj).1,hkj⟩
 have hall:∀ z,z∈l++l'->z.elem inf.size=true:=fun z hz=>by
  rcases List.mem_append.1 hz with h|h
  ·exact hel z h
  ·exact jH z h
 have K9:(l++l').flatMap AV.cells=l.flatMap AV.cells++l'.flatMap AV.cells:=by simp
 have hlc:=db hel
 have V8:a.eval (.tmp i)=a.tmps.getD i undef:=rfl
 have Cz:z.cells.size=inf.size:=by rw [<- hzl,<- Gv];simp
 unfold Oper.wp;rcases hr with ⟨hv|⟨e1,_⟩,rfl,hf0⟩|⟨b,off,cap,vals,fp',hv,aee,hlL,hrow,hE,hown⟩
 ·rw [<- V8] at hv;simp only [List.nil_append,List.length_nil,Nat.zero_add] at hL hby h63 hall K9 ⊢;by_cases h0:l'.length=0
  ·have:l'=[]:=List.eq_nil_of_length_eq_zero h0;subst this;have:news=[]:=by simp only [List.flatMap_nil,au] at hnr;exact hnr.1
   subst this;have hrun:=HM (tyr:=o.type) hut dR hS
   have hex:(execOp a.eval o).run P w=.ok (.value (.slice none 0 0)) w:=by
    simp only [execOp,ho,resolve,invoke,builtin,Sem.run_bind,Sem.run_pure,Result.andThen_ok,List.map_toArray,List.map_cons,List.map_nil,hv,hrun]
   rw [hex];exact bF _ _ ⟨Kp.refl _ _,F,[],fun _ h=>h,fun _ h=>.inl h,by simp [Rep],by simp,by simp⟩
  ·have hrun:=J8 (tyr:=o.type) hut dR hzz hS (by omega) h63 hby
   have hex:(execOp a.eval o).run P w=.ok (.value (.slice (some ⟨w.heap.size,0,none⟩) l'.length (grownCap w l'.length 0 e)))
     (w.drew.alloc (.cells (news.toArray++Builtin.zeroCells z.cells (grownCap w l'.length 0 e - l'.length)) e)):=by
    simp only [execOp,ho,resolve,invoke,builtin,Sem.run_bind,Sem.run_pure,Result.andThen_ok,List.map_toArray,List.map_cons,List.map_nil,hv,hrun]
   rw [hex];have cE:=Ext.rT w (.cells (news.toArray++Builtin.zeroCells z.cells (grownCap w l'.length 0 e - l'.length)) e) []
   have hge:=grownCap_ge w l'.length 0 e;refine bF _ _ ⟨⟨rfl,rfl,rfl,cE.size,fun k hk=>cE.same k ⟨hk.1,by simp⟩,cE.shape⟩,F,w.heap.size::f,fun _ h=>h,fun _ h=>.inl h,?_,?_,?_⟩
   ·simp only [Rep];refine .inr ⟨w.heap.size,0,_,news,f,rfl,hge,hL,⟨_,_,_,fM w.drew _,fun j hj=>?_⟩,?_,.inl ⟨by trivial,rfl,rfl,_,_,fM w.drew _,?_⟩⟩
    ·rw [Nat.zero_add,<- Array.getElem?_toList];simp only [Array.toList_append,List.getElem?_append_left hj]
    ·exact au.oO hall (au.ext cE (fun b hb=>⟨hb,(hFS b hb).2,by simp⟩) (fun k hk=>⟨(uP k hk).1,by simp⟩) hnr)
    ·simp only [Array.size_append,List.size_toArray,size_zeroCells,Cz,hnl,Nat.zero_add];rw [<- Nat.add_mul];exact Nat.mul_le_mul_right _ (by omega)
   ·rw [List.nodup_cons];exact ⟨fun hm=>by have:=(uP _ hm).1;omega,hfn⟩
   ·intro k hk;rcases List.mem_cons.1 hk with rfl|hk
    ·exact ⟨fun hF=>by have:=(hFS _ hF).2;omega,.inr ⟨Nat.le_refl _,by simp⟩⟩
    ·exact ⟨(uP k hk).2.1,.inl (uP k hk).2.2⟩
 ·cases e1
 ·rcases hown with ⟨_,hfp,rfl,iD⟩|⟨e1,_⟩
  rotate_left
  ·cases e1
  rw [<- V8] at hv;have hbi:b∈fp i:=by rw [hfp];simp
  have hnd:=h.sn i;rw [hfp,List.nodup_cons] at hnd;have EC:∀ k,k∈fp'->k∈fp i:=fun k hk=>by rw [hfp];simp [hk]
  have hne:∀ k,k∈f->k ∉ fp i:=fun k hk hki=>by
   obtain ⟨j,hj,hkj⟩:=hfk k hk;have e1:=h.so i k hki;rw [h.so j k hkj] at e1;cases e1;exact (hsub i hj).2 rfl
  have hfb:b ∉ f:=fun hb=>hne b hb hbi
  have hrl:=bZ.flat hel hE
  have hvl:=hrl.len
  have V2:(fp'++f).Nodup:=by
   rw [List.nodup_append];exact ⟨hnd.2,hfn,fun k hk k' hk' e=>by subst e;exact hne k hk' (EC k hk)⟩
  have hbF:¬ F b:=h.GL hbi
  have hFb:∀ b',F b'->F b'/\(b'<w.heap.size/\b' ∉ [b]):=fun b' hb'=>⟨hb',(hFS b' hb').2,fun e=>by
   have:b'=b:=by simpa using e
   subst this;exact hbF hb'⟩
  have hS1:∀ k,k∈fp'->k<w.heap.size/\k ∉ [b]:=fun k hk=>⟨(h.iq (EC k hk)).2,fun e=>by
   have:k=b:=by simpa using e
   subst this;exact hnd.1 hk⟩
  have hS2:∀ k,k∈f->k<w.heap.size/\k ∉ [b]:=fun k hk=>⟨(uP k hk).1,fun e=>by
   have:k=b:=by simpa using e
   subst this;exact hfb hk⟩
  have hin:∀ k,k∈fp'++f->¬ F k/\∃ j,j∈kills s.t [.tmp i,y]/\k∈fp j:=fun k hk=>by
   rcases List.mem_append.1 hk with hk|hk
   ·exact ⟨h.GL (EC k hk),i,hi,EC k hk⟩
   ·exact ⟨(uP k hk).2.1,(uP k hk).2.2⟩
  have hkb:∀ k,Kept fp (kills s.t [.tmp i,y]) w k->k ∉ [b]:=fun k hk e=>by
   have e2:k=b:=by simpa using e
   subst e2;exact hk.2 ⟨i,hi,hbi⟩
  obtain ⟨cc,Ty,zz,hcc,hcl⟩:=hrow;obtain ⟨c',Ty',hc',hle⟩:=iD;rw [hcc] at hc';cases hc';rw [Nat.zero_add] at hle;have PO:vals.length=l.length * inf.size:=by rw [hvl,hlc]
  have htk:cc.toList.take (l.length * inf.size)=vals:=by
   rw [<- PO];apply List.ext_getElem?;intro j;by_cases hj:j<vals.length
   ·rw [List.getElem?_take_of_lt hj,Array.getElem?_toList];have:=hcl j hj
    rwa [Nat.zero_add] at this
   ·rw [List.getElem?_eq_none (by rw [List.length_take];omega),List.getElem?_eq_none (by omega)]
  by_cases hroom:l.length+l'.length<=cap
  ·have h2:l.length * inf.size+news.length<=cc.size:=by
    rw [hnl,<- Nat.add_mul];exact Nat.le_trans (Nat.mul_le_mul_right _ hroom) hle
   have hrun:=HL (tyr:=o.type) hut dR hS b l.length cap cc Ty hcc (hnr.ones hone) hroom h2
   have hex:(execOp a.eval o).run P w=.ok (.value (.slice (some ⟨b,0,none⟩) (l.length+l'.length) cap)) (w.setRow b (cc.toList.take (l.length * inf.size)++news++cc.toList.drop (l.length * inf.size+news.length)).toArray):=by
    simp only [execOp,ho,resolve,invoke,builtin,Sem.run_bind,Sem.run_pure,Result.andThen_ok,List.map_toArray,List.map_cons,List.map_nil,hv,hrun]
   rw [hex]
   have hsz:(cc.toList.take (l.length * inf.size)++news++cc.toList.drop (l.length * inf.size+news.length)).toArray.size=cc.size:=by
    have:cc.toList.length=cc.size:=by simp
    simp only [List.size_toArray,List.length_append,List.length_take,List.length_drop,this];omega
   have cE:=Ext.setRow w b _ cc Ty _ hcc hsz
   have hsame:=iX w b (cc.toList.take (l.length * inf.size)++news++cc.toList.drop (l.length * inf.size+news.length)).toArray cc Ty _ hcc;refine bF _ _ ⟨⟨rfl,rfl,rfl,cE.size,fun k hk=>cE.same k ⟨hk.1,hkb k hk⟩,cE.shape⟩,F,b::(fp'++f),fun _ h=>h,fun _ h=>.inl h,?_,?_,?_⟩
   ·simp only [Rep];refine .inr ⟨b,0,cap,vals++news,fp'++f,by rw [List.length_append],by rw [List.length_append];exact hroom,by rw [List.length_append];exact hL,⟨_,_,_,hsame,fun j hj=>?_⟩,?_,.inl ⟨by trivial,rfl,rfl,_,_,hsame,by rw [hsz,Nat.zero_add];exact hle⟩⟩
    ·rw [Nat.zero_add,<- Array.getElem?_toList,htk,List.getElem?_append_left hj]
    ·refine au.oO hall ?_;rw [K9];exact au.join (au.ext cE hFb hS1 hrl) (au.ext cE hFb hS2 hnr)
   ·rw [List.nodup_cons];exact ⟨fun hm=>by
     rcases List.mem_append.1 hm with hm|hm
     ·exact hnd.1 hm
     ·exact hfb hm,V2⟩
   ·intro k hk;rcases List.mem_cons.1 hk with rfl|hk
    ·exact ⟨hbF,.inl ⟨i,hi,hbi⟩⟩
    ·exact ⟨(hin k hk).1,.inl (hin k hk).2⟩
  ·have hrun:=HN (tyr:=o.type) hut dR hzz hS ⟨b,0,none⟩ l.length cap vals PO (fun j v hj=>by
    have hrow:fP w b 0 vals:=⟨cc,Ty,_,hcc,hcl⟩
    rw [fo];exact hrow.cell hj) (by omega) h63 hby
   have hex:(execOp a.eval o).run P w=.ok (.value (.slice (some ⟨w.heap.size,0,none⟩) (l.length+l'.length) (grownCap w (l.length+l'.length) cap e)))
     (w.drew.alloc (.cells (vals.toArray++news.toArray++Builtin.zeroCells z.cells (grownCap w (l.length+l'.length) cap e - (l.length+l'.length))) e)):=by
    simp only [execOp,ho,resolve,invoke,builtin,Sem.run_bind,Sem.run_pure,Result.andThen_ok,List.map_toArray,List.map_cons,List.map_nil,hv,hrun]
   rw [hex];have cE:=Ext.rT w (.cells (vals.toArray++news.toArray++Builtin.zeroCells z.cells (grownCap w (l.length+l'.length) cap e - (l.length+l'.length))) e) [b]
   have hge:=grownCap_ge w (l.length+l'.length) cap e;refine bF _ _ ⟨⟨rfl,rfl,rfl,cE.size,fun k hk=>cE.same k ⟨hk.1,hkb k hk⟩,cE.shape⟩,F,w.heap.size::(fp'++f),fun _ h=>h,fun _ h=>.inl h,?_,?_,?_⟩
   ·simp only [Rep];refine .inr ⟨w.heap.size,0,_,vals++news,fp'++f,by rw [List.length_append],by rw [List.length_append];exact hge,by rw [List.length_append];exact hL,⟨_,_,_,fM w.drew _,fun j hj=>?_⟩,?_,.inl ⟨by trivial,rfl,rfl,_,_,fM w.drew _,?_⟩⟩
    ·rw [Nat.zero_add,<- Array.getElem?_toList];simp only [Array.toList_append];rw [List.getElem?_append_left hj]
    ·refine au.oO hall ?_;rw [K9];exact au.join (au.ext cE hFb hS1 hrl) (au.ext cE hFb hS2 hnr)
    ·simp only [Array.size_append,List.size_toArray,size_zeroCells,Cz,PO,hnl,Nat.zero_add];rw [<- Nat.add_mul,<- Nat.add_mul];exact Nat.mul_le_mul_right _ (by omega)
   ·rw [List.nodup_cons];exact ⟨fun hm=>by
     rcases List.mem_append.1 hm with hm|hm
     ·have:=(hS1 _ hm).1;omega
     ·have:=(hS2 _ hm).1;omega,V2⟩
   ·intro k hk;rcases List.mem_cons.1 hk with rfl|hk
    ·exact ⟨fun hF=>by have:=(hFS _ hF).2;omega,.inr ⟨Nat.le_refl _,by simp⟩⟩
    ·exact ⟨(hin k hk).1,.inl (hin k hk).2⟩
end
end Go.Ab
