/- Part of a proof. -/
import Derived.Test.YtbiikafnjialjaaGreatDoorG27
set_option linter.all false
set_option maxRecDepth 20000
set_option maxHeartbeats 4000000
namespace Go.Ab
section
variable {L : Nat -> Nat} {P : Program} {ops : Array Oper} {n : Nat} {os : Sto} {K : AS -> Prop}
theorem aH.Bv{fuel:Nat}{listed:Array Bool}{t:List (Nat×AV)}(i:Nat){oi:Oper}{x:AV}(hi:ops[i]? = some oi)(hs:Region.noSelect ops=true)(hf:Region.free .any ops listed i=true)(hr:(Region.ready .any ops listed).contains i=true)
  (hg:oi.guard=none) (hd:cK n oi.dst=true)
  (hx:∀ B F0 w0 F own fp fs a w,cz L B F0 w0 F own fp fs ⟨n,t,os⟩ a w->∃ u,(∀ w':World,(execOp a.eval oi).run P w'=.ok (.value u) w')/\Rep L F w x u [])
  (h:aH L P ops fuel (listed.setIfInBounds i true) ⟨n,put t oi.dst x,os⟩ K):aH L P ops (fuel+1) listed ⟨n,t,os⟩ K:=by
 intro B F0 w0 a w R bY hR
 have hw:Region.wanted oi (yielded ops a.tmps)=true:=by simp [Region.wanted,hg]
 obtain ⟨F,own,fp,fs,hD⟩:=bY
 obtain ⟨u,he,fR⟩:=hx _ _ _ _ _ _ _ _ _ hD
 refine wpAny_take (v:=u) (a:=a) (w:=w) hi hs hf hr (fun c a w h=>by cases h.1) (.inl ⟨hw,he⟩) ?_
 refine h B F0 w0 _ w R ?_ hR
 have:=hD.put (x:=x) (v:=u) (fx:=[]) [] oi.dst hd (w':=w) (F':=F) (Kp.refl _ _) (fun _ h=>h) (fun b h=>.inl h) fR (by simp) (by simp)
 simpa [bQ] using this
def fxE(P:Program)(t:List (Nat×AV))(op:Op)(K:AV->Prop):Prop :=
 match op with
 | .move x=>(ev t x).cS=true/\K (ev t x)
 | .binOp bop _ x y _=>match ev t x,ev t y with
  | .v u,.v v=>match zK bop u v with
   | some z=>K (.v z)
   | none=>False
  | _,_=>False
 | .indexAddr ty x i=>match ev t x,ev t i,elm P ty with
  | .arr b off len sz,.v (.int _ m),some (_,sz',_)=>sz'=sz/\(0<=m/\m<len)/\K (.ptr b (off+m.toNat * sz))
  | .sl false sz l,.v (.int _ m),some (_,sz',_)=>sz'=sz/\qk true l m sz (K:=⟨fun y=>K (.vp y.cells)⟩)
  | _,_,_=>False
 | .fieldAddr xt x k=>match ev t x,fld P xt k with
  | .vp cells,some (off,_,m)=>Nat.blt 0 m=true/\K (.vp (cells.drop off))
  | .ptr b o',some (off,_,m)=>Nat.blt 0 m=true/\K (.ptr b (o'+off))
  | _,_=>False
 | .extract x k=>match ev t x with
  | .tup l=>match l[k]? with
   | some y=>y.cS=true/\K y
   | none=>False
  | _=>False
 | _=>False
theorem aH.fx{fuel:Nat}{listed:Array Bool}{t:List (Nat×AV)}(i:Nat){oi:Oper}(hi:ops[i]? = some oi)(hs:Region.noSelect ops=true)(hf:Region.free .any ops listed i=true)(hr:(Region.ready .any ops listed).contains i=true)(hg:oi.guard=none)(hd:cK n oi.dst=true)
  (h:fxE P t oi.op (fun x=>aH L P ops fuel (listed.setIfInBounds i true) ⟨n,put t oi.dst x,os⟩ K)):aH L P ops (fuel+1) listed ⟨n,t,os⟩ K:=by
 unfold fxE at h
 split at h
 ·rename_i x hop
  exact aH.mvN i hs hf hr (by rw [hi];simp only [hop];exact ⟨⟨hg,hd⟩,h⟩)
 ·rename_i bop ty x y ty' hop
  split at h
  ·rename_i u v hx hy
   split at h
   ·rename_i z hz
    refine aH.KK i hi hs hf hr hg hd (x:=.v z) (u:=z) (fun B F0 w0 F own fp fs a w hD w'=>?_) (fun F' w'=>by simp [Rep]) h
    simp only [execOp,hop,hD.val hx,hD.val hy]
    rw [Sem.run_bind,Ch hz]
    rfl
   ·exact h.elim
  ·exact h.elim
 ·rename_i ty x y hop
  split at h
  ·rename_i b off len sz k m e sz' by_ hx hy he
   obtain ⟨rfl,hm,h⟩:=h
   obtain ⟨inf,hu,eE,hsz,_⟩:=ia he
   refine aH.KK i hi hs hf hr hg hd (x:=.ptr b (off+m.toNat * sz')) (u:=.pointer (some ⟨b,off+m.toNat * sz',none⟩)) (fun B F0 w0 F own fp fs a w hD w'=>?_) (fun F' w'=>by simp [Rep]) h
   have hrp:=hD.ev x
   rw [hx] at hrp
   simp only [Rep] at hrp
   obtain ⟨_,cap,hv,_⟩:=hrp
   have hP:P.elem ty=e:=by simp [Program.elem,hu]
   simp only [execOp,hop,hv,hD.val hy,Sem.run_bind,run_indexAt_slice w' ty _ _ _ k m (iI hu)]
   rw [if_pos hm]
   simp [hP,sizeOf,typeInfo,eE,hsz,fI]
  ·rename_i sz l k m e sz' by_ hx hy he
   obtain ⟨rfl,z,hz,h⟩:=h
   obtain ⟨h0,hz1,hz2⟩:=hz rfl
   obtain ⟨inf,hu,eE,hsz,_⟩:=ia he
   refine aH.Bv i hi hs hf hr hg hd (x:=.vp z.cells) (fun B F0 w0 F own fp fs a w hD=>?_) h
   have hlt:m.toNat<l.length:=by
    rcases Nat.lt_or_ge m.toNat l.length with h|h
    ·exact h
    ·rw [List.getElem?_eq_none h] at hz1;cases hz1
   have hrp:=hD.ev x
   rw [hx] at hrp
   simp only [Rep] at hrp
   rcases hrp with ⟨_,rfl,_⟩|⟨b,off,cap,vals,fp',hv,_,_,hrow,hl,hF⟩
   ·simp at hlt
   ·rcases hF with ⟨hF,_⟩|⟨_,hF,rfl,_⟩
    ·cases hF
    ·obtain ⟨y',f,h1,h2,h3,h4⟩:=hl.get hz1
     have:f=[]:=List.eq_nil_iff_forall_not_mem.2 fun b hb=>by simpa using h4 b hb
     subst this
     have hP:P.elem ty=e:=by simp [Program.elem,hu]
     refine ⟨.pointer (some ⟨b,off+m.toNat * sz',none⟩),fun w'=>?_,?_⟩
     ·simp only [execOp,hop,hv,hD.val hy,Sem.run_bind,run_indexAt_slice w' ty _ _ _ k m (iI hu)]
      rw [if_pos ⟨h0,by omega⟩]
      simp [hP,sizeOf,typeInfo,eE,hsz,fI]
     ·simp only [Rep]
      refine ⟨trivial,b,_,y'.cells.toList,rfl,hF,?_,(mw hz2 h3).1⟩
      rw [<- h1];exact hrow.cut _ _
  ·exact h.elim
 ·rename_i xt x k hop
  split at h
  ·rename_i cells off g m hx hfl
   refine aH.Bv i hi hs hf hr hg hd (x:=.vp (cells.drop off)) (fun B F0 w0 F own fp fs a w hD=>?_) h.2
   obtain ⟨fs',f,hu,hk,ht,rfl⟩:=rv hfl
   have hn':¬ m=0:=by have:=h.1;simp at this;omega
   have hrp:=hD.ev x
   rw [hx] at hrp
   simp only [Rep] at hrp
   obtain ⟨_,b,o',vals,hv,hb,hrow,hl⟩:=hrp
   refine ⟨.pointer (some ⟨b,o'+f.offset,none⟩),fun w'=>?_,?_⟩
   ·obtain ⟨ha,hs⟩:=o6 ht w'
    simp [execOp,hop,hv,Instr.fieldAt,run_underlying hu,hk,Instr.sureAddr,fieldPlace,hs,hn',fI]
   ·simp only [Rep]
    refine ⟨trivial,b,_,vals.drop f.offset,rfl,hb,?_,?_⟩
    ·have:=hrow.cut f.offset vals.length
     rw [List.take_of_length_le (by simp)] at this
     exact this
    ·obtain ⟨f',h1,h2⟩:=hl.cut f.offset (cells.length+vals.length)
     rw [List.take_of_length_le (by simp;omega),List.take_of_length_le (by simp;omega)] at h1
     have:f'=[]:=List.eq_nil_iff_forall_not_mem.2 fun b hb=>by simpa using h2 b hb
     rw [this] at h1;exact h1
  ·rename_i b o' off g m hx hfl
   refine aH.Bv i hi hs hf hr hg hd (x:=.ptr b (o'+off)) (fun B F0 w0 F own fp fs a w hD=>?_) h.2
   obtain ⟨fs',f,hu,hk,ht,rfl⟩:=rv hfl
   have hn':¬ m=0:=by have:=h.1;simp at this;omega
   have hrp:=hD.ev x
   rw [hx] at hrp
   simp only [Rep] at hrp
   refine ⟨.pointer (some ⟨b,o'+f.offset,none⟩),fun w'=>?_,by simp [Rep]⟩
   obtain ⟨ha,hs⟩:=o6 ht w'
   simp [execOp,hop,hrp.1,Instr.fieldAt,run_underlying hu,hk,Instr.sureAddr,fieldPlace,hs,hn',fI]
  ·exact h.elim
 ·rename_i x k hop
  split at h
  ·rename_i l hx
   split at h
   ·rename_i y hy
    refine aH.Bv i hi hs hf hr hg hd (x:=y) (fun B F0 w0 F own fp fs a w hD=>?_) h.2
    have hrp:=hD.ev x
    rw [hx] at hrp
    simp only [Rep] at hrp
    obtain ⟨vs,hv,hl⟩:=hrp
    obtain ⟨u,f,h1,h2,_⟩:=hl.get hy
    exact ⟨u,fun w'=>by simp [execOp,hop,hv,Instr.extract,h1],by rw [Rep.dL h.1 h2] at h2;exact h2⟩
   ·exact h.elim
  ·exact h.elim
 ·exact h.elim
def KA(ops:Array Oper):Array Bool->List Nat->Bool
 | _,[]=>true
 | l,i::is=>Region.free .any ops l i && ((Region.ready .any ops l).contains i && KA ops (l.setIfInBounds i true) is)
def Jp:Array Bool->List Nat->Array Bool
 | l,[]=>l
 | l,i::is=>Jp (l.setIfInBounds i true) is
def stL(P:Program)(ops:Array Oper)(n:Nat)(K:List (Nat×AV)->Prop):List Nat->List (Nat×AV)->Prop
 | [],t=>K t
 | i::is,t=>match ops[i]? with
  | some oi=>(oi.guard=none/\cK n oi.dst=true)/\fxE P t oi.op (fun x=>stL P ops n K is (put t oi.dst x))
  | none=>False
theorem aH.fxs{fuel:Nat}(hs:Region.noSelect ops=true):∀ (is:List Nat) {listed:Array Bool} {t:List (Nat×AV)},KA ops listed is=true->stL P ops n (fun t=>aH L P ops fuel (Jp listed is) ⟨n,t,os⟩ K) is t->aH L P ops (fuel+is.length) listed ⟨n,t,os⟩ K
 | [],listed,t,_,h=>h
 | i::is,listed,t,hc,h=>by
  simp only [KA,Bool.and_eq_true] at hc
  simp only [stL] at h
  split at h
  ·rename_i oi hi
   obtain ⟨⟨hg,hd⟩,h⟩:=h
   refine aH.fx (fuel:=fuel+is.length) i hi hs hc.1 hc.2.1 hg hd ?_
   have key:∀ t',stL P ops n (fun t=>aH L P ops fuel (Jp (listed.setIfInBounds i true) is) ⟨n,t,os⟩ K) is t'->aH L P ops (fuel+is.length) (listed.setIfInBounds i true) ⟨n,t',os⟩ K:=fun t' h'=>aH.fxs hs is hc.2.2 h'
   revert h
   unfold fxE
   split
   ·exact fun h=>⟨h.1,key _ h.2⟩
   ·split
    ·split
     ·exact key _
     ·exact id
    ·exact id
   ·split
    ·exact fun h=>⟨h.1,h.2.1,key _ h.2.2⟩
    ·rintro ⟨h1,z,h2,h3⟩
     exact ⟨h1,z,h2,key _ h3⟩
    ·exact id
   ·split
    ·exact fun h=>⟨h.1,key _ h.2⟩
    ·exact fun h=>⟨h.1,key _ h.2⟩
    ·exact id
   ·split
    ·split
     ·exact fun h=>⟨h.1,key _ h.2⟩
     ·exact id
    ·exact id
   ·exact id
  ·exact h.elim
attribute [go_sem] fxE stL
end
end Go.Ab
