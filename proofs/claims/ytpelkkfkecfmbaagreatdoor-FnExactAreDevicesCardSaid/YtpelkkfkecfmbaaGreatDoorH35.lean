/- Part of a proof. -/
import Derived.Test.YtpelkkfkecfmbaaGreatDoorH34
set_option linter.all false
set_option maxRecDepth 20000
set_option maxHeartbeats 4000000
open Go.Proofs.Tryz
namespace Go.Ab
section
section
variable {L : Nat -> Nat} {P : Program} {ops : Array Oper} {n : Nat} {os : Sto} {K : AS -> Prop}
def aK.Ag{fuel:Nat}{listed:Array Bool}{t:daa}(i:Nat){oi:Oper}{x:AV}(hi:ops[i]? = some oi)(hs:Region.noSelect ops=true)(hf:Region.free .any ops listed i=true)(hr:(Region.ready .any ops listed).contains i=true)
  (hg:oi.guard=none) (hd:cz n oi.dst=true)
  (hx:∀ B F0 w0 F own fp fs a w,cv L B F0 w0 F own fp fs ⟨n,t,os⟩ a w->∃ u,(∀ w':World,(execOp a.eval oi).run P w'=.ok (.value u) w')/\Rep L F w x u [])
  (h:aK L P ops fuel (listed.setIfInBounds i true) ⟨n,put t oi.dst x,os⟩ K):aK L P ops (fuel+1) listed ⟨n,t,os⟩ K:=by
 intro B F0 w0 a w R cr hR;have hw:Region.wanted oi (yielded ops a.tmps)=true:=by simp [Region.wanted,hg]
 obtain ⟨F,own,fp,fs,hD⟩:=cr;obtain ⟨u,he,gF⟩:=hx _ _ _ _ _ _ _ _ _ hD;refine wpAny_take (v:=u) (a:=a) (w:=w) hi hs hf hr (fun c a w h=>by cases h.1) (.inl ⟨hw,he⟩) ?_;refine h B F0 w0 _ w R ?_ hR;have:=hD.put (x:=x) (v:=u) (fx:=[]) [] oi.dst hd (w':=w) (F':=F) (Kp.refl _ _) (fun _ h=>h) (fun b h=>.inl h) gF QC QC;simpa [killL] using this
def fxE(P:Program)(t:daa)(op:Op)(K:AV->Prop):Prop :=
 match op with
 | .move x=>(ev t x).cW=true/\K (ev t x)
 | .binOp bop _ x y _=>match ev t x,ev t y with
  | .v u,.v v=>match C0 bop u v with
   | some z=>K (.v z)
   | none=>False
  | _,_=>False
 | .indexAddr ty x i=>match ev t x,ev t i,elm P ty with
  | .arr b off len sz,.v (.int _ m),some (_,sz',_)=>sz'=sz/\(0<=m/\m<len)/\K (.ptr b (off+m.toNat * sz))
  | .sl false sz l,.v (.int _ m),some (_,sz',_)=>sz'=sz/\idxVc true l m sz (K:=⟨fun y=>K (.vp y.cells)⟩)
  | _,_,_=>False
 | .fieldAddr xt x k=>match ev t x,fld P xt k with
  | .vp cells,some (off,_,m)=>Nat.blt 0 m=true/\K (.vp (cells.drop off))
  | .ptr b o',some (off,_,m)=>Nat.blt 0 m=true/\K (.ptr b (o'+off))
  | _,_=>False
 | .extract x k=>match ev t x with
  | .tup l=>match l[k]? with
   | some y=>y.cW=true/\K y
   | none=>False
  | _=>False
 | _=>False
def aK.fx{fuel:Nat}{listed:Array Bool}{t:daa}(i:Nat){oi:Oper}(hi:ops[i]? = some oi)(hs:Region.noSelect ops=true)(hf:Region.free .any ops listed i=true)(hr:(Region.ready .any ops listed).contains i=true)(hg:oi.guard=none)(hd:cz n oi.dst=true)
  (h:fxE P t oi.op (fun x=>aK L P ops fuel (listed.setIfInBounds i true) ⟨n,put t oi.dst x,os⟩ K)):aK L P ops (fuel+1) listed ⟨n,t,os⟩ K:=by
 unfold fxE at h;split at h
 ·rename_i x hop;exact aK.mvN i hs hf hr (by rw [hi];simp only [hop];exact ⟨⟨hg,hd⟩,h⟩)
 ·rename_i bop ty x y ty' hop;split at h
  ·rename_i u v hx hy;split at h
   ·rename_i z hz;refine aK.QQ i hi hs hf hr hg hd (x:=.v z) (u:=z) (fun B F0 w0 F own fp fs a w hD w'=>?_) (fun F' w'=>by simp [Rep]) h;simp only [execOp,hop,hD.val hx,hD.val hy];rw [Sem.run_bind,Fw hz];rfl
   ·exact h.elim
  ·exact h.elim
 ·rename_i ty x y hop;split at h
  ·rename_i b off len sz k m e sz' by_ hx hy he;obtain ⟨rfl,hm,h⟩:=h;obtain ⟨inf,hu,dR,hsz,_⟩:=gX he;refine aK.QQ i hi hs hf hr hg hd (x:=.ptr b (off+m.toNat * sz')) (u:=.pointer (some ⟨b,off+m.toNat * sz',none⟩)) (fun B F0 w0 F own fp fs a w hD w'=>?_) (fun F' w'=>by simp [Rep]) h;have hrp:=hD.ev x;rw [hx] at hrp;simp only [Rep] at hrp;obtain ⟨_,cap,hv,_⟩:=hrp;have hP:P.elem ty=e:=by simp [Program.elem,hu]
   simp only [execOp,hop,hv,hD.val hy,Sem.run_bind,run_indexAt_slice w' ty _ _ _ k m (gY hu)];rw [if_pos hm];simp [hP,sizeOf,typeInfo,dR,hsz,fo]
  ·rename_i sz l k m e sz' by_ hx hy he;obtain ⟨rfl,z,hz,h⟩:=h;obtain ⟨h0,hz1,hz2⟩:=hz rfl;obtain ⟨inf,hu,dR,hsz,_⟩:=gX he;refine aK.Ag i hi hs hf hr hg hd (x:=.vp z.cells) (fun B F0 w0 F own fp fs a w hD=>?_) h
   have hlt:m.toNat<l.length:=by
    rcases Nat.lt_or_ge m.toNat l.length with h|h
    ·exact h
    ·rw [List.getElem?_eq_none h] at hz1;cases hz1
   have hrp:=hD.ev x;rw [hx] at hrp;simp only [Rep] at hrp;rcases hrp with ⟨_,rfl,_⟩|⟨b,off,cap,vals,fp',hv,_,_,hrow,hl,hF⟩
   ·simp at hlt
   ·rcases hF with ⟨hF,_⟩|⟨_,hF,rfl,_⟩
    ·cases hF
    ·obtain ⟨y',f,h1,h2,h3,h4⟩:=hl.get hz1;have:f=[]:=List.eq_nil_iff_forall_not_mem.2 fun b hb=>by simpa using h4 b hb
     subst this;have hP:P.elem ty=e:=by simp [Program.elem,hu]
     refine ⟨.pointer (some ⟨b,off+m.toNat * sz',none⟩),fun w'=>?_,?_⟩
     ·simp only [execOp,hop,hv,hD.val hy,Sem.run_bind,run_indexAt_slice w' ty _ _ _ k m (gY hu)];rw [if_pos ⟨h0,Ir⟩];simp [hP,sizeOf,typeInfo,dR,hsz,fo]
     ·simp only [Rep];refine ⟨trivial,b,_,y'.cells.toList,rfl,hF,?_,(ny hz2 h3).1⟩;rw [<- h1];exact hrow.cut _ _
  ·exact h.elim
 ·rename_i xt x k hop;split at h
  ·rename_i cells off g m hx hfl;refine aK.Ag i hi hs hf hr hg hd (x:=.vp (cells.drop off)) (fun B F0 w0 F own fp fs a w hD=>?_) h.2;obtain ⟨fs',f,hu,hk,ht,rfl⟩:=tL hfl;have hn':¬ m=0:=by have:=h.1;simp at this;omega
   have hrp:=hD.ev x;rw [hx] at hrp;simp only [Rep] at hrp;obtain ⟨_,b,o',vals,hv,hb,hrow,hl⟩:=hrp;refine ⟨.pointer (some ⟨b,o'+f.offset,none⟩),fun w'=>?_,?_⟩
   ·obtain ⟨ha,hs⟩:=qw ht w';simp [execOp,hop,hv,Instr.fieldAt,run_underlying hu,hk,Instr.sureAddr,fieldPlace,hs,hn',fo]
   ·simp only [Rep];refine ⟨trivial,b,_,vals.drop f.offset,rfl,hb,?_,?_⟩
    ·have:=hrow.cut f.offset vals.length;rw [List.take_of_length_le QC] at this;exact this
    ·obtain ⟨f',h1,h2⟩:=hl.cut f.offset (cells.length+vals.length);rw [List.take_of_length_le (by simp;omega),List.take_of_length_le (by simp;omega)] at h1;have:f'=[]:=List.eq_nil_iff_forall_not_mem.2 fun b hb=>by simpa using h2 b hb
     rw [this] at h1;exact h1
  ·rename_i b o' off g m hx hfl;refine aK.Ag i hi hs hf hr hg hd (x:=.ptr b (o'+off)) (fun B F0 w0 F own fp fs a w hD=>?_) h.2;obtain ⟨fs',f,hu,hk,ht,rfl⟩:=tL hfl;have hn':¬ m=0:=by have:=h.1;simp at this;omega
   have hrp:=hD.ev x;rw [hx] at hrp;simp only [Rep] at hrp;refine ⟨.pointer (some ⟨b,o'+f.offset,none⟩),fun w'=>?_,by simp [Rep]⟩;obtain ⟨ha,hs⟩:=qw ht w';simp [execOp,hop,hrp.1,Instr.fieldAt,run_underlying hu,hk,Instr.sureAddr,fieldPlace,hs,hn',fo]
  ·exact h.elim
 ·rename_i x k hop;split at h
  ·rename_i l hx;split at h
   ·rename_i y hy;refine aK.Ag i hi hs hf hr hg hd (x:=y) (fun B F0 w0 F own fp fs a w hD=>?_) h.2;have hrp:=hD.ev x;rw [hx] at hrp;simp only [Rep] at hrp;obtain ⟨vs,hv,hl⟩:=hrp;obtain ⟨u,f,h1,h2,_⟩:=hl.get hy;exact ⟨u,fun w'=>by simp [execOp,hop,hv,Instr.extract,h1],by rw [Rep.dX h.1 h2] at h2;exact h2⟩
   ·exact h.elim
  ·exact h.elim
 ·exact h.elim
def fB(ops:Array Oper):Array Bool->List Nat->Bool
 | _,[]=>true
 | l,i::is=>Region.free .any ops l i && ((Region.ready .any ops l).contains i && fB ops (l.setIfInBounds i true) is)
def OU:Array Bool->List Nat->Array Bool
 | l,[]=>l
 | l,i::is=>OU (l.setIfInBounds i true) is
def stL(P:Program)(ops:Array Oper)(n:Nat)(K:daa->Prop):List Nat->daa->Prop
 | [],t=>K t
 | i::is,t=>match ops[i]? with
  | some oi=>(oi.guard=none/\cz n oi.dst=true)/\fxE P t oi.op (fun x=>stL P ops n K is (put t oi.dst x))
  | none=>False
def aK.fxs{fuel:Nat}(hs:Region.noSelect ops=true):∀ (is:List Nat) {listed:Array Bool} {t:daa},fB ops listed is=true->stL P ops n (fun t=>aK L P ops fuel (OU listed is) ⟨n,t,os⟩ K) is t->aK L P ops (fuel+is.length) listed ⟨n,t,os⟩ K
 | [],listed,t,_,h=>h
 | i::is,listed,t,hc,h=>by
  simp only [fB,Bool.and_eq_true] at hc;simp only [stL] at h;split at h
  ·rename_i oi hi;obtain ⟨⟨hg,hd⟩,h⟩:=h;refine aK.fx (fuel:=fuel+is.length) i hi hs hc.1 hc.2.1 hg hd ?_;have key:∀ t',stL P ops n (fun t=>aK L P ops fuel (OU (listed.setIfInBounds i true) is) ⟨n,t,os⟩ K) is t'->aK L P ops (fuel+is.length) (listed.setIfInBounds i true) ⟨n,t',os⟩ K:=fun t' h'=>aK.fxs hs is hc.2.2 h';revert h;unfold fxE;split
   ·exact fun h=>⟨h.1,key _ h.2⟩
   ·split
    ·split
     ·exact key _
     ·exact id
    ·exact id
   ·split
    ·exact fun h=>⟨h.1,h.2.1,key _ h.2.2⟩
    ·rintro ⟨h1,z,h2,h3⟩;exact ⟨h1,z,h2,key _ h3⟩
    ·exact id
   ·split
    ·exact fun h=>⟨h.1,key _ h.2⟩
    ·exact fun h=>⟨h.1,key _ h.2⟩
    ·exact id
   ·split
    ·split
     ·exact fun h=>⟨h.1,key _ h.2⟩
     ·exact id
    ·exact id
   ·exact id
  ·exact h.elim
attribute [go_sem] fxE stL
end
end
section
section
variable {L : Nat -> Nat} {P : Program} {ops : Array Oper} {n : Nat} {os : Sto} {K : AS -> Prop}
def aK.slA{fuel:Nat}{listed:Array Bool}{t:daa}(i:Nat){oi:Oper}{ty e:TypeId}{x:Operand}{b off len sz bytes:Nat}(d:Nat)(m:Int)(hi:ops[i]? = some oi)(hop:oi.op=.slice ty x (some (.const (.int .i64 m))) none none)(hs:Region.noSelect ops=true)(hf:Region.free .any ops listed i=true)(hr:(Region.ready .any ops listed).contains i=true)
  (hg:oi.guard=none) (hdd:oi.dst=some d) (hd:cz n oi.dst=true) (he:elm P ty=some (e,sz,bytes)) (hx:ev t x=.arr b off len sz) (h0:0<=m) (h1:m<len)
  (h:aK L P ops fuel (listed.setIfInBounds i true) ⟨n,put t (some d) (.arr b (off+m.toNat * sz) (len - m.toNat) sz),os⟩ K):aK L P ops (fuel+1) listed ⟨n,t,os⟩ K:=by
 refine aK.Ag i hi hs hf hr hg hd (fun B F0 w0 F own fp fs a w hD=>?_) (by rw [hdd];exact h);obtain ⟨inf,hut,dR,rfl,rfl⟩:=gX he;have hrp:=hD.ev x;simp only at hrp;rw [hx] at hrp;simp only [Rep] at hrp;obtain ⟨_,cap,hv,hlc,hlL,iD⟩:=hrp;have hP:P.elem ty=e:=by simp [Program.elem,hut]
 have hsz:∀ w',(sizeOf (P.elem ty)).run P w'=.ok inf.size w':=fun w'=>by rw [hP];simp [sizeOf,typeInfo,dR]
 have hc:¬ cap=m.toNat:=by omega
 refine ⟨sliced (some ⟨b,off,none⟩) m.toNat len cap inf.size,fun w'=>?_,?_⟩
 ·simp only [execOp,hop,hv,Sem.run_bind,Option.map_none,Option.map_some];rw [run_sliceAt_slice w' ty _ _ _ _ (gY hut),run_slice_any w' ty _ _ _ (gY hut)];have h2:m<=(len:Int):=by omega
  simp [Instr.sliceBounds,Instr.sliceBound,Act.eval,asIntOf,h0,h2,hsz]
 ·simp only [Rep];refine ⟨trivial,cap - m.toNat,?_,Ir,Ir,?_⟩
  ·simp only [sliced,if_neg hc,Option.map_some,fo]
  ·obtain ⟨c,T,hc',abg⟩:=iD;refine ⟨c,T,hc',?_⟩
   have:m.toNat * inf.size+(cap - m.toNat) * inf.size=cap * inf.size:=by
    rw [<- Nat.add_mul];congr 1;omega
   omega
end
end
end Go.Ab
namespace Go.Dt
open Go Go.Ab
def JH{s:List ae}{ns:List Str}{k:Nat}{c:ae}(hk:k+1<ns.length)(h:fd1 s (at_ ns k)=some c):dM s (ns.drop k)=dM c.af (ns.drop (k+1)):=by rw [bq (show k<ns.length by omega),bq hk,GQ h]
def DL{s:List ae}{ns:List Str}{k:Nat}(hk:k<ns.length)(h:¬ k+1<ns.length):dM s (ns.drop k)=fd1 s (at_ ns k):=by rw [bq hk,List.drop_eq_nil_of_le Ir,GR]
def Tw{s:List ae}{ns:List Str}{k:Nat}(hk:k<ns.length)(h:fd1 s (at_ ns k)=none):dM s (ns.drop k)=none:=by rw [bq hk,GS h]
end Go.Dt
namespace Go.Proofs
open Go.Ab Go.Dt
attribute [local go_sem] aM aC dr dq jY iB jh jU tf Nat.add_zero qJ
theorem rz(ns:List Str)(n:ae):∀ (m:Nat) (b k:Nat) (s:List ae),Ctr lim prog 180 [(b,some (ns.map AV.str))] [.sl false 19 (s.map (aq false)),.arr b k m 1] (.tup [.agg (jU n),.ac true]) [some (ns.map AV.str)] (k+m=ns.length/\dM s (ns.drop k)=some n/\aH s<=1048576/\ns.length<=1048576)
 | 0,b,k,s=>⟨(aU 180),fun h=>by
  have:=h.2.1
  rw [List.drop_eq_nil_of_le Ir] at this;simp [dM] at this⟩
 | m+1,b,k,s=>by
  have ih:=rz ns n m;refine Ctr.bd func180 ntmps180 fun hp=>?_;have gOn:=aD.on;obtain ⟨hk,hi,hc,hn⟩:=hp;have h1:=fun h=>qk (s:=s) (n:=at_ ns k) h
  have h2:=eO (p:=nmP (at_ ns k)) (dk s)
  have hk1:k<ns.length:=by omega
  (refine vK1 ?_;intro h h)
  rename_i c;have nb:=h;refine AW.c (fun h=>?_) fun h=>?_
  ·omega
  clear h;refine vK1 ?_;refine AW.c (fun h=>?_) fun h=>?_
  ·exact absurd ((Tw hk1 (NP h)).symm.trans hi) QC
  have h3:=h1 h
  have h4:=CN h
  have h5:=h;refine vK1 ?_;refine AW.c (fun h=>?_) fun h=>?_
  ·rw [DL hk1 Ir,h4] at hi;cases hi
   all_goals exact uU
  ·have h6:=(JH Ir h4).symm.trans hi;refine vN1 ?_
   repeat refine Y ?_
   refine AW.nT [(4,.ptr c 0),(5,.ac true)] [(c,some (jU n)),(b,some (ns.map AV.str))] (fQ.h (P:=prog)) (fun K hK=>?_) ?_
   ·refine aK.fxs (fuel:=7) LQ [0,1,2,3,5] LQ ?_;refine gS ?_;refine aK.slA (fuel:=6) (i:=6) (d:=37) (m:=1) (e:=9) (bytes:=16) rfl rfl LQ LQ LQ rfl rfl rfl (sz:=1) LQ rfl Ir Ir ?_;simp (maxSteps:=2000000) (disch:=omega) only [go_sem,show Int.toNat 1=1 from rfl,Nat.add_sub_cancel];refine aK.sp 5 [4] (gT ?_);refine vN1 ?_;refine aK.sp 4 [7] (gT ?_);refine vN1 ?_;refine aK.fxs (fuel:=2) LQ [8,9] LQ ?_;refine gS ?_;refine aK.sp 1 [10] (gT ?_);refine vN1 ?_;refine aK.sp 0 [11] (gT ?_);refine vN1 ?_;refine aK.jw [4,5] [(c,some (jU n)),(b,some (ns.map AV.str))] LQ gO ?_;refine gS ?_;exact hK
   all_goals exact uU
theorem ur(ns:List Str):∀ (m:Nat) (b k:Nat) (s:List ae),Ctr lim prog 180 [(b,some (ns.map AV.str))] [.sl false 19 (s.map (aq false)),.arr b k m 1] (.tup [.agg jh,.ac false]) [some (ns.map AV.str)] (k+m=ns.length/\dM s (ns.drop k)=none/\aH s<=1048576/\ns.length<=1048576)
 | 0,b,k,s=>by
  refine Ctr.bd func180 ntmps180 fun hp=>?_;have gOn:=aD.on
  (refine vK1 ?_;intro h h)
  refine AW.c (fun h=>?_) fun h=>?_
  ·all_goals exact uU
  ·exact absurd rfl h
 | m+1,b,k,s=>by
  have ih:=ur ns m;refine Ctr.bd func180 ntmps180 fun hp=>?_;have gOn:=aD.on;obtain ⟨hk,hi,hc,hn⟩:=hp;have h1:=fun h=>qk (s:=s) (n:=at_ ns k) h
  have h2:=eO (p:=nmP (at_ ns k)) (dk s)
  have hk1:k<ns.length:=by omega
  (refine vK1 ?_;intro h h)
  rename_i c;have nb:=h;refine AW.c (fun h=>?_) fun h=>?_
  ·omega
  clear h;refine vK1 ?_;refine AW.c (fun h=>?_) fun h=>?_
  ·all_goals exact uU
  have h3:=h1 h
  have h4:=CN h
  have h5:=h;refine vK1 ?_;refine AW.c (fun h=>?_) fun h=>?_
  ·rw [DL hk1 Ir,h4] at hi;cases hi
  ·have h6:=(JH Ir h4).symm.trans hi;refine vN1 ?_
   repeat refine Y ?_
   refine AW.nT [(4,.ptr c 0),(5,.ac false)] [(c,some jh),(b,some (ns.map AV.str))] (fQ.h (P:=prog)) (fun K hK=>?_) ?_
   ·refine aK.fxs (fuel:=7) LQ [0,1,2,3,5] LQ ?_;refine gS ?_;refine aK.slA (fuel:=6) (i:=6) (d:=37) (m:=1) (e:=9) (bytes:=16) rfl rfl LQ LQ LQ rfl rfl rfl (sz:=1) LQ rfl Ir Ir ?_;simp (maxSteps:=2000000) (disch:=omega) only [go_sem,show Int.toNat 1=1 from rfl,Nat.add_sub_cancel];refine aK.sp 5 [4] (gT ?_);refine vN1 ?_;refine aK.sp 4 [7] (gT ?_);refine vN1 ?_;refine aK.fxs (fuel:=2) LQ [8,9] LQ ?_;refine gS ?_;refine aK.sp 1 [10] (gT ?_);refine vN1 ?_;refine aK.sp 0 [11] (gT ?_);refine vN1 ?_;refine aK.jw [4,5] [(c,some jh),(b,some (ns.map AV.str))] LQ gO ?_;refine gS ?_;exact hK
   all_goals exact uU
end Go.Proofs
namespace Go.Dt
open Go Go.Ab
section
def MS(s:Str):∀ n,nmT s n<=n
 | 0=>by simp [nmT]
 | n+1=>by
  rw [nmT];split
  ·have:=MS s n;omega
  ·omega
def QO{α:Type}(p:α->Bool)(s:List α)(h:0<s.length):1+((s.drop 1).takeWhile p).length<=s.length:=by have h1:((s.drop 1).takeWhile p).length<=(s.drop 1).length:=(List.takeWhile_sublist p).length_le;rw [List.length_drop] at h1;omega
def xL:∀ x∈mk2,x.length=2:=by decide
def BQ{s:Str}(h:0<s.length):(dJ s).2.2<=s.length/\(dJ s).2.1.length<=s.length:=by
 unfold dJ;split
 ·have h1:nmN s<=s.length:=Nat.le_trans (MS _ _) (QO nmU s h);exact ⟨h1,by simp only [List.length_take];omega⟩
 ·split
  ·have h1:dgN s<=s.length:=QO dgU s h;exact ⟨h1,by simp only [List.length_take];omega⟩
  ·split
   ·split
    ·rename_i p hp;have:=xI hp;exact ⟨this.2.1,this.2.2⟩
    ·simp
   ·split
    ·rename_i hc;have hm:s.take 2∈mk2:=by simpa using hc
     have:=xL _ hm;rw [List.length_take] at this;refine ⟨by simp only;omega,by simp only [List.length_take];omega⟩
    ·split
     ·refine ⟨by simp only;omega,by simp only [List.length_take];omega⟩
     ·simp
def xM{s:Str}:∀ (n i:Nat),s.length - i<=n->i<=s.length->(gr s i).1.length+i<=s.length/\∀ x∈(gr s i).1,x.t.length<=s.length
 | n,i,hn,h=>by
  rw [gr];split
  ·rename_i hlt
   match n,hn with
   | 0,hn=>omega
   | n+1,hn =>
   split
   ·have:=xM (s:=s) n (i+1) Ir Ir;exact ⟨Ir,this.2⟩
   ·split
    ·rename_i h35;have hc:cmE (s.drop i)<=(s.drop i).length:=(List.takeWhile_sublist _).length_le
     have hg:=tU hlt h35;rw [List.length_drop] at hc;have:=xM (s:=s) n (i+cmE (s.drop i)) Ir Ir;exact ⟨Ir,this.2⟩
    ·split
     ·simp;omega
     ·rename_i h0;have ht:=BQ (s:=s.drop i) (by rw [List.length_drop];omega);rw [List.length_drop] at ht;have ih:=xM (s:=s) n (i+(dJ (s.drop i)).2.2) Ir Ir;split
      ·simp only [List.length_cons];refine ⟨Ir,fun x hx=>?_⟩;rcases List.mem_cons.1 hx with e|hx
       ·rw [e];simp only;omega
       ·exact ih.2 x hx
      ·simp;omega
  ·simp;omega
def Jq(s:Str):(eI s).1.length<=s.length/\∀ x∈(eI s).1,x.t.length<=s.length:=by have:=xM (s:=s) s.length 0 Ir (Nat.zero_le _);exact ⟨by rw [eI];omega,this.2⟩
end
section
def mK{s:Str}{k:Nat}(c:UInt8):at_ s k=c↔at8 s k=(c.toNat:Int):=by
 rw [gZ];constructor
 ·intro h;rw [h]
 ·intro h;exact UInt8.toNat_inj.1 Ir
def BF(l:Str)(s:Str)(k:Nat):cX l++[.v (.int .u8 (at8 s k))]=cX (l++[at_ s k]):=by simp [cX,gZ]
def qAt(s:Str)(i:Nat)(out:Str):Option (Nat×Str):=(qGo (s.drop i)).map fun p=>(p.1+i,out++p.2)
def AE{s:Str}{i:Nat}{out:Str}(h:i<s.length)(e:at8 s i=34):qAt s i out=some (i+1,out):=by have h1:at_ s i=34:=(mK 34).2 e;rw [qAt,bq h,qGo.eq_def];simp [h1,Nat.add_comm]
def KA{s:Str}{i:Nat}{out:Str}(h:i+1<s.length)(e:at8 s i=92)(e2:at8 s (i+1:Nat)=34\/at8 s (i+1:Nat)=92):qAt s i out=qAt s (i+2) (out++[at_ s (i+1)]):=by
 have h1:at_ s i=92:=(mK 92).2 e
 have h2:at_ s (i+1)=34\/at_ s (i+1)=92:=e2.imp (mK 34).2 (mK 92).2;rw [qAt,bq (show i<s.length by omega),bq h,qGo.eq_def];simp only [h1,if_pos h2,show ¬ (92:UInt8)=34 by decide,if_false,if_true,Option.map_map,qAt]
 congr 1;funext p;simp;omega
def Eu{s:Str}{i:Nat}{out:Str}(h:i<s.length)(e:at8 s i=92)(e2:i+1<s.length->¬ (at8 s (i+1:Nat)=34\/at8 s (i+1:Nat)=92)):qAt s i out=none:=by
 have h1:at_ s i=92:=(mK 92).2 e;rw [qAt,bq h,qGo.eq_def];simp only [h1,show ¬ (92:UInt8)=34 by decide,if_false,if_true];by_cases hl:i+1<s.length
 ·have h2:¬ (at_ s (i+1)=34\/at_ s (i+1)=92):=fun hh=>e2 hl (hh.imp (mK 34).1 (mK 92).1);rw [bq hl];simp only [if_neg h2,Option.map_none]
 ·rw [List.drop_eq_nil_of_le Ir];rfl
def Ev{s:Str}{i:Nat}{out:Str}(h:i<s.length)(e:¬ at8 s i=34)(e2:¬ at8 s i=92):qAt s i out=qAt s (i+1) (out++[at_ s i]):=by
 have h1:¬ at_ s i=34:=fun hh=>e ((mK 34).1 hh)
 have h2:¬ at_ s i=92:=fun hh=>e2 ((mK 92).1 hh);rw [qAt,bq h,qGo.eq_def];simp only [if_neg h1,if_neg h2,Option.map_map,qAt]
 congr 1;funext p;simp;omega
def AB{s:Str}{i:Nat}{out:Str}(h:¬ i<s.length):qAt s i out=none:=by rw [qAt,List.drop_eq_nil_of_le Ir,qGo];rfl
def qE(s:Str):Nat×Str:=match jF s with|some p=>p|none=>(0,[])
def X0{s:Str}(h:s.length=0\/¬ at8 s 0=34):qE s=(0,[]):=by
 unfold qE
 cases s with
 | nil=>rfl
 | cons c r =>
  have:¬ c=34:=fun e=>by
   rcases h with h|h
   ·simp at h
   ·exact h (by rw [e];rfl)
  rw [jF,if_neg this]
def Ew{s:Str}(h:0<s.length)(e:at8 s 0=34):jF s=qAt s 1 []:=by
 cases s with
 | nil=>simp at h
 | cons c r =>
  have:c=34:=(mK (s:=c::r) (k:=0) 34).2 e;rw [jF,if_pos this,qAt];try simp
def R1{s:Str}{p:Nat×Str}(h:0<s.length)(e:at8 s 0=34)(hq:qAt s 1 []=some p):qE s=p:=by rw [qE,Ew h e,hq]
def BV{s:Str}(h:0<s.length)(e:at8 s 0=34)(hq:qAt s 1 []=none):qE s=(0,[]):=by rw [qE,Ew h e,hq]
def j5(s:Str)(i:Nat):Int:=match qAt s (i+1) [] with|some p=>(p.1:Int)|none=>-1
def FZ{s:Str}{n:Nat}(h:¬ at8 s n=45):nmT s (n+1)=n+1:=by rw [nmT,if_neg h]
def MT{s:Str}{n:Nat}(h:at8 s n=45):nmT s (n+1)=nmT s n:=by rw [nmT,if_pos h]
def Hj{s:Str}{j:Nat}(h:j<s.length)(hn:gG (at8 s j)=true):((s.drop j).takeWhile dgU).length=1+((s.drop (j+1)).takeWhile dgU).length:=by have:dgU (at_ s j)=true:=hn;rw [bq h,List.takeWhile_cons_of_pos this,List.length_cons];omega
def Ra{s:Str}{j:Nat}(h:j<s.length->gG (at8 s j)=false):((s.drop j).takeWhile dgU).length=0:=by
 by_cases hj:j<s.length
 ·have:¬ dgU (at_ s j)=true:=by have:=h hj;unfold dgU;rw [gZ] at this;rw [this];simp
  rw [bq hj,List.takeWhile_cons_of_neg this];rfl
 ·rw [List.drop_eq_nil_of_le Ir];rfl
def LX{s:Str}{j:Nat}(h:j<s.length->nmI (at8 s j)=false):((s.drop j).takeWhile nmU).length=0:=by rw [XC h];rfl
def Oe{s:Str}{j:Nat}(h:j<s.length)(e:¬ at8 s j=10):cmE (s.drop j)=1+cmE (s.drop (j+1)):=by
 have:(fun c:UInt8=>c != 10) (at_ s j)=true:=by
  simp only [bne_iff_ne,ne_eq];exact fun hh=>e ((mK 10).1 hh)
 rw [cmE,bq h,List.takeWhile_cons_of_pos (p:=fun c=>c != 10) this,List.length_cons,cmE];omega
def Rh{s:Str}{j:Nat}(h:j<s.length->at8 s j=10):cmE (s.drop j)=0:=by
 by_cases hj:j<s.length
 ·have:¬ (fun c:UInt8=>c != 10) (at_ s j)=true:=by simp [(mK 10).2 (h hj)]
  rw [cmE,bq hj,List.takeWhile_cons_of_neg (p:=fun c=>c != 10) this];rfl
 ·rw [cmE,List.drop_eq_nil_of_le Ir];rfl
def mkA(s:Str):Str:=if mk2.contains (s.take 2)=true then s.take 2 else if mk1.contains (at_ s 0)=true then s.take 1 else []
def IB{s:Str}(h0:0<s.length)(h1:ltI (at8 s 0)=false)(h2:gG (at8 s 0)=false)(h3:¬ at8 s 0=34):dJ s=if mkA s=[] then (0,[],0) else (4,mkA s,(mkA s).length):=by
 have e0:s.take 1≠[]:=by cases s<;>simp at h0 ⊢
 rw [dJ,if_neg (by simp [h1]),if_neg (by simp [h2]),if_neg h3,mkA];split
 ·rename_i hc;have hl:=xL _ (show s.take 2∈mk2 by simpa using hc);rw [if_neg (by intro e;rw [e] at hl;simp at hl),hl]
 ·split
  ·first|rw [if_neg e0,List.length_take,show min 1 s.length=1 by omega]|rw [List.length_take,show min 1 s.length=1 by omega]
  ·simp
def jl(s:Str)(i:Nat)(acc:List bt):List bt×Int:=if (gr s i).2 = -1 then (acc++(gr s i).1,-1) else ([],(gr s i).2)
def zn(s:Str)(i:Nat):(gr s i).2 = -1\/(gr s i).1=[]:=by
 rw [gr];split
 ·split
  ·exact zn s (i+1)
  ·split
   ·rename_i h h1 h35;have:=tU h h35;exact zn s (i+cmE (s.drop i))
   ·split
    ·exact .inr rfl
    ·split
     ·exact .inl rfl
     ·exact .inr rfl
 ·exact .inl rfl
termination_by s.length - i
def Gf(s:Str):jl s 0 []=eI s:=by
 unfold jl eI;rcases zn s 0 with h|h
 ·rw [if_pos h,List.nil_append,<- h]
 ·by_cases h1:(gr s 0).2 = -1
  ·rw [if_pos h1,List.nil_append,<- h1]
  ·rw [if_neg h1,<- h]
def Cm{s:Str}{i:Nat}{acc:List bt}(h:i<s.length)(e:at8 s i=32\/at8 s i=10):jl s i acc=jl s (i+1) acc:=by
 have:gr s i=gr s (i+1):=by rw [gr,dif_pos h,if_pos e]
 rw [jl,jl,this]
def Jr{s:Str}{i:Nat}{acc:List bt}(h:i<s.length)(e:at8 s i=35):jl s i acc=jl s (i+cmE (s.drop i)) acc:=by
 have:gr s i=gr s (i+cmE (s.drop i)):=by rw [gr,dif_pos h,if_neg Ir,dif_pos e]
 rw [jl,jl,this]
def zo{s:Str}{i:Nat}{acc:List bt}(h:i<s.length)(e:¬ (at8 s i=32\/at8 s i=10))(e2:¬ at8 s i=35)(h0:(dJ (s.drop i)).2.2=0):jl s i acc=([],(i:Int)):=by
 have:gr s i=([],(i:Int)):=by rw [gr,dif_pos h,if_neg e,dif_neg e2,dif_pos h0]
 rw [jl,this,if_neg (by simp only;omega)]
def Pu{s:Str}{i:Nat}{acc:List bt}(h:i<s.length)(e:¬ (at8 s i=32\/at8 s i=10))(e2:¬ at8 s i=35)(h0:¬ (dJ (s.drop i)).2.2=0):jl s i acc=jl s (i+(dJ (s.drop i)).2.2) (acc++[⟨(dJ (s.drop i)).1,(dJ (s.drop i)).2.1,i⟩]):=by
 rw [jl,gr,dif_pos h,if_neg e,dif_neg e2,dif_neg h0,jl];split
 ·rename_i h1;simp
 ·rfl
def Gg{s:Str}{i:Nat}{acc:List bt}(h:¬ i<s.length):jl s i acc=(acc,-1):=by
 have:gr s i=([],-1):=by rw [gr,dif_neg h]
 rw [jl,this];simp
end
section
def rR{s:Str}{i:Nat}{p:Nat×Str}(h:qAt s (i+1) []=some p):j5 s i=p.1:=by rw [j5,h]
def xa{s:Str}{i:Nat}(h:qAt s (i+1) []=none):j5 s i = -1:=by rw [j5,h]
def RZ{s:Str}{p:Nat×Str}(h:jF s=some p):at8 s 0=34:=by
 cases s with
 | nil=>simp [jF] at h
 | cons c r =>
  rw [jF] at h;split at h
  ·rename_i e;rw [e];rfl
  ·cases h
def Vb{s:Str}{k:Nat}{l:Str}{r:Nat×Str}(h:qAt s k l=some r)(hk:k<s.length)(e:at8 s k=92):k+1<s.length/\(at8 s (k+1:Nat)=34\/at8 s (k+1:Nat)=92):=by
 by_cases h1:k+1<s.length/\(at8 s (k+1:Nat)=34\/at8 s (k+1:Nat)=92)
 ·exact h1
 ·rw [Eu hk e (fun h2 h3=>h1 ⟨h2,h3⟩)] at h;cases h
def XZ{s:Str}{k:Nat}{l t:Str}(h:qAt s k l=some (s.length,t))(hk:k+1<s.length):¬ at8 s k=34:=by intro e;rw [AE Ir e] at h;simp only [Option.some.injEq,Prod.mk.injEq] at h;omega
def RY{s:Str}{k:Nat}{l t:Str}(h:qAt s k l=some (s.length,t))(hk:¬ k+1<s.length):l=t:=by
 by_cases h1:k<s.length
 ·by_cases e:at8 s k=34
  ·rw [AE h1 e] at h;simp only [Option.some.injEq,Prod.mk.injEq] at h;exact h.2
  ·by_cases e2:at8 s k=92
   ·rw [Eu h1 e2 Ir] at h;cases h
   ·rw [Ev h1 e e2,AB hk] at h;cases h
 ·rw [AB h1] at h;cases h
def I4{s:Str}{k i:Nat}{l:Str}(h:qAt s k l=qAt s i []){n:Nat}{t:Str}(e:qAt s k l=some (n,t)):qAt s i []=some (n,t):=by rw [<- h,e]
end
end Go.Dt
namespace Go.Proofs
open Go.Ab Go.Dt
instance VR(s:Str):Ctr lim prog 334 [] [.str s] (.tup [.aa ((qE s).1:Nat),.str (qE s).2]) [] (s.length<=1048576):=by
 refine Ctr.bd func334 ntmps334 fun hp=>?_;have gOn:=aD.on
 (refine vU3 ?_ ?_ ?_<;>with_reducible repeat intro h)
 ·exact List.length_pos_iff.2 yG
 ·rw [X0 (h.imp (fun e=>by rw [e];rfl) id)];try rfl
 have hs0:0<s.length:=List.length_pos_iff.2 h.1
 have h34:=h.2;refine AW.aw [4,5] [0] (fun m xs o=>∃ (k:Nat) (l:Str),xs=[.sl true 1 (cX l),.aa k]/\o=[]/\m=s.length - k/\1<=k/\k<=s.length/\l.length<=k/\qAt s k l=qAt s 1 []) (s.length - 1) [] trivial ⟨1,[],rfl,rfl,rfl,Nat.le_refl _,hs0,QC,rfl⟩ ?_;rintro m xs o ⟨k,l,rfl,rfl,rfl,hk1,hk,hl,hR⟩
 (refine vU5 ?_ ?_ ?_ ?_ ?_<;>with_reducible repeat intro h)
 ·rw [R1 hs0 h34 (I4 hR (AE yG h))]
 ·rw [BV hs0 h34 (by rw [<- hR,Eu yG yG Ir])];try rfl
 ·exact ⟨_,[_,_],[],Ir,⟨k+2,l++[at_ s (k+1)],rfl,rfl,rfl,Ir,Ir,by simp;omega,by rw [<- hR,<- KA Ir yG Ir]⟩,by rw [BF];try rfl,trivial⟩
 ·exact ⟨_,[_,_],[],Ir,⟨k+1,l++[at_ s k],rfl,rfl,rfl,Ir,Ir,by simp;omega,by rw [<- hR,<- Ev yG yG yG]⟩,by rw [BF];try rfl,trivial⟩
 ·rw [BV hs0 h34 (by rw [<- hR,AB h])];try rfl
instance OY(s:Str)(i:Nat):Ctr lim prog 300 [] [.str s,.aa i] (.aa (j5 s i)) [] (i<s.length/\s.length<=1048576):=by
 refine Ctr.bd func300 ntmps300 fun hp=>?_;have gOn:=aD.on;refine vU1 ?_;refine AW.aw [5] [0] (fun m xs o=>∃ (k:Nat) (l:Str),xs=[.aa k]/\o=[]/\m=s.length - k/\k<=s.length/\qAt s k l=qAt s (i+1) []) (s.length - (i+1)) [] trivial ⟨i+1,[],rfl,rfl,rfl,Ir,rfl⟩ ?_;rintro m xs o ⟨k,l,rfl,rfl,rfl,hk,hR⟩
 (refine vU5 ?_ ?_ ?_ ?_ ?_<;>with_reducible repeat intro h)
 ·rw [rR (I4 hR (AE yG h))]
 ·rw [xa (by rw [<- hR,Eu yG h.1 Ir])]
 ·exact ⟨_,[_],[],Ir,⟨k+2,l++[at_ s (k+1)],rfl,rfl,rfl,Ir,by rw [<- hR,<- KA Ir yG Ir]⟩,rfl,trivial⟩
 ·exact ⟨_,[_],[],Ir,⟨k+1,l++[at_ s k],rfl,rfl,rfl,Ir,by rw [<- hR,<- Ev yG yG yG]⟩,rfl,trivial⟩
 ·rw [xa (by rw [<- hR,AB h])]
instance aad(s:Str):Ctr lim prog 300 [] [.str s,.aa 0] (.aa (j5 s 0)) [] (0<s.length/\s.length<=1048576):=OY s 0
theorem Kv(s t:Str):Ctr lim prog 301 [] [.str s] (.tup [.str t,.ac true]) [] (jF s=some (s.length,t)/\s.length<=1048576):=by
 refine Ctr.bd func301 ntmps301 fun hp=>?_;have gOn:=aD.on;obtain ⟨hp,hs⟩:=hp;have h2:=xI hp;simp only at h2;have h34:=RZ hp
 have hq:qAt s 1 []=some (s.length,t):=by rw [<- Ew Ir h34,hp]
 have he:j5 s 0=s.length:=rR hq
 (refine vU1 ?_;intro h)
 refine AW.aw [4,5] [0] (fun m xs o=>∃ (k:Nat) (l:Str),xs=[.sl true 1 (cX l),.aa k]/\o=[]/\m=s.length - k/\1<=k/\k<=s.length/\l.length<=k/\qAt s k l=some (s.length,t)) (s.length - 1) [] trivial ⟨1,[],rfl,rfl,rfl,Nat.le_refl _,Ir,QC,hq⟩ ?_;rintro m xs o ⟨k,l,rfl,rfl,rfl,hk1,hk,hl,hR⟩
 (refine vU3 ?_ ?_ ?_<;>with_reducible repeat intro h)
 ·obtain ⟨e1,e2⟩:=Vb hR Ir h;exact ⟨_,[_,_],[],Ir,⟨k+2,l++[at_ s (k+1)],rfl,rfl,rfl,Ir,Ir,by simp;omega,by rw [<- hR,<- KA e1 h e2]⟩,by rw [BF];try rfl,trivial⟩
 ·exact ⟨_,[_,_],[],Ir,⟨k+1,l++[at_ s k],rfl,rfl,rfl,Ir,Ir,by simp;omega,by rw [<- hR,<- Ev Ir (XZ hR Ir) h]⟩,by rw [BF];try rfl,trivial⟩
 ·rw [RY hR Ir]
instance XQ(s:Str):Ctr lim prog 301 [] [.str s] (.tup [.str (qE s).2,.ac true]) [] (jF s=some (s.length,(qE s).2)/\s.length<=1048576):=Kv s _
end Go.Proofs
