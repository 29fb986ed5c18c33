/- A part. -/
import Derived.Test.YtmcjbaafmjlblaaGreatDoorJ31
import Derived.Test.YtmcjbaafmjlblaaGreatDoorJ32
set_option linter.all false
set_option maxRecDepth 20000
set_option maxHeartbeats 4000000
namespace Go.Ab
open Go.RowKit (Below)
section
def FB(L:Nat->Nat)(P:Program)(f:FuncId)(args:List AV)(res:AV):Prop :=
 ∀ (w:World) (F:Nat->Prop) (vs:List Value) (fp:List Nat),(∀ b,F b->b<w.heap.size)->aq L F w args vs fp->fp.Nodup->(∀ b,b∈fp->b<w.heap.size/\¬ F b) ->
  Calls P f vs.toArray w fun e w'=>∃ v F' fp',e=.returned v/\Kp (fun b=>b<w.heap.size/\b ∉ fp) w w'/\(∀ b,F b->F' b)/\(∀ b,F' b->F b\/(w.heap.size<=b/\b<w'.heap.size)) /\
   Rep L F' w' res v fp'/\fp'.Nodup/\∀ b,b∈fp'->¬ F' b/\(b∈fp\/(w.heap.size<=b/\b<w'.heap.size))
section
variable {L : Nat -> Nat} {P : Program}
theorem KV{B F0:Nat->Prop}{w0:World}{F:Nat->Prop}{own:Nat->Own}{fp fs:Nat->List Nat}{s:AS}{a:Act}{w:World}(h:cD L B F0 w0 F own fp fs s a w) :
  ∀ xs:List Operand,(kills s.t xs).Nodup->∃ f,aq L F w (xs.map (ev s.t)) (xs.map a.eval) f/\f.Nodup/\∀ b,b∈f->∃ i,i∈kills s.t xs/\b∈fp i
 | [],_=>⟨[],by simp [aq],by simp,by simp⟩
 | x::xs,hn=>by
  have hsub:(kills s.t xs).Nodup/\(∀ i,x=.tmp i->(T s.t i).df=false->i ∉ kills s.t xs)/\∀ i,i∈kills s.t xs->i∈kills s.t (x::xs):=by
   cases x with
   | tmp i =>
    simp only [kills] at hn ⊢
    cases ho:(T s.t i).df with
    | true=>rw [ho] at hn;exact ⟨hn,fun j e hj=>(by cases e;rw [ho] at hj;cases hj),fun i hi=>hi⟩
    | false =>
     rw [ho] at hn
     have:=List.nodup_cons.1 hn
     exact ⟨this.2,fun j e _=>(by cases e;exact this.1),fun i hi=>(by simp [hi])⟩
   | const _=>exact ⟨hn,fun j e=>(by cases e),fun i hi=>hi⟩
   | global _=>exact ⟨hn,fun j e=>(by cases e),fun i hi=>hi⟩
   | func _=>exact ⟨hn,fun j e=>(by cases e),fun i hi=>hi⟩
  obtain ⟨f,h1,h2,h3⟩:=KV h xs hsub.1
  refine ⟨fpo fp x++f,?_,?_,fun b hb=>?_⟩
  ·simp only [List.map_cons,aq]
   exact ⟨_,_,fpo fp x,f,rfl,rfl,h.ev x,h1⟩
  ·rw [List.nodup_append]
   refine ⟨lp h x,h2,fun b hb b' hb' e=>?_⟩
   subst e
   obtain ⟨j,hj,hbj⟩:=h3 b hb'
   cases x with
   | tmp i =>
    simp only [fpo] at hb
    cases ho:(T s.t i).df with
    | true=>rw [Rep.dP ho (h.slots i)] at hb;simp at hb
    | false =>
     have e1:=h.so i b hb
     rw [h.so j b hbj] at e1
     exact hsub.2.1 i rfl ho (by cases e1;exact hj)
   | const _=>simp [fpo] at hb
   | global _=>simp [fpo] at hb
   | func _=>simp [fpo] at hb
  ·rcases List.mem_append.1 hb with hb|hb
   ·exact fV h (xs:=x::xs) (by simp) b hb
   ·obtain ⟨i,hi,hbi⟩:=h3 b hb
    exact ⟨i,hsub.2.2 i hi,hbi⟩
theorem Pk{s:AS}{o:Oper}{y:Operand}{xs:Array Operand}{ts:Array TypeId}{f:FuncId}{res:AV}(ho:o.op=.call ⟨.value y,xs,ts⟩)(hy:fnA (ev s.t y)=some (f,[]))(he:enters P f=true)
  (hn:(kills s.t xs.toList).Nodup) (hC:FB L P f (xs.toList.map (ev s.t)) res):LOp L P s o res (kills s.t xs.toList):=by
 intro B F0 w0 F own fp fs a w next Q h bI
 obtain ⟨cvs,hcr,hex⟩:=mS (P:=P) h ho hy rfl he
 have hcv:cvs=[]:=by simp only [aq] at hcr;exact hcr.1
 subst hcv
 rw [List.append_nil] at hex
 unfold Oper.wp
 rw [hex]
 obtain ⟨g,h1,h2,h3⟩:=KV h xs.toList hn
 refine (hC w F _ g (fun b hb=>(h.fl b hb).2.1) h1 h2 fun b hb=>?_).mono ?_
 ·obtain ⟨i,_,hi⟩:=h3 b hb
  exact ⟨(h.ig hi).2,h.AY hi⟩
 rintro e w' ⟨v,F',fp',rfl,k1,k2,k3,k4,k5,k6⟩
 refine bI v w' ⟨k1.mono fun b hb=>⟨hb.1,fun hm=>hb.2 (h3 b hm)⟩,F',fp',k2,fun b hb=>(k3 b hb).imp id .inl,k4,k5,fun b hb=>⟨(k6 b hb).1,(k6 b hb).2.imp (h3 b) id⟩⟩
theorem bP.con{ops:Array Oper}{n fuel:Nat}{listed:Array Bool}{t:List (Nat×AV)}{os:Sto}{K:AS->Prop}(i:Nat)(hr:Region.ready .any ops listed=[i]){o:Oper}(ho:ops[i]? = some o)(hg:o.guard=none)(hd:cN n o.dst=true)
  {y:Operand} {xs:Array Operand} {ts:Array TypeId} {f:FuncId} {res:AV} (hop:o.op=.call ⟨.value y,xs,ts⟩) (hy:fnA (ev t y)=some (f,[])) (he:enters P f=true) (hn:(kills t xs.toList).Nodup)
  (hC:FB L P f (xs.toList.map (ev t)) res) (h:bP L P ops fuel (listed.setIfInBounds i true) ⟨n,put (bW t (kills t xs.toList)) o.dst res,os⟩ K):bP L P ops (fuel+1) listed ⟨n,t,os⟩ K:=by
 intro B F0 w0 a w R cw hR
 refine wpAny_all hr (by simp) fun j hj=>?_
 rw [List.mem_singleton] at hj
 subst hj
 unfold wpOp
 simp only [ho]
 have hw:Region.wanted o (yielded ops a.tmps)=true:=by simp [Region.wanted,hg]
 rw [if_pos hw]
 refine .inl ((Pk (s:=⟨n,t,os⟩) hop hy he hn hC).opW hd (K:=fun s'=>s'=⟨n,put (bW t (kills t xs.toList)) o.dst res,os⟩) rfl B F0 w0 a w _ _ cw fun s' a' w' hs hd'=>?_)
 subst hs
 exact h B F0 w0 a' w' R hd' hR
theorem bP.o6{ops:Array Oper}{n fuel:Nat}{listed:Array Bool}{t:List (Nat×AV)}{os:Sto}{K:AS->Prop}(i:Nat)(hr:Region.ready .any ops listed=[i])
  (h:match ops[i]? with
   | some o=>(o.guard=none/\cN n o.dst=true)/\(match o.op with
    | .call c=>match c.callee,c.args.toList with
     | .value y,xs=>match fnA (ev t y) with
      | some (f,[])=>(kills t xs).Nodup/\enters P f=true/\∃ res,FB L P f (xs.map (ev t)) res/\bP L P ops fuel (listed.setIfInBounds i true) ⟨n,put (bW t (kills t xs)) o.dst res,os⟩ K
      | _=>False
     | _,_=>False
    | _=>False)
   | none=>False):bP L P ops (fuel+1) listed ⟨n,t,os⟩ K:=by
 split at h
 ·rename_i o ho
  obtain ⟨⟨hg,hd⟩,h⟩:=h
  split at h
  ·rename_i c hop
   obtain ⟨callee,args,ts⟩:=c
   cases callee with
   | value y =>
    simp only at h
    split at h
    ·rename_i f hy
     obtain ⟨hn,he,res,hC,h⟩:=h
     exact bP.con i hr ho hg hd hop hy he hn hC h
    ·exact h.elim
   | _=>exact h.elim
  ·exact h.elim
 ·exact h.elim
theorem Je.con{f:FuncId}{sz bytes i:Nat}{l:List AV}{x:AV}(hf:Je P f sz bytes)(hel:∀ y,y∈l->y.elem sz=true)(hone:(l.flatMap AV.cells).all AV.one=true)(hxe:x.elem sz=true)(hxo:x.cells.all AV.one=true)
  (hi:i<=l.length) (oZ:(l.length+1) * bytes<=140737488355328) (hL:l.length+1<=L sz):FB L P f [.sl true sz l,.v (.int .i64 i),.sl true sz [x]] (.sl true sz (l.take i++(x::l.drop i))):=by
 intro w F vs fp hF hr hnd hfp
 simp only [aq] at hr
 obtain ⟨y1,_,f1,_,rfl,rfl,r1,y2,_,f2,_,rfl,rfl,r2,y3,_,f3,_,rfl,rfl,r3,rfl,rfl⟩:=hr
 simp only [Rep] at r2
 obtain ⟨rfl,rfl⟩:=r2
 simp only [List.nil_append,List.append_nil] at hnd hfp ⊢
 simp only [Rep] at r3
 rcases r3 with ⟨_,e,_⟩|⟨vb,ZJ,R8,xv,g3,rfl,hc3,_,TV,hE3,TY⟩
 ·cases e
 rcases TY with ⟨_,rfl,rfl,cx,Tx,hcx,RQ⟩|⟨e,_⟩
 rotate_left
 ·cases e
 rw [Nat.zero_add] at RQ
 have WD:∀ y,y∈[x]->y.elem sz=true:=fun y hy=>by rw [List.mem_singleton.1 hy];exact hxe
 have hXL:=bT.flat WD hE3
 simp only [List.flatMap_cons,List.flatMap_nil,List.append_nil] at hXL
 have ZK:xv.length=1 * sz:=by rw [hE3.len];rfl
 have Iu:cx.toList.take (1 * sz)=xv:=by
  obtain ⟨c0,T0,z0,h0,h1⟩:=TV
  rw [hcx] at h0;cases h0
  apply List.ext_getElem?
  intro j
  by_cases hj:j<xv.length
  ·rw [List.getElem?_take_of_lt (by omega),Array.getElem?_toList]
   have:=h1 j hj
   rwa [Nat.zero_add] at this
  ·rw [List.getElem?_eq_none (by rw [List.length_take];omega),List.getElem?_eq_none (by omega)]
 have hxs:1 * sz<=cx.size:=Nat.le_trans (Nat.mul_le_mul_right _ hc3) RQ
 have hx1:∀ (k:Nat) (v:Value),k<1 * sz->cx[k]? = some v->v.oneCell'=true:=fun k v hk hv=>by
  refine hXL.ones hxo v (List.mem_of_getElem? (i:=k) ?_)
  rw [<- Iu,List.getElem?_take_of_lt hk,Array.getElem?_toList];exact hv
 have hvw:vb<w.heap.size:=(hfp vb (by simp)).1
 have fin:∀ (b:Option Nat) (os:List Value) (g:List Nat) (e:Ending) (w':World),aq L F w (l.flatMap AV.cells) os g->os.length=l.length * sz->(∀ k,k∈g->k∈f1)->g.Nodup->(∀ k,some k=b->k∈f1/\k ∉ g)->iY w b sz (l.length+1) (os.take (i * sz)++(xv++os.drop (i * sz))) e w' ->
   ∃ v F' fp',e=.returned v/\Kp (fun b=>b<w.heap.size/\b ∉ f1++vb::g3) w w'/\(∀ b,F b->F' b)/\(∀ b,F' b->F b\/(w.heap.size<=b/\b<w'.heap.size))/\Rep L F' w' (.sl true sz (l.take i++(x::l.drop i))) v fp'/\fp'.Nodup/\∀ b,b∈fp'->¬ F' b/\(b∈f1++vb::g3\/(w.heap.size<=b/\b<w'.heap.size)):=by
  rintro b os g e w' hO hol hgf hgn hb ⟨b',cap',c',Ty',rfl,hcap,hat,hcs,hor,hrow,hos,htp,hout,cl⟩
  have jW:l.flatMap AV.cells=(l.take i).flatMap AV.cells++(l.drop i).flatMap AV.cells:=by rw [<- List.flatMap_append,List.take_append_drop]
  rw [jW] at hO
  obtain ⟨v1,v2,g1,g2,rfl,rfl,q1,q2⟩:=hO.split
  have EG:∀ y,y∈l.take i->y.elem sz=true:=fun y hy=>hel y (List.mem_of_mem_take hy)
  have oY:∀ y,y∈l.drop i->y.elem sz=true:=fun y hy=>hel y (List.mem_of_mem_drop hy)
  have n1:v1.length=i * sz:=by rw [q1.len,bH EG,List.length_take,Nat.min_eq_left hi]
  rw [<- n1,List.take_left,List.drop_left] at hrow
  have hbS:∀ k,F k->F k/\(k<w.heap.size/\some k≠b):=fun k hk=>⟨hk,hF k hk,fun e=>(hfp k (by simp [(hb k e).1])).2 hk⟩
  have hgS:∀ k,k∈g1++g2->k<w.heap.size/\some k≠b:=fun k hk=>⟨(hfp k (by simp [hgf k hk])).1,fun e=>(hb k e).2 hk⟩
  have rl:=List.nodup_append.1 hnd
  have RN:∀ k,k∈g3->k<w.heap.size/\some k≠b:=fun k hk=>⟨(hfp k (by simp [hk])).1,fun e=>rl.2.2 k (hb k e).1 k (by simp [hk]) rfl⟩
  have p1:=aq.ext cl hbS (fun k hk=>hgS k (by simp [hk])) q1
  have p2:=aq.ext cl hbS (fun k hk=>hgS k (by simp [hk])) q2
  have p3:=aq.ext cl hbS RN hXL
  have WZ:(g1++(g3++g2)).Nodup:=by
   have hn3:=List.nodup_cons.1 rl.2.1
   have hg:=List.nodup_append.1 hgn
   rw [List.nodup_append,List.nodup_append]
   refine ⟨hg.1,⟨hn3.2,hg.2.1,fun a ha a' ha' e=>?_⟩,fun a ha a' ha' e=>?_⟩
   ·subst e;exact rl.2.2 a (hgf a (by simp [ha'])) a (by simp [ha]) rfl
   ·subst e
    rcases List.mem_append.1 ha' with h|h
    ·exact rl.2.2 a (hgf a (by simp [ha])) a (by simp [h]) rfl
    ·exact hg.2.2 a ha a h rfl
  have II:∀ k,k∈g1++(g3++g2)->k∈f1++vb::g3/\k<w.heap.size/\some k≠b:=fun k hk=>by
   rcases List.mem_append.1 hk with h|h
   ·exact ⟨by simp [hgf k (by simp [h])],hgS k (by simp [h])⟩
   ·rcases List.mem_append.1 h with h|h
    ·exact ⟨by simp [h],RN k h⟩
    ·exact ⟨by simp [hgf k (by simp [h])],hgS k (by simp [h])⟩
  have Xa:b' ∉ g1++(g3++g2):=fun hm=>by
   have:=II b' hm
   rcases hor with e|e
   ·exact this.2.2 e
   ·omega
  have hlen:(l.take i++(x::l.drop i)).length=l.length+1:=by
   rw [List.length_append,List.length_cons,List.length_take,List.length_drop];omega
  have Xb:¬ F b'/\(b'∈f1++vb::g3\/(w.heap.size<=b'/\b'<w'.heap.size)):=by
   rcases hor with e|e
   ·have:=(hb b' e).1
    exact ⟨(hfp b' (by simp [this])).2,.inl (by simp [this])⟩
   ·exact ⟨fun h=>by have:=hF b' h;omega,.inr ⟨e,(Array.getElem?_eq_some_iff.1 hat).1⟩⟩
  refine ⟨_,F,b'::(g1++(g3++g2)),rfl,⟨hos,htp,hout,cl.size,fun k hk=>cl.same k ⟨hk.1,fun e=>hk.2 (by simp [(hb k e).1])⟩,cl.shape⟩,fun _ h=>h,fun _ h=>.inl h,?_,List.nodup_cons.2 ⟨Xa,WZ⟩,fun k hk=>?_⟩
  ·simp only [Rep]
   refine .inr ⟨b',0,cap',v1++(xv++v2),g1++(g3++g2),by rw [hlen],by rw [hlen];exact hcap,by rw [hlen];exact hL,⟨c',Ty',_,hat,fun k hk=>by rw [Nat.zero_add];exact hrow k hk⟩,aq.kX (fun y hy=>?_) ?_,.inl ⟨by trivial,rfl,rfl,c',Ty',hat,by rw [Nat.zero_add];exact hcs⟩⟩
   ·rcases List.mem_append.1 hy with h|h
    ·exact EG y h
    ·rcases List.mem_cons.1 h with rfl|h
     ·exact hxe
     ·exact oY y h
   ·rw [List.flatMap_append,List.flatMap_cons]
    exact p1.join (p3.join p2)
  ·rcases List.mem_cons.1 hk with rfl|hk
   ·exact Xb
   ·exact ⟨(hfp k (II k hk).1).2,.inl (II k hk).1⟩
 simp only [Rep] at r1
 rcases r1 with ⟨rfl|⟨e,_⟩,rfl,rfl⟩|⟨b,off,cap,vals,g,rfl,hnc,_,hrow,hE,hown⟩
 ·have hi0:i=0:=by simpa using hi
  subst hi0
  refine (hf.2 w vb R8 cx Tx hcx hxs hx1).mono fun e w' hp=>?_
  rw [Iu] at hp
  exact fin none [] [] e w' (by simp [aq]) (by simp) (by simp) (by simp) (fun k e=>by cases e) (by simpa using hp)
 ·cases e
 ·rcases hown with ⟨_,rfl,rfl,c,Ty,hc,hcs⟩|⟨e,_⟩
  rotate_left
  ·cases e
  rw [Nat.zero_add] at hcs
  have hOL:=bT.flat hel hE
  have hol:vals.length=l.length * sz:=hE.len
  have NT:c.toList.take (l.length * sz)=vals:=by
   obtain ⟨c0,T0,z0,h0,h1⟩:=hrow
   rw [hc] at h0;cases h0
   apply List.ext_getElem?
   intro j
   by_cases hj:j<vals.length
   ·rw [List.getElem?_take_of_lt (by omega),Array.getElem?_toList]
    have:=h1 j hj
    rwa [Nat.zero_add] at this
   ·rw [List.getElem?_eq_none (by rw [List.length_take];omega),List.getElem?_eq_none (by omega)]
  have rl:=List.nodup_append.1 hnd
  have hbg:=List.nodup_cons.1 rl.1
  have ho1:∀ (k:Nat) (v:Value),k<l.length * sz->c[k]? = some v->v.oneCell'=true:=fun k v hk hv=>by
   refine hOL.ones hone v (List.mem_of_getElem? (i:=k) ?_)
   rw [<- NT,List.getElem?_take_of_lt hk,Array.getElem?_toList];exact hv
  have hvb:vb≠b:=fun e=>rl.2.2 b (by simp) vb (by simp) e.symm
  refine (hf.1 w b l.length cap i vb R8 c cx Ty Tx hcx hxs hx1 hc hnc hcs ho1 hvb hi oZ).mono fun e w' hp=>?_
  rw [Iu,NT] at hp
  exact fin (some b) vals g e w' hOL hol (fun k hk=>by simp [hk]) hbg.2 (fun k e=>by cases e;exact ⟨by simp,hbg.1⟩) hp
end
end
section
section
variable {L : Nat -> Nat} {P : Program} {ops : Array Oper} {n : Nat} {K : AS -> Prop}
def VR(n f:Nat)(l:Array Bool)(Inv:Nat->Array Bool->AS->Prop)(t:List (Nat×AV))(os:Sto):Prop:=∃ live o0,jS o0 os/\Inv f l ⟨n,eN t live,o0⟩
def allI(L:Nat->Nat)(P:Program)(ops:Array Oper)(n f:Nat)(l:Array Bool)(t:List (Nat×AV))(os:Sto)(Inv:Nat->Array Bool->AS->Prop):List Nat->Prop
 | []=>True
 | i::rs=>(match ops[i]? with
  | some o=>(o.guard=none/\cN n o.dst=true)/\nvc L P os t o.dst o.op (fun t' os'=>VR n f (l.setIfInBounds i true) Inv t' os')
  | none=>False)/\allI L P ops n f l t os Inv rs
end
end
section
section
variable {L : Nat -> Nat} {P : Program} {ops : Array Oper} {n fuel : Nat} {listed : Array Bool} {t : List (Nat × AV)} {os : Sto} {K : AS -> Prop}
end
end
end Go.Ab
namespace Go.Ab
section
variable {L : Nat -> Nat} {P : Program} {ops : Array Oper} {n fuel : Nat} {listed : Array Bool} {t : List (Nat × AV)} {os : Sto} {K : AS -> Prop}
theorem bP.mvN(i:Nat)(hs:Region.noSelect ops=true)(hf:Region.free .any ops listed i=true)(hr:(Region.ready .any ops listed).contains i=true)
  (h:match ops[i]? with
   | some oi=>(oi.guard=none/\cN n oi.dst=true)/\(match oi.op with
    | .move y=>(ev t y).df=true/\bP L P ops fuel (listed.setIfInBounds i true) ⟨n,put t oi.dst (ev t y),os⟩ K
    | _=>False)
   | none=>False):bP L P ops (fuel+1) listed ⟨n,t,os⟩ K:=by
 split at h
 ·rename_i oi hi
  obtain ⟨⟨hg,hd⟩,h⟩:=h
  split at h
  ·rename_i y hop
   obtain ⟨hno,h⟩:=h
   intro B F0 w0 a w R cw hR
   have hw:Region.wanted oi (yielded ops a.tmps)=true:=by simp [Region.wanted,hg]
   obtain ⟨F,own,fp,fs,hD⟩:=cw
   have hrp:=hD.ev y
   have hfp:fpo fp y=[]:=by
    exact Rep.dP hno hrp
   rw [hfp] at hrp
   refine wpAny_take (v:=a.eval y) (a:=a) (w:=w) hi hs hf hr (fun c a w h=>by cases h.1) (.inl ⟨hw,fun w'=>by simp [execOp,hop]⟩) ?_
   refine h B F0 w0 _ w R ?_ hR
   have:=hD.put (x:=ev t y) (v:=a.eval y) (fx:=[]) [] oi.dst hd (w':=w) (F':=F) (Kp.refl _ _) (fun _ h=>h) (fun b h=>.inl h) hrp (by simp) (by simp)
   simpa [bW] using this
  ·exact h.elim
 ·exact h.elim
end
end Go.Ab
namespace Go.Proofs
open Go.Ab Go.Dt
section
attribute [-instance] cz
attribute [local go_sem] ba aI aS cU cT dy fZ gH
theorem eU(l:List ah):∀ x,x∈l.map (aj false)->x.elem 3=true:=bB (fun x=>by rw [bR];try rfl) _
theorem xQ:∀ l:List ah,((l.map (aj false)).flatMap AV.cells).all AV.one=true:=fun l=>dw (fun x=>by rw [bR];try rfl) l
theorem oV(l:List ah)(x:ah){k:Nat}(hk:k<=l.length)(hl:l.length<=4194304):FB lim Tryz.prog 251 [.sl true 3 (l.map (aj false)),.v (.int .i64 k),.sl true 3 [.agg (cNo x)]] (.sl true 3 ((l.take k++x::l.drop k).map (aj false))):=by
 have h:=Je.con (L:=lim) (i:=k) (l:=l.map (aj false)) (x:=aj false x) Wp (eU l) (xQ l) (by rw [bR];try rfl) (by rw [bR];try rfl) (by rw [List.length_map];omega) (by rw [List.length_map];omega) (by rw [List.length_map];show _<=2147483648;omega)
 rw [<- List.map_take,<- List.map_drop,<- List.map_cons,<- List.map_append] at h
 rw [bR] at h
 exact h
theorem G5(s:List ag)(l:List ah)(x:ah):Ctr lim Tryz.prog 226 [] [.sl false 19 (s.map (ak false)),.sl false 3 (l.map (aj false)),.agg (cNo x)] (.sl false 3 ((ins s l x).map (aj false))) [] (0<=idx (nmP x.ae) (dk s)/\bE s<=1048576/\l.length<=4194304):=by
 refine Ctr.bd Tryz.func226 Tryz.ntmps226 rfl rfl fun hp=>?_
 have gOn:=bA.on
 obtain ⟨h0,hc,hl⟩:=hp
 have hj:=gJ (p:=nmP x.ae) (dk s)
 (refine vK ?_;with_reducible repeat' first|exact Le.l|apply Sw|intro h)
 refine AW.aA [10] [0,1,5,7,8,9] (fun m xs o=>∃ k:Nat,xs=[.v (.int .i64 k)]/\o=[]/\m=l.length - k/\k<=l.length/\∀ y∈l.take k,stP (dk s) x y=false) l.length [] trivial ⟨0,?_,rfl,rfl,?_,?_⟩ ?_
 ·rfl
 ·omega
 ·simp
 rintro m xs o ⟨k,rfl,rfl,rfl,hk,hR⟩
 refine vO ?_;intros;refine AW.c (fun h=>?_) fun h=>?_
 ·have hlk:=h
  clear h
  refine vO ?_;intros;refine AW.c (fun h=>?_) fun h=>?_
  ·have hpos:pos (stP (dk s) x) l=k:=pos_at hlk hR (by rw [stP];grind)
   clear h
   (refine vN ?_;with_reducible repeat' first|exact Le.l|apply Sw|intro h)
   refine AW.yM [(6,.sl true 3 ((l.take k++x::l.drop k).map (aj false)))] [] (by kernel_rfl) (fun K hK=>?_) ?_
   ·change bP lim Tryz.prog _ 8 #[false,false,false,false,false,false,false,false] _ _
    refine bP.mvN 1 (by kernel_rfl) (by kernel_rfl) (by kernel_rfl) ?_
    simp (maxSteps:=2000000) (disch:=omega) only [go_sem]
    refine bP.mvN 3 (by kernel_rfl) (by kernel_rfl) (by kernel_rfl) ?_
    simp (maxSteps:=2000000) (disch:=omega) only [go_sem]
    refine bP.step [0,4] (by kernel_rfl) (by simp) ?_
    simp only [eG]
    (refine vN ?_;with_reducible repeat' first|exact Le.l|apply Sw|intro h)
    ·refine bP.step [2,4] (by kernel_rfl) (by simp) ?_
     simp only [eG]
     (refine vN ?_;with_reducible repeat' first|exact Le.l|apply Sw|intro h)
     ·refine bP.step [4] (by kernel_rfl) (by simp) ?_
      simp only [eG]
      (refine vN ?_;with_reducible repeat' first|exact Le.l|apply Sw|intro h)
      refine bP.step [5] (by kernel_rfl) (by simp) ?_
      simp only [eG]
      (refine vN ?_;with_reducible repeat' first|exact Le.l|apply Sw|intro h)
      refine bP.o6 6 (by kernel_rfl) ?_
      simp (maxSteps:=2000000) (disch:=omega) only [go_sem]
      refine ⟨by first|trivial|decide,(aM 251),_,oV l x (by omega) (by omega),?_⟩
      refine bP.step [7] (by kernel_rfl) (by simp) ?_
      simp only [eG]
      (refine vN ?_;with_reducible repeat' first|exact Le.l|apply Sw|intro h)
      exact bP.mi [6] [] (by kernel_rfl) gO (by simp (maxSteps:=2000000) (disch:=omega) only [go_sem];exact hK)
     ·refine bP.step [2,5] (by kernel_rfl) (by simp) ?_
      simp only [eG]
      (refine vN ?_;with_reducible repeat' first|exact Le.l|apply Sw|intro h)
      ·refine bP.step [5] (by kernel_rfl) (by simp) ?_
       simp only [eG]
       (refine vN ?_;with_reducible repeat' first|exact Le.l|apply Sw|intro h)
       refine bP.o6 6 (by kernel_rfl) ?_
       simp (maxSteps:=2000000) (disch:=omega) only [go_sem]
       refine ⟨by first|trivial|decide,(aM 251),_,oV l x (by omega) (by omega),?_⟩
       refine bP.step [7] (by kernel_rfl) (by simp) ?_
       simp only [eG]
       (refine vN ?_;with_reducible repeat' first|exact Le.l|apply Sw|intro h)
       exact bP.mi [6] [] (by kernel_rfl) gO (by simp (maxSteps:=2000000) (disch:=omega) only [go_sem];exact hK)
      ·refine bP.step [2] (by kernel_rfl) (by simp) ?_
       simp only [eG]
       (refine vN ?_;with_reducible repeat' first|exact Le.l|apply Sw|intro h)
       refine bP.o6 6 (by kernel_rfl) ?_
       simp (maxSteps:=2000000) (disch:=omega) only [go_sem]
       refine ⟨by first|trivial|decide,(aM 251),_,oV l x (by omega) (by omega),?_⟩
       refine bP.step [7] (by kernel_rfl) (by simp) ?_
       simp only [eG]
       (refine vN ?_;with_reducible repeat' first|exact Le.l|apply Sw|intro h)
       exact bP.mi [6] [] (by kernel_rfl) gO (by simp (maxSteps:=2000000) (disch:=omega) only [go_sem];exact hK)
    ·refine bP.step [0,5] (by kernel_rfl) (by simp) ?_
     simp only [eG]
     (refine vN ?_;with_reducible repeat' first|exact Le.l|apply Sw|intro h)
     ·refine bP.step [2,5] (by kernel_rfl) (by simp) ?_
      simp only [eG]
      (refine vN ?_;with_reducible repeat' first|exact Le.l|apply Sw|intro h)
      ·refine bP.step [5] (by kernel_rfl) (by simp) ?_
       simp only [eG]
       (refine vN ?_;with_reducible repeat' first|exact Le.l|apply Sw|intro h)
       refine bP.o6 6 (by kernel_rfl) ?_
       simp (maxSteps:=2000000) (disch:=omega) only [go_sem]
       refine ⟨by first|trivial|decide,(aM 251),_,oV l x (by omega) (by omega),?_⟩
       refine bP.step [7] (by kernel_rfl) (by simp) ?_
       simp only [eG]
       (refine vN ?_;with_reducible repeat' first|exact Le.l|apply Sw|intro h)
       exact bP.mi [6] [] (by kernel_rfl) gO (by simp (maxSteps:=2000000) (disch:=omega) only [go_sem];exact hK)
      ·refine bP.step [2] (by kernel_rfl) (by simp) ?_
       simp only [eG]
       (refine vN ?_;with_reducible repeat' first|exact Le.l|apply Sw|intro h)
       refine bP.o6 6 (by kernel_rfl) ?_
       simp (maxSteps:=2000000) (disch:=omega) only [go_sem]
       refine ⟨by first|trivial|decide,(aM 251),_,oV l x (by omega) (by omega),?_⟩
       refine bP.step [7] (by kernel_rfl) (by simp) ?_
       simp only [eG]
       (refine vN ?_;with_reducible repeat' first|exact Le.l|apply Sw|intro h)
       exact bP.mi [6] [] (by kernel_rfl) gO (by simp (maxSteps:=2000000) (disch:=omega) only [go_sem];exact hK)
     ·refine bP.step [0] (by kernel_rfl) (by simp) ?_
      simp only [eG]
      (refine vN ?_;with_reducible repeat' first|exact Le.l|apply Sw|intro h)
      refine bP.step [2] (by kernel_rfl) (by simp) ?_
      simp only [eG]
      (refine vN ?_;with_reducible repeat' first|exact Le.l|apply Sw|intro h)
      refine bP.o6 6 (by kernel_rfl) ?_
      simp (maxSteps:=2000000) (disch:=omega) only [go_sem]
      refine ⟨by first|trivial|decide,(aM 251),_,oV l x (by omega) (by omega),?_⟩
      refine bP.step [7] (by kernel_rfl) (by simp) ?_
      simp only [eG]
      (refine vN ?_;with_reducible repeat' first|exact Le.l|apply Sw|intro h)
      exact bP.mi [6] [] (by kernel_rfl) gO (by simp (maxSteps:=2000000) (disch:=omega) only [go_sem];exact hK)
   ·refine iy.n ?_
    refine AW.imp (Imp.frz 6 ?_)
    simp (maxSteps:=2000000) (disch:=omega) only [go_sem]
    (refine vU ?_;with_reducible repeat' first|exact Le.l|apply Sw|intro h)
    rw [ins,hpos]
  ·(refine vU ?_;with_reducible repeat' first|exact Le.l|apply Sw|intro h)
   exact ⟨_,[_],_,by omega,⟨k+1,rfl,rfl,rfl,by omega,bJ hlk hR (by rw [stP];grind)⟩,rfl,by simp (maxSteps:=2000000) (disch:=omega) only [go_sem]⟩
 ·have ek:k=l.length:=by omega
  have hpos:pos (stP (dk s) x) l=k:=by rw [DB (by omega) hR,ek]
  clear h
  (refine vN ?_;with_reducible repeat' first|exact Le.l|apply Sw|intro h)
  refine AW.yM [(6,.sl true 3 ((l.take k++x::l.drop k).map (aj false)))] [] (by kernel_rfl) (fun K hK=>?_) ?_
  ·change bP lim Tryz.prog _ 8 #[false,false,false,false,false,false,false,false] _ _
   refine bP.mvN 1 (by kernel_rfl) (by kernel_rfl) (by kernel_rfl) ?_
   simp (maxSteps:=2000000) (disch:=omega) only [go_sem]
   refine bP.mvN 3 (by kernel_rfl) (by kernel_rfl) (by kernel_rfl) ?_
   simp (maxSteps:=2000000) (disch:=omega) only [go_sem]
   refine bP.step [0,4] (by kernel_rfl) (by simp) ?_
   simp only [eG]
   (refine vN ?_;with_reducible repeat' first|exact Le.l|apply Sw|intro h)
   ·refine bP.step [2,4] (by kernel_rfl) (by simp) ?_
    simp only [eG]
    (refine vN ?_;with_reducible repeat' first|exact Le.l|apply Sw|intro h)
    ·refine bP.step [4] (by kernel_rfl) (by simp) ?_
     simp only [eG]
     (refine vN ?_;with_reducible repeat' first|exact Le.l|apply Sw|intro h)
     refine bP.step [5] (by kernel_rfl) (by simp) ?_
     simp only [eG]
     (refine vN ?_;with_reducible repeat' first|exact Le.l|apply Sw|intro h)
     refine bP.o6 6 (by kernel_rfl) ?_
     simp (maxSteps:=2000000) (disch:=omega) only [go_sem]
     refine ⟨by first|trivial|decide,(aM 251),_,oV l x (by omega) (by omega),?_⟩
     refine bP.step [7] (by kernel_rfl) (by simp) ?_
     simp only [eG]
     (refine vN ?_;with_reducible repeat' first|exact Le.l|apply Sw|intro h)
     exact bP.mi [6] [] (by kernel_rfl) gO (by simp (maxSteps:=2000000) (disch:=omega) only [go_sem];exact hK)
    ·refine bP.step [2,5] (by kernel_rfl) (by simp) ?_
     simp only [eG]
     (refine vN ?_;with_reducible repeat' first|exact Le.l|apply Sw|intro h)
     ·refine bP.step [5] (by kernel_rfl) (by simp) ?_
      simp only [eG]
      (refine vN ?_;with_reducible repeat' first|exact Le.l|apply Sw|intro h)
      refine bP.o6 6 (by kernel_rfl) ?_
      simp (maxSteps:=2000000) (disch:=omega) only [go_sem]
      refine ⟨by first|trivial|decide,(aM 251),_,oV l x (by omega) (by omega),?_⟩
      refine bP.step [7] (by kernel_rfl) (by simp) ?_
      simp only [eG]
      (refine vN ?_;with_reducible repeat' first|exact Le.l|apply Sw|intro h)
      exact bP.mi [6] [] (by kernel_rfl) gO (by simp (maxSteps:=2000000) (disch:=omega) only [go_sem];exact hK)
     ·refine bP.step [2] (by kernel_rfl) (by simp) ?_
      simp only [eG]
      (refine vN ?_;with_reducible repeat' first|exact Le.l|apply Sw|intro h)
      refine bP.o6 6 (by kernel_rfl) ?_
      simp (maxSteps:=2000000) (disch:=omega) only [go_sem]
      refine ⟨by first|trivial|decide,(aM 251),_,oV l x (by omega) (by omega),?_⟩
      refine bP.step [7] (by kernel_rfl) (by simp) ?_
      simp only [eG]
      (refine vN ?_;with_reducible repeat' first|exact Le.l|apply Sw|intro h)
      exact bP.mi [6] [] (by kernel_rfl) gO (by simp (maxSteps:=2000000) (disch:=omega) only [go_sem];exact hK)
   ·refine bP.step [0,5] (by kernel_rfl) (by simp) ?_
    simp only [eG]
    (refine vN ?_;with_reducible repeat' first|exact Le.l|apply Sw|intro h)
    ·refine bP.step [2,5] (by kernel_rfl) (by simp) ?_
     simp only [eG]
     (refine vN ?_;with_reducible repeat' first|exact Le.l|apply Sw|intro h)
     ·refine bP.step [5] (by kernel_rfl) (by simp) ?_
      simp only [eG]
      (refine vN ?_;with_reducible repeat' first|exact Le.l|apply Sw|intro h)
      refine bP.o6 6 (by kernel_rfl) ?_
      simp (maxSteps:=2000000) (disch:=omega) only [go_sem]
      refine ⟨by first|trivial|decide,(aM 251),_,oV l x (by omega) (by omega),?_⟩
      refine bP.step [7] (by kernel_rfl) (by simp) ?_
      simp only [eG]
      (refine vN ?_;with_reducible repeat' first|exact Le.l|apply Sw|intro h)
      exact bP.mi [6] [] (by kernel_rfl) gO (by simp (maxSteps:=2000000) (disch:=omega) only [go_sem];exact hK)
     ·refine bP.step [2] (by kernel_rfl) (by simp) ?_
      simp only [eG]
      (refine vN ?_;with_reducible repeat' first|exact Le.l|apply Sw|intro h)
      refine bP.o6 6 (by kernel_rfl) ?_
      simp (maxSteps:=2000000) (disch:=omega) only [go_sem]
      refine ⟨by first|trivial|decide,(aM 251),_,oV l x (by omega) (by omega),?_⟩
      refine bP.step [7] (by kernel_rfl) (by simp) ?_
      simp only [eG]
      (refine vN ?_;with_reducible repeat' first|exact Le.l|apply Sw|intro h)
      exact bP.mi [6] [] (by kernel_rfl) gO (by simp (maxSteps:=2000000) (disch:=omega) only [go_sem];exact hK)
    ·refine bP.step [0] (by kernel_rfl) (by simp) ?_
     simp only [eG]
     (refine vN ?_;with_reducible repeat' first|exact Le.l|apply Sw|intro h)
     refine bP.step [2] (by kernel_rfl) (by simp) ?_
     simp only [eG]
     (refine vN ?_;with_reducible repeat' first|exact Le.l|apply Sw|intro h)
     refine bP.o6 6 (by kernel_rfl) ?_
     simp (maxSteps:=2000000) (disch:=omega) only [go_sem]
     refine ⟨by first|trivial|decide,(aM 251),_,oV l x (by omega) (by omega),?_⟩
     refine bP.step [7] (by kernel_rfl) (by simp) ?_
     simp only [eG]
     (refine vN ?_;with_reducible repeat' first|exact Le.l|apply Sw|intro h)
     exact bP.mi [6] [] (by kernel_rfl) gO (by simp (maxSteps:=2000000) (disch:=omega) only [go_sem];exact hK)
  ·refine iy.n ?_
   refine AW.imp (Imp.frz 6 ?_)
   simp (maxSteps:=2000000) (disch:=omega) only [go_sem]
   (refine vU ?_;with_reducible repeat' first|exact Le.l|apply Sw|intro h)
   rw [ins,hpos]
end
section
attribute [-instance] cz
attribute [local go_sem] ba aI aS cU cT dy fZ gH
theorem QD(n:ag)(e:au):Ctr lim Tryz.prog 213 [] [.agg (cSc n),.agg (cEd e)] (.tup [.sl true 1 ((AL n e.af).map AV.str),.v (.bool (dE n e.af))]) [] (KyS n/\e.af.length<=1048576/\∀ x∈e.af,x.av.length<=1048576):=by
 refine Ctr.bd Tryz.func213 Tryz.ntmps213 rfl rfl fun hp=>?_
 have gOn:=bA.on
 obtain ⟨hp1,hp2,hp3⟩:=hp
 have hk3:=hp1.2.1
 (refine vK ?_;with_reducible repeat' first|exact Le.l|apply Sw|intro h)
 refine AW.aA [6,7] [2,3] (fun m xs o=>∃ k:Nat,xs=[.sl true 1 (((n.aw.take k).flatMap (fun q=>kvS n q e.af)).map AV.str),.v (.int .i64 k)]/\o=[]/\m=n.aw.length - k/\k<=n.aw.length/\∀ q∈n.aw.take k,(!(decide ((kvF q e.af).length=1) && (kvF q e.af).all (kvG n q)))=false) n.aw.length [] trivial ⟨0,?_,rfl,rfl,?_,?_⟩ ?_
 ·rfl
 ·omega
 ·simp
 rintro m xs o ⟨k,rfl,rfl,rfl,hk,hR⟩
 have hkl:=Kf n e.af n.aw k
 have ZS:k * e.af.length<=3 * e.af.length:=Nat.mul_le_mul_right _ (by omega)
 refine vO ?_;intros;refine AW.c (fun h=>?_) fun h=>?_
 ·have hlk:=h
  have hlf:=Rb hp1 (at_mem h)
  have ZQ:=hlf.1
  have ZP:=(fK hlf.1).1
  have ZO:=gJ (p:=nmP (at_ n.aw k)) n.af
  clear h
  (refine vN ?_;with_reducible repeat' first|exact Le.l|apply Sw|intro h)
  first|refine AW.rB ?_|refine AW.wH ?_
  (refine vN ?_;with_reducible repeat' first|exact Le.l|apply Sw|intro h)
  rename Nat=>b
  (refine vK ?_;with_reducible repeat' first|exact Le.l|apply Sw|intro h)
  refine AW.aA [6,9,10] [2,3,7,8] (fun m xs o=>∃ j:Nat,xs=[.sl true 1 ((((n.aw.take k).flatMap (fun q=>kvS n q e.af))++kvS n (at_ n.aw k) (e.af.take j)).map AV.str),.v (.int .i64 (kvF (at_ n.aw k) (e.af.take j)).length),.v (.int .i64 j)]/\o=[(b,some (cSc (at_ n.af (idx (nmP (at_ n.aw k)) n.af).toNat)))]/\m=e.af.length - j/\j<=e.af.length/\(kvF (at_ n.aw k) (e.af.take j)).all (kvG n (at_ n.aw k))=true) e.af.length [(b,some (cSc (at_ n.af (idx (nmP (at_ n.aw k)) n.af).toNat)))] gO ⟨0,by rw [show kvS n (at_ n.aw k) (e.af.take 0)=[] by simp [kvS,kvF],List.append_nil];rfl,rfl,rfl,by omega,by simp [kvF]⟩ ?_
  rintro m xs o ⟨j,rfl,rfl,rfl,hj,hG⟩
  have hle:=Py (at_ n.aw k) e.af j
  have hsl:=GQ n (at_ n.aw k) (e.af.take j)
  refine vO ?_;intros;refine AW.c (fun h=>?_) fun h=>?_
  ·have hlj:=h
   have hv:=hp3 _ (at_mem h)
   clear h
   refine vO ?_;intros;refine AW.c (fun h=>?_) fun h=>?_
   ·have hs:=Mt hlj h
    have hs2:kvS n (at_ n.aw k) (e.af.take (j+1))=kvS n (at_ n.aw k) (e.af.take j):=by rw [kvS,kvS,hs]
    (refine vU ?_;with_reducible repeat' first|exact Le.l|apply Sw|intro h)
    exact ⟨_,[_,_,_],_,by omega,⟨j+1,by rw [hs2,hs],rfl,rfl,by omega,by rw [hs];exact hG⟩,rfl,by simp (maxSteps:=2000000) (disch:=omega) only [go_sem]⟩
   have hnm:(at_ e.af j).ae=(at_ n.aw k):=by grind
   clear h
   have hs:=Ms hlj hnm
   have hs2:kvS n (at_ n.aw k) (e.af.take (j+1))=kvS n (at_ n.aw k) (e.af.take j)++[cvS (at_ n.af (idx (nmP (at_ n.aw k)) n.af).toNat).fType (at_ e.af j).av]:=by
    rw [kvS,kvS,hs,List.map_append,hlf.2];rfl
   refine vO ?_;intros;refine AW.c (fun h=>?_) fun h=>?_
   ·(refine vX ?_;with_reducible repeat' first|exact Le.l|apply Sw|intro h)
    refine AW.imp (Imp.fU 4 (x:=.v (.slice none 0 0)) (x':=.sl true 1 []) gO (fun _ _ _ _ r=>Rep.dY _ _ r) ?_)
    (refine vU ?_;with_reducible repeat' first|exact Le.l|apply Sw|intro h)
    have hb:dE n e.af=false:=GS hlk (by rw [Rd hlj hnm (by unfold kvG;rw [<- hlf.2];grind),Bool.and_false])
    rw [AL,hb];try rfl
   ·(refine vU ?_;with_reducible repeat' first|exact Le.l|apply Sw|intro h)
    exact ⟨_,[_,_,_],_,by omega,⟨j+1,by rw [hs2,hs,List.length_append];simp only [List.map_append,List.append_assoc];rfl,rfl,rfl,by omega,by rw [hs,List.all_append,hG];unfold kvG;rw [<- hlf.2];grind⟩,rfl,by simp (maxSteps:=2000000) (disch:=omega) only [go_sem]⟩
  ·have ej:j=e.af.length:=by omega
   clear h
   subst ej
   rw [List.take_length] at *
   refine vO ?_;intros;refine AW.c (fun h=>?_) fun h=>?_
   ·(refine vX ?_;with_reducible repeat' first|exact Le.l|apply Sw|intro h)
    refine AW.imp (Imp.fU 4 (x:=.v (.slice none 0 0)) (x':=.sl true 1 []) gO (fun _ _ _ _ r=>Rep.dY _ _ r) ?_)
    (refine vU ?_;with_reducible repeat' first|exact Le.l|apply Sw|intro h)
    have hb:dE n e.af=false:=GS hlk (by rw [show decide ((kvF (at_ n.aw k) e.af).length=1)=false by simp;omega,Bool.false_and])
    rw [AL,hb];try rfl
   ·(refine vU ?_;with_reducible repeat' first|exact Le.l|apply Sw|intro h)
    exact ⟨_,[_,_],_,by omega,⟨k+1,by rw [db hlk,List.flatMap_append,List.flatMap_cons,List.flatMap_nil,List.append_nil],rfl,rfl,by omega,bJ hlk hR (by rw [hG,show decide ((kvF (at_ n.aw k) e.af).length=1)=true by simp;omega];rfl)⟩,rfl,by simp (maxSteps:=2000000) (disch:=omega) only [go_sem]⟩
 ·(refine vU ?_;with_reducible repeat' first|exact Le.l|apply Sw|intro h)
  have hk0:dE n e.af=true:=eA (by assumption) hR
  rw [AL,hk0,if_pos rfl,En,List.take_of_length_le (by omega)]
theorem Ov{s:List ag}{p:ah->Bool}{l:List ah}{k:Nat}(h:k<l.length):(l.take (k+1)).filter p=(l.take k).filter p++(if p (at_ l k)=true then [at_ l k] else []):=by
 rw [db h,List.filter_append,List.filter_cons];rfl
theorem S3(p:ah->Bool)(l:List ah)(k:Nat):((l.take k).filter p).length<=k:=by
 have:=List.length_filter_le p (l.take k)
 rw [List.length_take] at this;omega
instance Tp(l:List ah)(nms:List Str):Ctr lim Tryz.prog 216 [] [.sl false 3 ((l).map (aj false)),.sl false 1 (nms.map AV.str)] (.sl true 3 ((l.filter fun y=>!cont nms y.ae).map (aj false))) [] (l.length<=4194304):=by
 refine Ctr.bd Tryz.func216 Tryz.ntmps216 rfl rfl fun hp=>?_
 have gOn:=bA.on
 refine AW.fact 1 fun hf=>?_
 simp (disch:=omega) only [go_sem] at hf
 (refine vK ?_;with_reducible repeat' first|exact Le.l|apply Sw|intro h)
 refine AW.aA [5,6] [0,1] (fun m xs o=>∃ k:Nat,xs=[.sl true 3 (((l.take k).filter fun y=>!cont nms y.ae).map (aj false)),.v (.int .i64 k)]/\o=[]/\m=l.length - k/\k<=l.length) l.length [] trivial ⟨0,?_,rfl,rfl,?_⟩ ?_
 ·rfl
 ·omega
 rintro m xs o ⟨k,rfl,rfl,rfl,hk⟩
 have hfl:=S3 (fun y=>!cont nms y.ae) l k
 refine vO ?_;intros;refine AW.c (fun h=>?_) fun h=>?_
 ·have hlk:=h
  have hst:=Ov (s:=[]) (p:=fun y:ah=>!cont nms y.ae) h
  clear h
  (refine vK ?_;with_reducible repeat' first|exact Le.l|apply Sw|intro h)
  refine AW.aA [7,8] [0,1,5,6] (fun m xs o=>∃ j:Nat,xs=[.v (.bool (cont (nms.take j) (at_ l k).ae)),.v (.int .i64 j)]/\o=[]/\m=nms.length - j/\j<=nms.length) nms.length [] trivial ⟨0,?_,rfl,rfl,?_⟩ ?_
  ·rfl
  ·omega
  rintro m xs o ⟨j,rfl,rfl,rfl,hj⟩
  refine vO ?_;intros;refine AW.c (fun h=>?_) fun h=>?_
  ·have hcs:=Cg (s:=(at_ l k).ae) h
   (refine vU ?_;with_reducible repeat' first|exact Le.l|apply Sw|intro h)
   exact ⟨_,[_,_],_,by omega,⟨j+1,by rw [<- hcs];try rfl,rfl,rfl,by omega⟩,rfl,by simp (maxSteps:=2000000) (disch:=omega) only [go_sem]⟩
  ·rw [List.take_of_length_le (by omega)]
   clear h
   refine vO ?_;intros;refine AW.c (fun h=>?_) fun h=>?_
   ·(refine vU ?_;with_reducible repeat' first|exact Le.l|apply Sw|intro h)
    exact ⟨_,[_,_],_,by omega,⟨k+1,by rw [hst,if_pos (by rw [h];rfl),List.map_append,List.map_cons,List.map_nil,bR],rfl,rfl,by omega⟩,rfl,by simp (maxSteps:=2000000) (disch:=omega) only [go_sem]⟩
   ·(refine vU ?_;with_reducible repeat' first|exact Le.l|apply Sw|intro h)
    exact ⟨_,[_,_],_,by omega,⟨k+1,by rw [hst,if_neg (by rw [h];simp),List.append_nil],rfl,rfl,by omega⟩,rfl,by simp (maxSteps:=2000000) (disch:=omega) only [go_sem]⟩
 ·(refine vU ?_;with_reducible repeat' first|exact Le.l|apply Sw|intro h)
  rw [List.take_of_length_le (by omega)]
end
section
attribute [-instance] cz
attribute [local go_sem] ba aI aS cU cT dy fZ gH
theorem Jw:∀ (n:Nat) (s:List ag) (nm:Str),Ctr lim Tryz.prog 214 [] [.sl false 19 (s.map (ak false)),.str nm] (.tup [.sl true 1 ((iq s nm).map AV.str),.v (.bool (oth s nm).isSome)]) [] (SizeOf.sizeOf s<n/\bE s<=1048576)
 | 0,_,_=>⟨(aM 214),fun h=>absurd h.1 (Nat.not_lt_zero _)⟩
 | n+1,s,nm=>by
  have ih:=Jw n
  refine Ctr.bd Tryz.func214 Tryz.ntmps214 rfl rfl fun hp=>?_
  have gOn:=bA.on
  obtain ⟨hn,hc⟩:=hp
  refine AW.fact 0 fun hf=>?_
  simp (disch:=omega) only [go_sem] at hf
  (refine vK ?_;with_reducible repeat' first|exact Le.l|apply Sw|intro h)
  refine AW.aA [6] [0,1] (fun m xs o=>∃ k:Nat,xs=[.v (.int .i64 k)]/\o=[]/\m=s.length - k/\k<=s.length/\oth (s.drop k) nm=oth s nm) s.length [] trivial ⟨0,?_,rfl,rfl,?_,rfl⟩ ?_
  ·rfl
  ·omega
  rintro m xs o ⟨k,rfl,rfl,rfl,hk,hR⟩
  refine vO ?_;intros;refine AW.c (fun h=>?_) fun h=>?_
  ·have hlk:=h
   have hsk:=wz (at_mem h)
   have hck:=pS (at_mem h)
   have hkl:=Mi (at_ s k).af
   rw [da h,xL] at hR
   clear h
   refine vO ?_;intros;refine AW.c (fun h=>?_) fun h=>?_
   ·have hR2:=hR
    rw [if_pos (by grind)] at hR2
    (refine vX ?_;with_reducible repeat' first|exact Le.l|apply Sw|intro h)
    refine AW.imp (Imp.dY 4 1 gO ?_)
    (refine vU ?_;with_reducible repeat' first|exact Le.l|apply Sw|intro h)
    rw [iq,<- hR2];try rfl
   have h1:¬ (di (at_ s k).ai=true/\(at_ s k).ae=nm):=by grind
   rw [if_neg h1] at hR
   clear h
   refine vO ?_;intros;refine AW.c (fun h=>?_) fun h=>?_
   ·rw [if_neg h] at hR
    (refine vU ?_;with_reducible repeat' first|exact Le.l|apply Sw|intro h)
    exact ⟨_,[_],_,by omega,⟨k+1,rfl,rfl,rfl,by omega,hR⟩,rfl,by simp (maxSteps:=2000000) (disch:=omega) only [go_sem]⟩
   rw [if_pos (by omega)] at hR
   clear h
   (refine vK ?_;with_reducible repeat' first|exact Le.l|apply Sw|intro h)
   refine AW.aA [7] [0,1,6] (fun m xs o=>∃ i:Nat,xs=[.v (.int .i64 i)]/\o=[]/\m=(at_ s k).af.length - i/\i<=(at_ s k).af.length/\jK (at_ s k).af i ((at_ s k).af.drop i) nm=jK (at_ s k).af 0 (at_ s k).af nm) (at_ s k).af.length [] trivial ⟨0,?_,rfl,rfl,?_,rfl⟩ ?_
   ·rfl
   ·omega
   rintro m xs o ⟨i,rfl,rfl,rfl,hi,hR3⟩
   refine vO ?_;intros;refine AW.c (fun h=>?_) fun h=>?_
   ·have hik:=h
    have hsi:=wz (at_mem h)
    have hci:=pS (at_mem h)
    rw [da h,BM] at hR3
    clear h
    refine vO ?_;intros;refine AW.c (fun h=>?_) fun h=>?_
    ·have e0:oth (at_ (at_ s k).af i).af nm=none:=by grind
     rw [e0] at hR3
     (refine vU ?_;with_reducible repeat' first|exact Le.l|apply Sw|intro h)
     exact ⟨_,[_],_,by omega,⟨i+1,rfl,rfl,rfl,by omega,hR3⟩,rfl,by simp (maxSteps:=2000000) (disch:=omega) only [go_sem]⟩
    obtain ⟨o1,e0⟩:∃ o1,oth (at_ (at_ s k).af i).af nm=some o1:=by
     cases e:oth (at_ (at_ s k).af i).af nm with
     | none=>rw [e] at h;cases h
     | some o1=>exact ⟨o1,rfl⟩
    rw [e0] at hR3
    have hR4:oth s nm=some (o1++j6 (at_ s k).af i (at_ s k).af.length):=by rw [<- hR,<- hR3]
    clear h
    have e1:iq (at_ (at_ s k).af i).af nm=o1:=by rw [iq,e0];rfl
    rw [e1]
    have hl2:=pL _ _ _ e0
    (refine vK ?_;with_reducible repeat' first|exact Le.l|apply Sw|intro h)
    refine AW.aA [8,10] [0,1,6,7] (fun m xs o=>∃ j:Nat,xs=[.sl true 1 ((o1++j6 (at_ s k).af i j).map AV.str),.v (.int .i64 j)]/\o=[]/\m=(at_ s k).af.length - j/\j<=(at_ s k).af.length) (at_ s k).af.length [] trivial ⟨0,?_,rfl,rfl,?_⟩ ?_
    ·rw [show j6 (at_ s k).af i 0=[] by simp [j6],List.append_nil];rfl
    ·omega
    rintro m xs o ⟨j,rfl,rfl,rfl,hj⟩
    refine vO ?_;intros;refine AW.c (fun h=>?_) fun h=>?_
    ·have hjk:=h
     have hcj:=pS (at_mem h)
     have hst:=uI (at_ s k).af i j
     have hl:=wi (at_ s k).af i j (by omega)
     have hl3:=yF (at_ s k).af j
     have hl4:(dk (at_ (at_ s k).af j).af).length<=bE (at_ (at_ s k).af j).af:=vB _
     clear h
     (refine vK ?_;with_reducible repeat' first|exact Le.l|apply Sw|intro h)
     by_cases e:j=i
     ·rw [if_pos e,List.append_nil] at hst
      refine AW.aA [8,12] [0,1,6,7,10,11] (fun m xs o=>xs=[.sl true 1 ((o1++j6 (at_ s k).af i j).map AV.str),.v (.int .i64 0)]/\o=[]) 0 [] trivial ⟨?_,rfl⟩ ?_
      ·rfl
      rintro m xs o ⟨rfl,rfl⟩
      (refine vU ?_;with_reducible repeat' first|exact Le.l|apply Sw|intro h)
      exact ⟨_,[_,_],_,by omega,⟨j+1,by rw [hst],rfl,rfl,by omega⟩,rfl,by simp (maxSteps:=2000000) (disch:=omega) only [go_sem]⟩
     ·rw [if_neg e] at hst
      refine AW.aA [8,12] [0,1,6,7,10,11] (fun m xs o=>∃ x:Nat,xs=[.sl true 1 ((o1++j6 (at_ s k).af i j++(nmS (dk (at_ (at_ s k).af j).af)).take x).map AV.str),.v (.int .i64 x)]/\o=[]/\m=(dk (at_ (at_ s k).af j).af).length - x/\x<=(dk (at_ (at_ s k).af j).af).length) (dk (at_ (at_ s k).af j).af).length [] trivial ⟨0,?_,rfl,rfl,?_⟩ ?_
      ·rw [List.take_zero,List.append_nil];rfl
      ·omega
      rintro m xs o ⟨x,rfl,rfl,rfl,hx⟩
      have hxl:((nmS (dk (at_ (at_ s k).af j).af)).take x).length<=x:=by rw [List.length_take];omega
      refine vO ?_;intros;refine AW.c (fun h=>?_) fun h=>?_
      ·have hxs:(nmS (dk (at_ (at_ s k).af j).af)).take (x+1)=(nmS (dk (at_ (at_ s k).af j).af)).take x++[(at_ (dk (at_ (at_ s k).af j).af) x).ae]:=by
        rw [db (by rw [nmS,List.length_map];omega),nmS,mT (by omega)]
       (refine vU ?_;with_reducible repeat' first|exact Le.l|apply Sw|intro h)
       exact ⟨_,[_,_],_,by omega,⟨x+1,by rw [hxs];simp only [List.map_append,List.append_assoc];rfl,rfl,rfl,by omega⟩,rfl,by simp (maxSteps:=2000000) (disch:=omega) only [go_sem]⟩
      ·have ex:(nmS (dk (at_ (at_ s k).af j).af)).take x=nmS (dk (at_ (at_ s k).af j).af):=List.take_of_length_le (by rw [nmS,List.length_map];omega)
       rw [ex]
       (refine vU ?_;with_reducible repeat' first|exact Le.l|apply Sw|intro h)
       exact ⟨_,[_,_],_,by omega,⟨j+1,by rw [hst];try simp only [List.append_assoc],rfl,rfl,by omega⟩,rfl,by simp (maxSteps:=2000000) (disch:=omega) only [go_sem]⟩
    ·have ej:j=(at_ s k).af.length:=by omega
     subst ej
     (refine vU ?_;with_reducible repeat' first|exact Le.l|apply Sw|intro h)
     rw [iq,hR4];try rfl
   ·rw [dh h,jK] at hR3
    rw [<- hR3] at hR
    (refine vU ?_;with_reducible repeat' first|exact Le.l|apply Sw|intro h)
    exact ⟨_,[_],_,by omega,⟨k+1,rfl,rfl,rfl,by omega,hR⟩,rfl,by simp (maxSteps:=2000000) (disch:=omega) only [go_sem]⟩
  ·rw [dh h,oth] at hR
   (refine vX ?_;with_reducible repeat' first|exact Le.l|apply Sw|intro h)
   refine AW.imp (Imp.dY 4 1 rfl ?_)
   (refine vU ?_;with_reducible repeat' first|exact Le.l|apply Sw|intro h)
   rw [iq,<- hR];try rfl
instance YD(s:List ag)(nm:Str):Ctr lim Tryz.prog 214 [] [.sl false 19 (s.map (ak false)),.str nm] (.tup [.sl true 1 ((iq s nm).map AV.str),.v (.bool (oth s nm).isSome)]) [] (bE s<=1048576):=⟨(aM 214),fun h=>(Jw (SizeOf.sizeOf s+1) s nm).out ⟨Nat.lt_succ_self _,h⟩⟩
end
end Go.Proofs
