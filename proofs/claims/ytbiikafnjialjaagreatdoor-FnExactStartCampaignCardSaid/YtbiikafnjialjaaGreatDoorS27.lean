/- Part of a proof. -/
import Derived.Test.YtbiikafnjialjaaGreatDoorS23
import Derived.Test.YtbiikafnjialjaaGreatDoorS25
set_option linter.all false
open List
namespace Go.Ab
open Go.RowKit (Below)
def nrm(R:Act->World->Prop):Exit->Act->World->Prop:=λe a w=>e=.normal/\R a w
def az(L:gaa)(P:Program)(ops:Array Oper)(fuel:Nat)(listed:Array Bool)(s:AS)(K:AS->Prop):Prop :=
 ∀B F0 w0 a w (R:Act->World->Prop),Den L B F0 w0 s a w->(∀s' a' w',K s'->Den L B F0 w0 s' a' w'->R a' w')->wpAny P .any ops (nrm R) fuel listed a w
section
variable {L : Nat -> Nat} {P : Program} {ops : Array Oper} {n fuel : Nat} {listed : Array Bool} {t : List (Nat × AV)} {os : Sto} {K : AS -> Prop}
def az.fR(live:List Nat)(o0:Sto)(hr:Region.ready .any ops listed=[])(ho:jM o0 os)(h:K ⟨n,fu t live,o0⟩):az L P ops fuel listed ⟨n,t,os⟩ K :=
 λB F0 w0 a w R hd hR=>wpAny_done hr ⟨rfl,hR _ _ _ h (hd.weaken rfl (uM t live) λ_ _ hb=>oR ho hb)⟩ fuel
def fA(L:gaa)(P:Program)(ops:Array Oper)(n fuel:Nat)(listed:Array Bool)(t:faa)(os:Sto)(K:AS->Prop):List Nat->Prop
 | []=>True
 | i::rs=>(match ops[i]? with
  | some o=>(o.guard=none/\dn n o.dst=true)/\nvc L P os t o.dst o.op (λt' os'=>az L P ops fuel (listed.setIfInBounds i true) ⟨n,t',os'⟩ K)
  | none=>False)/\fA L P ops n fuel listed t os K rs
def HU:∀ {rs:List Nat},fA L P ops n fuel listed t os K rs->∀i,i∈rs->∃o,ops[i]? = some o/\o.guard=none/\dn n o.dst=true/\nvc L P os t o.dst o.op (λt' os'=>az L P ops fuel (listed.setIfInBounds i true) ⟨n,t',os'⟩ K)
 | [],_,i,hi=>by simp at hi
 | j::rs,h,i,hi=>by
  simp only[fA]at h;rcases List.mem_cons.1 hi with rfl|hi
  ·have h1:=h.1;split at h1
   ·rename_i o ho;exact⟨o,ho,h1.1.1,h1.1.2,h1.2⟩
   ·exact h1.elim
  ·exact HU h.2 i hi
def az.step(rs:List Nat)(hr:Region.ready .any ops listed=rs)(hne:rs≠[])(h:fA L P ops n fuel listed t os K rs):az L P ops (fuel+1) listed ⟨n,t,os⟩ K:=by
 intro B F0 w0 a w R hd hR;refine wpAny_all hr hne λi hi=>?_;obtain⟨o,ho,hg,pH,hn⟩:=HU h i hi;unfold wpOp;simp only[ho];have hw:Region.wanted o (yielded ops a.tmps)=true:=by simp[Region.wanted,hg]
 rw[if_pos hw];refine .inl (DS pH hn B F0 w0 a w _ _ hd λs' a' w' hs hd'=>?_);obtain⟨hn',hK⟩:=hs;obtain⟨n',t',o'⟩:=s';simp only at hn' hK;subst hn';exact hK B F0 w0 a' w' R hd' hR
def az.sp(fuel:Nat)(rs:List Nat)(h:fA L P ops n fuel listed t os K rs)(hr:Region.ready .any ops listed=rs:=by kernel_rfl)(hne:rs≠[]:=by simp):az L P ops (fuel+1) listed ⟨n,t,os⟩ K:=az.step rs hr hne h
def afq(P:Program)(t:faa):Op->Option (AV×Value)
 | .fieldAddr xt x k=>match ev t x,fld P xt k with
  | .ptr b o,some (off,_,m)=>bif Nat.blt 0 m then some (.ptr b (o+off),.pointer (some ⟨b,o+off,none⟩)) else none
  | _,_=>none
 | .move x=>match ev t x with
  | .v u=>some (.v u,u)
  | _=>none
 | _=>none
end
def AW.any{L:gaa}{P:Program}{ops:Array Oper}{n id:Nat}{t:faa}{os:Sto}{Q:Exit->AS->Prop}(hm:P.follows .mixedOrders=true)
  (h:az L P ops ops.size (Array.replicate ops.size false) ⟨n,t,os⟩ (λs'=>Q .normal s')):AW L P (.region id ops true) ⟨n,t,os⟩ Q:=by
 intro B F0 w0 a w hd;refine wp_mono (wp_region_any (id:=id) hm (h B F0 w0 a _ (λa' w'=>∃s',Q .normal s'/\Den L B F0 w0 s' a' w') hd.drew λs' a' w' h1 h2=>⟨s',h1,h2⟩)) ?_;rintro e a' w' ⟨rfl,h⟩;exact h
def AW.ot{L:gaa}{P:Program}{ops:Array Oper}{n id:Nat}{t:faa}{os:Sto}{Q:Exit->AS->Prop}(t0:faa)(o0:Sto)(hm:P.follows .mixedOrders=true)
  (h:∀K:AS->Prop,K ⟨n,t0,o0⟩->az L P ops ops.size (Array.replicate ops.size false) ⟨n,t,os⟩ K) (h2:Q .normal ⟨n,t0,o0⟩):AW L P (.region id ops true) ⟨n,t,os⟩ Q :=
 AW.any hm (h _ h2)
def HZ(L:gaa)(P:Program)(f:FuncId)(args:List AV)(res:AV):Prop :=
 ∀(w:World) (F:haa) (vs:List Value) (fp:List Nat),(∀b,F b->b<w.heap.size)->au L F w args vs fp->fp.Nodup->(∀b,b∈fp->b<w.heap.size/\¬F b) ->
  Calls P f vs.toArray w λe w'=>∃v F' fp',e=.returned v/\Kp (λb=>b<w.heap.size/\b ∉ fp) w w'/\(∀b,F b->F' b)/\(∀b,F' b->F b\/(w.heap.size<=b/\b<w'.heap.size)) /\
   Rep L F' w' res v fp'/\fp'.Nodup/\∀b,b∈fp'->¬F' b/\(b∈fp\/(w.heap.size<=b/\b<w'.heap.size))
section
variable {L : Nat -> Nat} {P : Program}
def NN{B F0:haa}{w0:World}{F:haa}{own:Nat->Own}{fp fs:Nat->List Nat}{s:AS}{a:Act}{w:World}(h:di L B F0 w0 F own fp fs s a w) :
  ∀xs:List Operand,(kills s.t xs).Nodup->∃f,au L F w (xs.map (ev s.t)) (xs.map a.eval) f/\f.Nodup/\∀b,b∈f->∃i,i∈kills s.t xs/\b∈fp i
 | [],_=>⟨[],by simp[au],Xp,Xp⟩
 | x::xs,hn=>by
  have hsub:(kills s.t xs).Nodup/\(∀i,x=.tmp i->(T s.t i).du=false->i ∉ kills s.t xs)/\∀i,i∈kills s.t xs->i∈kills s.t (x::xs):=by
   cases x with
   | tmp i =>
    simp only[kills]at hn ⊢
    cases ho:(T s.t i).du with
    | true=>rw[ho]at hn;exact⟨hn,λj e hj=>(by cases e;rw[ho]at hj;cases hj),λi hi=>hi⟩
    | false =>
     rw[ho]at hn;have:=List.nodup_cons.1 hn;exact⟨this.2,λj e _=>(by cases e;exact this.1),λi hi=>(by simp[hi])⟩
   | const _=>exact⟨hn,λj e=>(by cases e),λi hi=>hi⟩
   | global _=>exact⟨hn,λj e=>(by cases e),λi hi=>hi⟩
   | func _=>exact⟨hn,λj e=>(by cases e),λi hi=>hi⟩
  obtain⟨f,h1,h2,h3⟩:=NN h xs hsub.1;refine⟨fpo fp x++f,?_,?_,λb hb=>?_⟩
  ·simp only[map_cons,au];exact⟨_,_,fpo fp x,f,rfl,rfl,h.ev x,h1⟩
  ·rw[nodup_append];refine⟨mU h x,h2,λb hb b' hb' e=>?_⟩;subst e;obtain⟨j,hj,hbj⟩:=h3 b hb'
   cases x with
   | tmp i =>
    simp only[fpo]at hb
    cases ho:(T s.t i).du with
    | true=>rw[Rep.eK ho (h.slots i)]at hb;simp at hb
    | false =>
     have e1:=h.so i b hb;rw[h.so j b hbj]at e1;exact hsub.2.1 i rfl ho (by cases e1;exact hj)
   | const _=>simp[fpo]at hb
   | global _=>simp[fpo]at hb
   | func _=>simp[fpo]at hb
  ·rcases List.mem_append.1 hb with hb|hb
   ·exact gY h (xs:=x::xs) Xp b hb
   ·obtain⟨i,hi,hbi⟩:=h3 b hb;exact⟨i,hsub.2.2 i hi,hbi⟩
def SS{s:AS}{o:Oper}{y:Operand}{xs:Array Operand}{ts:Array TypeId}{f:FuncId}{res:AV}(ho:o.op=.call ⟨.value y,xs,ts⟩)(hy:fnA (ev s.t y)=some (f,[]))(he:enters P f=true)
  (hn:(kills s.t xs.toList).Nodup) (hC:HZ L P f (xs.toList.map (ev s.t)) res):LOp L P s o res (kills s.t xs.toList):=by
 intro B F0 w0 F own fp fs a w next Q h bZ
 obtain⟨cvs,hcr,hex⟩:=oM (P:=P) h ho hy rfl he;have hcv:cvs=[]:=by simp only[au]at hcr;exact hcr.1
 subst hcv;rw[append_nil]at hex;unfold Oper.wp;rw[hex];obtain⟨g,h1,h2,h3⟩:=NN h xs.toList hn;refine(hC w F _ g (λb hb=>(h.fl b hb).2.1) h1 h2 λb hb=>?_).mono ?_
 ·obtain⟨i,_,hi⟩:=h3 b hb;exact⟨(h.jl hi).2,h.C9 hi⟩
 rintro e w' ⟨v,F',fp',rfl,k1,k2,k3,k4,k5,k6⟩;refine bZ v w' ⟨k1.mono λb hb=>⟨hb.1,λhm=>hb.2 (h3 b hm)⟩,F',fp',k2,λb hb=>(k3 b hb).imp id .inl,k4,k5,λb hb=>⟨(k6 b hb).1,(k6 b hb).2.imp (h3 b) id⟩⟩
def az.con{ops:Array Oper}{n fuel:Nat}{listed:Array Bool}{t:faa}{os:Sto}{K:AS->Prop}(i:Nat)(hr:Region.ready .any ops listed=[i]){o:Oper}(ho:ops[i]? = some o)(hg:o.guard=none)(hd:dn n o.dst=true)
  {y:Operand} {xs:Array Operand} {ts:Array TypeId} {f:FuncId} {res:AV} (hop:o.op=.call ⟨.value y,xs,ts⟩) (hy:fnA (ev t y)=some (f,[])) (he:enters P f=true) (hn:(kills t xs.toList).Nodup)
  (hC:HZ L P f (xs.toList.map (ev t)) res) (h:az L P ops fuel (listed.setIfInBounds i true) ⟨n,put (killL t (kills t xs.toList)) o.dst res,os⟩ K):az L P ops (fuel+1) listed ⟨n,t,os⟩ K:=by
 intro B F0 w0 a w R cH hR;refine wpAny_all hr Xp λj hj=>?_;rw[mem_singleton]at hj;subst hj;unfold wpOp;simp only[ho];have hw:Region.wanted o (yielded ops a.tmps)=true:=by simp[Region.wanted,hg]
 rw[if_pos hw];refine .inl ((SS (s:=⟨n,t,os⟩) hop hy he hn hC).opW hd (K:=λs'=>s'=⟨n,put (killL t (kills t xs.toList)) o.dst res,os⟩) rfl B F0 w0 a w _ _ cH λs' a' w' hs hd'=>?_);subst hs;exact h B F0 w0 a' w' R hd' hR
def az.qE{ops:Array Oper}{n fuel:Nat}{listed:Array Bool}{t:faa}{os:Sto}{K:AS->Prop}(i:Nat)(hr:Region.ready .any ops listed=[i])
  (h:match ops[i]? with
   | some o=>(o.guard=none/\dn n o.dst=true)/\(match o.op with
    | .call c=>match c.callee,c.args.toList with
     | .value y,xs=>match fnA (ev t y)with
      | some (f,[])=>(kills t xs).Nodup/\enters P f=true/\∃res,HZ L P f (xs.map (ev t)) res/\az L P ops fuel (listed.setIfInBounds i true) ⟨n,put (killL t (kills t xs)) o.dst res,os⟩ K
      | _=>False
     | _,_=>False
    | _=>False)
   | none=>False):az L P ops (fuel+1) listed ⟨n,t,os⟩ K:=by
 split at h
 ·rename_i o ho;obtain⟨⟨hg,hd⟩,h⟩:=h;split at h
  ·rename_i c hop;obtain⟨callee,args,ts⟩:=c
   cases callee with
   | value y =>
    simp only at h;split at h
    ·rename_i f hy;obtain⟨hn,he,res,hC,h⟩:=h;exact az.con i hr ho hg hd hop hy he hn hC h
    ·exact h.elim
   | _=>exact h.elim
  ·exact h.elim
 ·exact h.elim
def LA.con{f:FuncId}{sz bytes i:Nat}{l:List AV}{x:AV}(hf:LA P f sz bytes)(hel:∀y,y∈l->y.elem sz=true)(hone:(l.flatMap AV.cells).all AV.one=true)(hxe:x.elem sz=true)(hxo:x.cells.all AV.one=true)
  (hi:i<=l.length) (qA:(l.length+1) * bytes<=140737488355328) (hL:l.length+1<=L sz):HZ L P f [.sl true sz l,.v (.int .i64 i),.sl true sz [x]] (.sl true sz (l.take i++(x::l.drop i))):=by
 intro w F vs fp hF hr hnd hfp;simp only[au]at hr;obtain⟨y1,_,f1,_,rfl,rfl,r1,y2,_,f2,_,rfl,rfl,r2,y3,_,f3,_,rfl,rfl,r3,rfl,rfl⟩:=hr;simp only[Rep]at r2;obtain⟨rfl,rfl⟩:=r2;simp only[nil_append,append_nil]at hnd hfp ⊢;simp only[Rep]at r3;rcases r3 with⟨_,e,_⟩|⟨vb,ae2,WK,xv,g3,rfl,hc3,_,YO,hE3,YQ⟩
 ·cases e
 rcases YQ with⟨_,rfl,rfl,cx,Tx,hcx,We⟩|⟨e,_⟩
 rotate_left
 ·cases e
 rw[Nat.zero_add]at We;have abI:∀y,y∈[x]->y.elem sz=true:=λy hy=>by rw[List.mem_singleton.1 hy];exact hxe
 have hXL:=bY.flat abI hE3;simp only[flatMap_cons,flatMap_nil,append_nil]at hXL;have ae4:xv.length=1 * sz:=by rw[hE3.len];rfl
 have KQ:cx.toList.take (1 * sz)=xv:=by
  obtain⟨c0,T0,z0,h0,h1⟩:=YO;rw[hcx]at h0;cases h0;apply ext_getElem?;intro j;by_cases hj:j<xv.length
  ·rw[getElem?_take_of_lt Um,Array.getElem?_toList];have:=h1 j hj
   rwa [Nat.zero_add]at this
  ·rw[getElem?_eq_none (by rw[length_take];omega),getElem?_eq_none Um]
 have hxs:1 * sz<=cx.size:=Nat.le_trans (Nat.mul_le_mul_right _ hc3) We
 have hx1:∀(k:Nat) (v:Value),k<1 * sz->cx[k]? = some v->v.oneCell'=true:=λk v hk hv=>by
  refine hXL.ones hxo v (mem_of_getElem? (i:=k) ?_);rw[<- KQ,getElem?_take_of_lt hk,Array.getElem?_toList];exact hv
 have hvw:vb<w.heap.size:=(hfp vb Xp).1
 have fin:∀(b:Option Nat) (os:List Value) (g:List Nat) (e:Ending) (w':World),au L F w (l.flatMap AV.cells) os g->os.length=l.length * sz->(∀k,k∈g->k∈f1)->g.Nodup->(∀k,some k=b->k∈f1/\k ∉ g)->j7 w b sz (l.length+1) (os.take (i * sz)++(xv++os.drop (i * sz))) e w' ->
   ∃v F' fp',e=.returned v/\Kp (λb=>b<w.heap.size/\b ∉ f1++vb::g3) w w'/\(∀b,F b->F' b)/\(∀b,F' b->F b\/(w.heap.size<=b/\b<w'.heap.size))/\Rep L F' w' (.sl true sz (l.take i++(x::l.drop i))) v fp'/\fp'.Nodup/\∀b,b∈fp'->¬F' b/\(b∈f1++vb::g3\/(w.heap.size<=b/\b<w'.heap.size)):=by
  rintro b os g e w' hO hol hgf hgn hb ⟨b',cap',c',Ty',rfl,hcap,hat,hcs,hor,hrow,hos,htp,hout,cV⟩;have lV:l.flatMap AV.cells=(l.take i).flatMap AV.cells++(l.drop i).flatMap AV.cells:=by rw[<- flatMap_append,take_append_drop]
  rw[lV]at hO;obtain⟨v1,v2,g1,g2,rfl,rfl,q1,q2⟩:=hO.split;have C2:∀y,y∈l.take i->y.elem sz=true:=λy hy=>hel y (mem_of_mem_take hy)
  have qz:∀y,y∈l.drop i->y.elem sz=true:=λy hy=>hel y (mem_of_mem_drop hy)
  have n1:v1.length=i * sz:=by rw[q1.len,dw C2,length_take,Nat.min_eq_left hi]
  rw[<- n1,take_left,drop_left]at hrow
  have hbS:∀k,F k->F k/\(k<w.heap.size/\some k≠b):=λk hk=>⟨hk,hF k hk,λe=>(hfp k (by simp[(hb k e).1])).2 hk⟩
  have hgS:∀k,k∈g1++g2->k<w.heap.size/\some k≠b:=λk hk=>⟨(hfp k (by simp[hgf k hk])).1,λe=>(hb k e).2 hk⟩
  have Ae:=List.nodup_append.1 hnd
  have V9:∀k,k∈g3->k<w.heap.size/\some k≠b:=λk hk=>⟨(hfp k (by simp[hk])).1,λe=>Ae.2.2 k (hb k e).1 k (by simp[hk]) rfl⟩
  have p1:=au.ext cV hbS (λk hk=>hgS k (by simp[hk])) q1
  have p2:=au.ext cV hbS (λk hk=>hgS k (by simp[hk])) q2
  have p3:=au.ext cV hbS V9 hXL
  have ab6:(g1++(g3++g2)).Nodup:=by
   have hn3:=List.nodup_cons.1 Ae.2.1
   have hg:=List.nodup_append.1 hgn;rw[nodup_append,nodup_append];refine⟨hg.1,⟨hn3.2,hg.2.1,λa ha a' ha' e=>?_⟩,λa ha a' ha' e=>?_⟩
   ·subst e;exact Ae.2.2 a (hgf a (by simp[ha'])) a (by simp[ha]) rfl
   ·subst e;rcases List.mem_append.1 ha' with h|h
    ·exact Ae.2.2 a (hgf a (by simp[ha])) a (by simp[h]) rfl
    ·exact hg.2.2 a ha a h rfl
  have K1:∀k,k∈g1++(g3++g2)->k∈f1++vb::g3/\k<w.heap.size/\some k≠b:=λk hk=>by
   rcases List.mem_append.1 hk with h|h
   ·exact⟨by simp[hgf k (by simp[h])],hgS k (by simp[h])⟩
   ·rcases List.mem_append.1 h with h|h
    ·exact⟨by simp[h],V9 k h⟩
    ·exact⟨by simp[hgf k (by simp[h])],hgS k (by simp[h])⟩
  have ace:b' ∉ g1++(g3++g2):=λhm=>by
   have:=K1 b' hm;rcases hor with e|e
   ·exact this.2.2 e
   ·omega
  have hlen:(l.take i++(x::l.drop i)).length=l.length+1:=by
   rw[length_append,length_cons,length_take,length_drop];omega
  have acf:¬F b'/\(b'∈f1++vb::g3\/(w.heap.size<=b'/\b'<w'.heap.size)):=by
   rcases hor with e|e
   ·have:=(hb b' e).1;exact⟨(hfp b' (by simp[this])).2,.inl (by simp[this])⟩
   ·exact⟨λh=>by have:=hF b' h;omega,.inr ⟨e,(Array.getElem?_eq_some_iff.1 hat).1⟩⟩
  refine⟨_,F,b'::(g1++(g3++g2)),rfl,⟨hos,htp,hout,cV.size,λk hk=>cV.same k ⟨hk.1,λe=>hk.2 (by simp[(hb k e).1])⟩,cV.shape⟩,λ_ h=>h,λ_ h=>.inl h,?_,List.nodup_cons.2 ⟨ace,ab6⟩,λk hk=>?_⟩
  ·simp only[Rep];refine .inr ⟨b',0,cap',v1++(xv++v2),g1++(g3++g2),by rw[hlen],by rw[hlen];exact hcap,by rw[hlen];exact hL,⟨c',Ty',_,hat,λk hk=>by rw[Nat.zero_add];exact hrow k hk⟩,au.nM (λy hy=>?_) ?_,.inl ⟨by trivial,rfl,rfl,c',Ty',hat,by rw[Nat.zero_add];exact hcs⟩⟩
   ·rcases List.mem_append.1 hy with h|h
    ·exact C2 y h
    ·rcases List.mem_cons.1 h with rfl|h
     ·exact hxe
     ·exact qz y h
   ·rw[flatMap_append,flatMap_cons];exact p1.join (p3.join p2)
  ·rcases List.mem_cons.1 hk with rfl|hk
   ·exact acf
   ·exact⟨(hfp k (K1 k hk).1).2,.inl (K1 k hk).1⟩
 simp only[Rep]at r1;rcases r1 with⟨rfl|⟨e,_⟩,rfl,rfl⟩|⟨b,off,cap,vals,g,rfl,hnc,_,hrow,hE,hown⟩
 ·have hi0:i=0:=by simpa using hi
  subst hi0;refine(hf.2 w vb WK cx Tx hcx hxs hx1).mono λe w' hp=>?_;rw[KQ]at hp;exact fin none [] [] e w' (by simp[au]) Xp Xp Xp (λk e=>by cases e) (by simpa using hp)
 ·cases e
 ·rcases hown with⟨_,rfl,rfl,c,Ty,hc,hcs⟩|⟨e,_⟩
  rotate_left
  ·cases e
  rw[Nat.zero_add]at hcs;have hOL:=bY.flat hel hE
  have hol:vals.length=l.length * sz:=hE.len
  have Rj:c.toList.take (l.length * sz)=vals:=by
   obtain⟨c0,T0,z0,h0,h1⟩:=hrow;rw[hc]at h0;cases h0;apply ext_getElem?;intro j;by_cases hj:j<vals.length
   ·rw[getElem?_take_of_lt Um,Array.getElem?_toList];have:=h1 j hj
    rwa [Nat.zero_add]at this
   ·rw[getElem?_eq_none (by rw[length_take];omega),getElem?_eq_none Um]
  have Ae:=List.nodup_append.1 hnd
  have hbg:=List.nodup_cons.1 Ae.1
  have ho1:∀(k:Nat) (v:Value),k<l.length * sz->c[k]? = some v->v.oneCell'=true:=λk v hk hv=>by
   refine hOL.ones hone v (mem_of_getElem? (i:=k) ?_);rw[<- Rj,getElem?_take_of_lt hk,Array.getElem?_toList];exact hv
  have hvb:vb≠b:=λe=>Ae.2.2 b Xp vb Xp e.symm;refine(hf.1 w b l.length cap i vb WK c cx Ty Tx hcx hxs hx1 hc hnc hcs ho1 hvb hi qA).mono λe w' hp=>?_;rw[KQ,Rj]at hp;exact fin (some b) vals g e w' hOL hol (λk hk=>by simp[hk]) hbg.2 (λk e=>by cases e;exact⟨Xp,hbg.1⟩) hp
end
section
variable {L : Nat -> Nat} {P : Program} {ops : Array Oper} {n : Nat} {K : AS -> Prop}
def aaR(n f:Nat)(l:Array Bool)(Inv:Nat->Array Bool->AS->Prop)(t:faa)(os:Sto):Prop:=∃live o0,jM o0 os/\Inv f l ⟨n,fu t live,o0⟩
def allI(L:gaa)(P:Program)(ops:Array Oper)(n f:Nat)(l:Array Bool)(t:faa)(os:Sto)(Inv:Nat->Array Bool->AS->Prop):List Nat->Prop
 | []=>True
 | i::rs=>(match ops[i]? with
  | some o=>(o.guard=none/\dn n o.dst=true)/\nvc L P os t o.dst o.op (λt' os'=>aaR n f (l.setIfInBounds i true) Inv t' os')
  | none=>False)/\allI L P ops n f l t os Inv rs
end
def AW.cut{L:gaa}{P:Program}{n:Nat}{t:faa}{os:Sto}{Q:Exit->AS->Prop}{c:Code}(live:List Nat)(t0:faa)(o0:Sto)
  (h1:AW L P c ⟨n,t,os⟩ (λe s'=>e=.normal/\s'.n=n/\fu s'.t live=t0/\jM o0 s'.o)) (h2:Q .normal ⟨n,t0,o0⟩):AW L P c ⟨n,t,os⟩ Q:=by
 refine AW.post (h1.mono ?_);rintro e ⟨n',t',o'⟩ ⟨rfl,hn,hT,ho⟩;simp only at hn hT ho;subst hn hT;exact Imp.weak h2 (uM t' live) λ_ _ hb=>oR ho hb
section
variable {L : Nat -> Nat} {P : Program} {ops : Array Oper} {n fuel : Nat} {listed : Array Bool} {t : List (Nat × AV)} {os : Sto} {K : AS -> Prop}
def az.QW(i:Nat){oi:Oper}{x:AV}{u:Value}(hi:ops[i]? = some oi)(hs:Region.noSelect ops=true)(hf:Region.free .any ops listed i=true)(hr:(Region.ready .any ops listed).contains i=true)
  (hg:oi.guard=none) (hd:dn n oi.dst=true)
  (hx:∀B F0 w0 F own fp fs a w,di L B F0 w0 F own fp fs ⟨n,t,os⟩ a w->∀w':World,(execOp a.eval oi).run P w'=.ok (.value u) w')
  (ig:∀F' w',Rep L F' w' x u [])
  (h:az L P ops fuel (listed.setIfInBounds i true) ⟨n,put t oi.dst x,os⟩ K):az L P ops (fuel+1) listed ⟨n,t,os⟩ K:=by
 intro B F0 w0 a w R cH hR;have hw:Region.wanted oi (yielded ops a.tmps)=true:=by simp[Region.wanted,hg]
 obtain⟨F,own,fp,fs,hD⟩:=cH;refine wpAny_take hi hs hf hr (λc a w h=>by cases h.1) (.inl ⟨hw,hx _ _ _ _ _ _ _ _ _ hD⟩) ?_;refine h B F0 w0 _ w R ?_ hR;have:=hD.put (x:=x) (v:=u) (fx:=[]) [] oi.dst hd (w':=w) (F':=F) (Kp.refl _ _) (λ_ h=>h) (λb h=>.inl h) (ig F w) Xp Xp;simpa[killL]using this
end
section
variable {L : Nat -> Nat} {P : Program} {ops : Array Oper} {n fuel : Nat} {listed : Array Bool} {t : List (Nat × AV)} {os : Sto} {K : AS -> Prop}
def az.mvN(i:Nat)(hs:Region.noSelect ops=true)(hf:Region.free .any ops listed i=true)(hr:(Region.ready .any ops listed).contains i=true)
  (h:match ops[i]? with
   | some oi=>(oi.guard=none/\dn n oi.dst=true)/\(match oi.op with
    | .move y=>(ev t y).du=true/\az L P ops fuel (listed.setIfInBounds i true) ⟨n,put t oi.dst (ev t y),os⟩ K
    | _=>False)
   | none=>False):az L P ops (fuel+1) listed ⟨n,t,os⟩ K:=by
 split at h
 ·rename_i oi hi;obtain⟨⟨hg,hd⟩,h⟩:=h;split at h
  ·rename_i y hop;obtain⟨hno,h⟩:=h;intro B F0 w0 a w R cH hR;have hw:Region.wanted oi (yielded ops a.tmps)=true:=by simp[Region.wanted,hg]
   obtain⟨F,own,fp,fs,hD⟩:=cH;have hrp:=hD.ev y
   have hfp:fpo fp y=[]:=by
    exact Rep.eK hno hrp
   rw[hfp]at hrp;refine wpAny_take (v:=a.eval y) (a:=a) (w:=w) hi hs hf hr (λc a w h=>by cases h.1) (.inl ⟨hw,λw'=>by simp[execOp,hop]⟩) ?_;refine h B F0 w0 _ w R ?_ hR;have:=hD.put (x:=ev t y) (v:=a.eval y) (fx:=[]) [] oi.dst hd (w':=w) (F':=F) (Kp.refl _ _) (λ_ h=>h) (λb h=>.inl h) hrp Xp Xp;simpa[killL]using this
  ·exact h.elim
 ·exact h.elim
end
end Go.Ab
namespace Go.Dt
section
variable {α : Type}
def Srt(lt:α->α->Bool)(l:List α):Prop:=l.Pairwise λx y=>lt y x=false
structure Orr(lt:α->α->Bool):Prop where
 HL:∀x y,lt x y=true->lt y x=false
 trn:∀x y z,lt y x=false->lt z y=false->lt z x=false
variable {lt : α -> α -> Bool}
def Srt.app{A B:List α}(ha:Srt lt A)(hb:Srt lt B)(h:∀u∈A,∀v∈B,lt v u=false):Srt lt (A++B):=List.pairwise_append.2 ⟨ha,hb,h⟩
def Srt.l{A B:List α}(h:Srt lt (A++B)):Srt lt A:=(List.pairwise_append.1 h).1
def Srt.r{A B:List α}(h:Srt lt (A++B)):Srt lt B:=(List.pairwise_append.1 h).2.1
def Srt.c{A B:List α}(h:Srt lt (A++B)):∀u∈A,∀v∈B,lt v u=false:=(List.pairwise_append.1 h).2.2
def Srt.one(x:α):Srt lt [x]:=pairwise_singleton _ _
def Srt.nil:Srt lt ([]:List α):=List.Pairwise.nil
def Part(lt:α->α->Bool)(a b:Nat)(l l':List α):Prop :=
 ∃A X Z C,l=A++(X++C)/\l'=A++(Z++C)/\A.length=a/\A.length+X.length=b/\Z.Perm X/\Srt lt Z
def Part.perm{a b:Nat}{l l':List α}(h:Part lt a b l l'):l'.Perm l:=by obtain⟨A,X,Z,C,rfl,rfl,_,_,h,_⟩:=h;exact(h.append_right C).append_left A
def Part.len{a b:Nat}{l l':List α}(h:Part lt a b l l'):l'.length=l.length:=h.perm.length_eq
def WD{l:List α}{a b:Nat}(h1:a<=b)(h2:b<=l.length):∃A X C,l=A++(X++C)/\A.length=a/\A.length+X.length=b:=by refine⟨l.take a,(l.drop a).take (b - a),(l.drop a).drop (b - a),by rw[take_append_drop,take_append_drop],by rw[length_take];omega,?_⟩;rw[length_take,length_take,length_drop];omega
def Qw{l:List α}{a m b:Nat}(h1:a<=m)(h2:m<=b)(h3:b<=l.length):∃A X Y C,l=A++(X++(Y++C))/\A.length=a/\A.length+X.length=m/\A.length+X.length+Y.length=b:=by obtain⟨A,X,C,rfl,h4,h5⟩:=WD h1 (Nat.le_trans h2 h3);refine⟨A,X,C.take (b - m),C.drop (b - m),by rw[take_append_drop],h4,h5,?_⟩;simp only[length_append]at h3;rw[length_take];omega
def J0{A B C D:List α}(h:A++B=C++D)(hl:A.length=C.length):A=C/\B=D:=append_inj h hl
def gL(lt:α->α->Bool)(a b:Nat)(l:List α):Prop:=Srt lt ((l.take b).drop a)
def jV{A X C:List α}{a b:Nat}(h1:A.length=a)(h2:A.length+X.length=b):gL lt a b (A++(X++C))↔Srt lt X:=by unfold gL;subst h1;subst h2;rw[<- append_assoc,take_left' Xp,drop_left]
def Part.srt{a b:Nat}{l l':List α}(h:Part lt a b l l'):gL lt a b l':=by obtain⟨A,X,Z,C,rfl,rfl,h1,h2,hp,hs⟩:=h;exact(jV h1 (by rw[hp.length_eq];exact h2)).2 hs
def Part.mid{A X C l':List α}{a b:Nat}(h:Part lt a b (A++(X++C)) l')(h1:A.length=a)(h2:A.length+X.length=b):∃Z,l'=A++(Z++C)/\Z.Perm X/\Srt lt Z:=by obtain⟨A',X',Z,C',e,rfl,h3,h4,hp,hs⟩:=h;obtain⟨rfl,e2⟩:=J0 e Um;obtain⟨rfl,rfl⟩:=J0 e2 Um;exact⟨Z,rfl,hp,hs⟩
def OI{X:List α}{i:Nat}(h:i<X.length):∃P x S,X=P++(x::S)/\P.length=i :=
 ⟨X.take i,X[i],X.drop (i+1),by rw[<- drop_eq_getElem_cons h,take_append_drop],by rw[length_take];omega⟩
def LV{X:List α}(h:0<X.length):∃P x,X=P++[x]:=by
 obtain⟨P,x,S,rfl,hP⟩:=OI (X:=X) (i:=X.length - 1) Um
 have:S=[]:=by
  simp only[length_append,length_cons]at hP;exact List.length_eq_zero_iff.1 Um
 subst this;exact⟨P,x,rfl⟩
def Bf(X:List α):X=[]\/∃P x,X=P++[x]:=by
 rcases Nat.eq_zero_or_pos X.length with h|h
 ·exact .inl (List.length_eq_zero_iff.1 h)
 ·exact .inr (LV h)
def GD(ho:Orr lt){S1 S2:List α}{x:α}(hs:Srt lt (S1++S2))(h2:∀y∈S2,lt x y=true)(h1:∀y∈S1.getLast?,lt x y=false):Srt lt (S1++(x::S2)):=by
 refine Srt.app hs.l ?_ ?_
 ·exact List.pairwise_cons.2 ⟨λy hy=>ho.HL _ _ (h2 y hy),hs.r⟩
 ·intro u hu v hv;rcases List.mem_cons.1 hv with rfl|hv
  ·rcases eq_nil_or_concat S1 with rfl|⟨P,z,e⟩
   ·simp at hu
   ·have e':S1=P++[z]:=by rw[e];simp
    subst e';have hz:lt v z=false:=h1 z Xp;rcases List.mem_append.1 hu with hu|hu
    ·exact ho.trn u z v (hs.l.c u hu z Xp) hz
    ·rw[List.mem_singleton.1 hu];exact hz
  ·exact hs.c u hu v hv
def Sa(ho:Orr lt){x:α}{Y1 Y2:List α}(hs:Srt lt (Y1++Y2))(h1:∀y∈Y1,lt y x=true)(h2:∀y∈Y2,lt y x=false):Srt lt (Y1++(x::Y2)):=by
 refine Srt.app hs.l (List.pairwise_cons.2 ⟨λy hy=>h2 y hy,hs.r⟩) ?_;intro u hu v hv;rcases List.mem_cons.1 hv with rfl|hv
 ·exact ho.HL _ _ (h1 u hu)
 ·exact hs.c u hu v hv
def R9(ho:Orr lt){y:α}{X1 X2:List α}(hs:Srt lt (X1++X2))(h1:∀x∈X1,lt y x=false)(h2:∀x∈X2,lt y x=true):Srt lt (X1++(y::X2)):=by
 refine Srt.app hs.l (List.pairwise_cons.2 ⟨λx hx=>ho.HL _ _ (h2 x hx),hs.r⟩) ?_;intro u hu v hv;rcases List.mem_cons.1 hv with rfl|hv
 ·exact h1 u hu
 ·exact hs.c u hu v hv
def LK(ho:Orr lt){X1 X2 Y1 Y2:List α}(hx:Srt lt (X1++X2))(hy:Srt lt (Y1++Y2))
  (h1:∀x∈X1.getLast?,∀y∈Y2.head?,lt y x=false) (h2:∀y∈Y1.getLast?,∀x∈X2.head?,lt y x=true) :
  ∀u∈X1++Y1,∀v∈X2++Y2,lt v u=false:=by
 have last:∀(A:List α),Srt lt A->∀u∈A,∃z∈A.getLast?,(u=z\/lt z u=false):=by
  intro A hA u hu;rcases eq_nil_or_concat A with rfl|⟨P,z,e⟩
  ·simp at hu
  ·have e':A=P++[z]:=by rw[e];simp
   subst e';refine⟨z,Xp,?_⟩;rcases List.mem_append.1 hu with hu|hu
   ·exact .inr (hA.c u hu z Xp)
   ·exact .inl (List.mem_singleton.1 hu)
 have first:∀(A:List α),Srt lt A->∀u∈A,∃z∈A.head?,(u=z\/lt u z=false):=by
  intro A hA u hu
  cases A with
  | nil=>simp at hu
  | cons z P =>
   refine⟨z,Xp,?_⟩;rcases List.mem_cons.1 hu with rfl|hu
   ·exact .inl rfl
   ·exact .inr ((List.pairwise_cons.1 hA).1 u hu)
 have chain:∀ {u z z' v:α},(u=z\/lt z u=false)->lt z' z=false->(v=z'\/lt v z'=false)->lt v u=false:=by
  intro u z z' v a b c;have e1:lt z' u=false:=by rcases a with rfl|a;exact b;exact ho.trn _ _ _ a b
  rcases c with rfl|c;exact e1;exact ho.trn _ _ _ e1 c
 intro u hu v hv;rcases List.mem_append.1 hu with hu|hu<;>rcases List.mem_append.1 hv with hv|hv
 ·exact hx.c u hu v hv
 ·obtain⟨z,hz,a⟩:=last _ hx.l u hu;obtain⟨z',hz',b⟩:=first _ hy.r v hv
  exact chain a (h1 z hz z' hz') b
 ·obtain⟨z,hz,a⟩:=last _ hy.l u hu;obtain⟨z',hz',b⟩:=first _ hx.r v hv
  exact chain a (ho.HL _ _ (h2 z hz z' hz')) b
 ·exact hy.c u hu v hv
theorem Be [Inhabited α]{Y:List α}(hs:Srt lt Y){i j:Nat}(h:i<j)(hj:j<Y.length):lt (Ab.at_ Y j) (Ab.at_ Y i)=false:=by
 have:=List.pairwise_iff_getElem.1 hs i j Um hj h
 have e:∀(k:Nat) (hk:k<Y.length),Ab.at_ Y k=Y[k]:=λk hk=>by unfold Ab.at_;rw[getElem?_eq_getElem hk];rfl
 rw[e i Um,e j hj];exact this
theorem acF(ho:Orr lt)[Inhabited α]{Y:List α}(hs:Srt lt Y){x:α}{h t:Nat}(hh:h<Y.length)(h1:lt (Ab.at_ Y h) x=true)(ht:t<=h):lt (Ab.at_ Y t) x=true:=by
 rcases Nat.lt_or_ge t h with q|q
 ·cases e:lt (Ab.at_ Y t) x with
  | true=>rfl
  | false=>rw[ho.trn _ _ _ e (Be hs q hh)]at h1;cases h1
 ·rw[show t=h by omega];exact h1
theorem acE(ho:Orr lt)[Inhabited α]{Y:List α}(hs:Srt lt Y){x:α}{h t:Nat}(ht:t<Y.length)(h1:lt (Ab.at_ Y h) x=false)(hh:h<=t):lt (Ab.at_ Y t) x=false:=by
 rcases Nat.lt_or_ge h t with q|q
 ·exact ho.trn _ _ _ h1 (Be hs q ht)
 ·rw[show t=h by omega];exact h1
theorem acD(ho:Orr lt)[Inhabited α]{X:List α}(hs:Srt lt X){y:α}{h t:Nat}(hh:h<X.length)(h1:lt y (Ab.at_ X h)=false)(ht:t<=h):lt y (Ab.at_ X t)=false:=by
 rcases Nat.lt_or_ge t h with q|q
 ·exact ho.trn _ _ _ (Be hs q hh) h1
 ·rw[show t=h by omega];exact h1
theorem acC(ho:Orr lt)[Inhabited α]{X:List α}(hs:Srt lt X){y:α}{h t:Nat}(ht:t<X.length)(h1:lt y (Ab.at_ X h)=true)(hh:h<=t):lt y (Ab.at_ X t)=true:=by
 rcases Nat.lt_or_ge h t with q|q
 ·cases e:lt y (Ab.at_ X t)with
  | true=>rfl
  | false=>rw[ho.trn _ _ _ (Be hs q ht) e]at h1;cases h1
 ·rw[show t=h by omega];exact h1
theorem zh [Inhabited α]{Y:List α}{k:Nat}{y:α}(h:y∈Y.take k):∃t,t<k/\t<Y.length/\y=Ab.at_ Y t:=by obtain⟨t,ht,rfl⟩:=getElem_of_mem h;rw[length_take]at ht;refine⟨t,Um,Um,?_⟩;rw[getElem_take];unfold Ab.at_;rw[getElem?_eq_getElem Um];rfl
theorem zi [Inhabited α]{Y:List α}{k:Nat}{y:α}(h:y∈Y.drop k):∃t,k<=t/\t<Y.length/\y=Ab.at_ Y t:=by obtain⟨t,ht,rfl⟩:=getElem_of_mem h;rw[length_drop]at ht;refine⟨k+t,Um,Um,?_⟩;rw[getElem_drop];unfold Ab.at_;rw[getElem?_eq_getElem Um];rfl
theorem oN [Inhabited α]{A B:List α}{i:Nat}(h:A.length<=i):Ab.at_ (A++B) i=Ab.at_ B (i - A.length):=by unfold Ab.at_;rw[getElem?_append_right h]
theorem yT [Inhabited α]{A B:List α}{i:Nat}(h:i<A.length):Ab.at_ (A++B) i=Ab.at_ A i:=by unfold Ab.at_;rw[getElem?_append_left h]
theorem DX [Inhabited α]{X:List α}{k:Nat}{x:α}(h:x∈(X.take k).getLast?)(hk:k<=X.length):0<k/\x=Ab.at_ X (k - 1):=by
 cases k with
 | zero=>simp at h
 | succ k =>
  refine⟨Um,?_⟩;rw[getLast?_take,if_neg Um]at h;have hk':k<X.length:=by omega
  simp only[Nat.add_sub_cancel,getElem?_eq_getElem hk']at h;unfold Ab.at_;rw[Nat.add_sub_cancel,getElem?_eq_getElem hk'];simpa using h.symm
theorem zo [Inhabited α]{X:List α}{k:Nat}{x:α}(h:x∈(X.drop k).head?):k<X.length/\x=Ab.at_ X k:=by rw[head?_drop]at h;obtain⟨hk,e⟩:=List.getElem?_eq_some_iff.1 h;exact⟨hk,by unfold Ab.at_;rw[h];rfl⟩
def H5{β:Type}(f:α->β):∀ {l' m:List β},l'.Perm m->∀ {l:List α},m=l.map f->∃k:List α,k.Perm l/\l'=k.map f:=by
 intro l' m h
 induction h with
 | nil=>intro l e;cases l with
  | nil=>exact⟨[],.refl _,rfl⟩
  | cons x l=>simp at e
 | cons x _ ih=>intro l e;cases l with
  | nil=>simp at e
  | cons y l =>
   simp only[map_cons,List.cons.injEq]at e;obtain⟨k,hk,e2⟩:=ih e.2;exact⟨y::k,hk.cons y,by rw[map_cons,e2,e.1]⟩
 | swap x y l0=>intro l e;match l,e with
  | a::b::l,e =>
   simp only[map_cons,List.cons.injEq]at e;exact⟨b::a::l,List.Perm.swap a b l,by simp only[map_cons,e.1,e.2.1,e.2.2]⟩
 | trans _ _ ih1 ih2 =>
  intro l e;obtain⟨k,hk,e2⟩:=ih2 e;obtain⟨k',hk',e3⟩:=ih1 e2;exact⟨k',hk'.trans hk,e3⟩
