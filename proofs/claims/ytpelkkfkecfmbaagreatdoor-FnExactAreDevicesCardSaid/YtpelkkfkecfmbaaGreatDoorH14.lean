/- Part of a proof. -/
import Derived.Deep.Slices
import Derived.Test.YtpelkkfkecfmbaaGreatDoorH6
set_option linter.all false
namespace Go.Dt
open Go.Ab
attribute [go_sem] aM
def WB(n:Nat)(acc:Str):Str:=if h:n=0 then acc else WB (n / 10) (UInt8.ofNat (48+n % 10)::acc)
termination_by n
decreasing_by omega
def mkT(k:Int):Str:=109::(if k<=0 then [48] else WB k.toNat [])
def mks:Nat->Int->List Str
 | 0,_=>[]
 | n+1,k=>mkT k::mks n (k+1)
def mkd(l:List Str)(k:Int)(i:Nat):List Str:=mks i k++l.drop i
end Go.Dt
namespace Go.Ab
open Go.RowKit (Below)
variable {H : Type} {enc : TypeId × Value -> H} {P : Program} {W : World} {L : Nat -> Nat}
def aN{H:Type}(enc:TypeId×Value->H)(P:Program)(W:World)(L:eaa)(n:Nat)(t:TypeId){α:Type}(c:α->List AV)(G:α->Prop):Prop :=
 ∀ m,m<=n->∀ cs x,DataW.trod enc P W 0 (fun _=>true) true m t cs=some x->(∀ k∈x.1.weights P t,k<=reachBytes) ->
  ∃ a,G a/\au L (fun b=>b<W.heap.size) W (c a) cs []
def au.single{F:faa}{w:World}{x:AV}{y:Value}(h:Rep L F w x y []):au L F w [x] [y] []:=by simp only [au];exact ⟨y,[],[],[],rfl,rfl,h,rfl,rfl⟩
def au.one{F:faa}{w:World}{x:AV}{y:Value}(h:au L F w [x] [y] []):Rep L F w x y []:=by simp only [au] at h;obtain ⟨y',vs',f1,f2,e,hf,hy,rfl,rfl⟩:=h;simp at e hf;subst hf;rw [e];exact hy
def aN.zero{t:TypeId}{α:Type}{c:α->List AV}{G:α->Prop}:aN enc P W L 0 t c G:=by
 intro m hm cs x h;obtain rfl:m=0:=by omega
 simp [DataW.trod] at h
def aN.mono{n n':Nat}{t:TypeId}{α:Type}{c:α->List AV}{G:α->Prop}(h:aN enc P W L n t c G)(hn:n'<=n):aN enc P W L n' t c G :=
 fun m hm=>h m Ir
def aN.int{n:Nat}{t:TypeId}{k:IntKind}(ht:P.underlying t=some (.int k)):aN enc P W L n t (fun i:Int=>[.v (.int k i)]) (fun i=>(Lit.int k i).wf=true):=by intro m hm cs x hx hw;obtain ⟨i,rfl,rfl,hi⟩:=DataW.trod_int ht hx;exact ⟨i,hi,au.single (by simp [Rep])⟩
def aN.bool{n:Nat}{t:TypeId}(ht:P.underlying t=some .bool):aN enc P W L n t (fun i:Bool=>[.v (.bool i)]) (fun _=>True):=by intro m hm cs x hx hw;obtain ⟨i,rfl,rfl⟩:=DataW.trod_bool ht hx;exact ⟨i,trivial,au.single (by simp [Rep])⟩
def aN.str{n:Nat}{t:TypeId}(ht:P.underlying t=some .string):aN enc P W L n t (fun s:List UInt8=>[.str s]) (fun s=>s.length<=reachBytes):=by intro m hm cs x hx hw;obtain ⟨s,rfl,rfl,_⟩:=DataW.trod_string ht hx;have:=hw s.data.toList.length (by simp [DataW.weights]);refine ⟨s.data.toList,this,?_⟩;simp only [au];refine ⟨_,[],[],[],rfl,rfl,?_,rfl,rfl⟩;simp only [Rep];exact ⟨QC,by have:=reachBytes_lt;omega,trivial⟩
def fe(L:eaa)(W:World){α:Type}(c:α->List AV)(e:α->AV)(sz:Nat):Prop :=
 ∀ a cs,au L (fun b=>b<W.heap.size) W (c a) cs []->∃ y:Value,y.cells.toList=cs/\y.cells.size=sz/\Rep L (fun b=>b<W.heap.size) W (e a) y []
def fe.agg{α:Type}{c:α->List AV}{sz:Nat}(hs:∀ a,(c a).length=sz):fe L W c (fun a=>.agg (c a)) sz:=by intro a cs h;have:=h.len;exact ⟨.agg cs.toArray,by simp [Value.cells],by simp [Value.cells,this,hs],by simp only [Rep];exact ⟨cs,rfl,h⟩⟩
def fe.one{α:Type}{e:α->AV}(hc:∀ a y,Rep L (fun b=>b<W.heap.size) W (e a) y []->y.cells=#[y]):fe L W (fun a=>[e a]) e 1:=by intro a cs h;simp only [au] at h;obtain ⟨y,vs',f1,f2,rfl,hf,hy,rfl,rfl⟩:=h;simp at hf;subst hf;exact ⟨y,by rw [hc a y hy],by rw [hc a y hy];rfl,hy⟩
def fe.str:fe L W (fun s:List UInt8=>[.str s]) AV.str 1:=fe.one fun a y h=>by
 simp only [Rep] at h;rw [h.1];rfl
def yP{w:World}{a:Addr}{v:Value}(h:w.cell? a=some v):∃ c T z,w.heap[a.block]? = some (.cells c T z)/\c[a.off]? = some v:=by
 unfold World.cell? at h;split at h
 ·split at h
  ·simp at h
  ·rename_i hs;exact ⟨_,_,_,‹_›,by simpa using h⟩
 ·simp at h
def tz{H:Type}{P:Program}{e:TypeId}{d:DataW H}:∀ {l:List (DataW H)},d∈l->∀ k∈d.weights P e,k∈DataW.weightsAll P e l
 | x::l,h,k,hk=>by
  simp only [DataW.weightsAll,List.mem_append];rcases List.mem_cons.1 h with rfl|h
  ·exact .inl hk
  ·exact .inr (tz h k hk)
def I3{α:Type}{e:α->AV}{F:faa}{sz:Nat}(f:Nat->α)(C:Nat->List Value):∀ (n k:Nat),(∀ i,i<n->∃ y:Value,y.cells.toList=C (k+i)/\y.cells.size=sz/\Rep L F W (e (f (k+i))) y []) ->
  bZ L F W sz ((List.range' k n).map fun i=>e (f i)) ((List.range' k n).flatMap C) []
 | 0,k,_=>by simp [bZ]
 | n+1,k,h=>by
  simp only [List.range'_succ,List.map_cons,List.flatMap_cons,bZ];obtain ⟨y,hy,hs,hr⟩:=h 0 Ir;refine ⟨y,_,[],[],by rw [hy];simp,hs,rfl,by simpa using hr,I3 f C n (k+1) fun i hi=>?_⟩;have:=h (i+1) Ir;rw [show k+1+i=k+(i+1) by omega];exact this
def yM{C:Nat->List Value}{sz:Nat}:∀ (n k:Nat),(∀ i,i<n->(C (k+i)).length=sz)->((List.range' k n).flatMap C).length=n * sz/\∀ i j,i<n->j<sz->((List.range' k n).flatMap C)[i * sz+j]? = (C (k+i))[j]?
 | 0,k,_=>by simp
 | n+1,k,h=>by
  have h0:=h 0 Ir
  have ih:=yM (C:=C) (sz:=sz) n (k+1) fun i hi=>by
   have:=h (i+1) Ir;rw [show k+1+i=k+(i+1) by omega];exact this
  simp only [List.range'_succ,List.flatMap_cons];refine ⟨by rw [List.length_append,ih.1];simp at h0;rw [h0,Nat.succ_mul];omega,fun i j hi hj=>?_⟩;simp at h0
  cases i with
  | zero=>rw [List.getElem?_append_left Ir];simp
  | succ i =>
   rw [List.getElem?_append_right (by rw [h0,Nat.succ_mul];omega),h0,show (i+1) * sz+j - sz=i * sz+j by rw [Nat.succ_mul];omega,ih.2 i j Ir hj];rw [show k+1+i=k+(i+1) by omega]
theorem aN.UO{n:Nat}{t e:TypeId}{α:Type}{c:α->List AV}{G:α->Prop}{E:α->AV}{sz:Nat}[Inhabited α](ht:P.underlying t=some (.slice e))(hsz:P.cellsOf e=sz)(h0:0<sz)(hb:0<P.bytesOf e)
  (hL:reachBytes<=L sz) (hp:fe L W c E sz) (h:aN enc P W L n e c G) :
  aN enc P W L (n+1) t (fun l:List α=>[.sl false sz (l.map E)]) (fun l=>(∀ a∈l,G a)/\l.length * P.bytesOf e<=reachBytes):=by
 intro m hm cs x hx hw;rcases DataW.trod_slice ht hx with ⟨rfl,rfl⟩|⟨a,len,cap,elems,rest,n',rfl,rfl,rfl,_,hlc,hcap,hlen,hel,hsp,_⟩
 ·exact ⟨[],QC,au.single (by simp [Rep])⟩
 have hsp:=hsp rfl;simp only [DataW.weights,ht] at hw;have hw0:=hw _ (List.mem_cons_self ..);simp only [List.length_map] at hw0;have hbd:len * P.bytesOf e<=reachBytes:=Nat.le_trans (Nat.mul_le_mul_right _ Ir) hw0
 have hlb:len<=reachBytes:=Nat.le_trans (Nat.le_mul_of_pos_right _ hb) hbd;by_cases hc0:cap=0
 ·subst hc0;obtain rfl:len=0:=by omega
  exact ⟨[],QC,au.single (by simp [Rep])⟩
 have hx:∀ i,i<len->∃ p:List Value×α,W.cells? 0 (a.add (i * P.cellsOf e)) (P.cellsOf e)=some p.1/\G p.2/\au L (fun b=>b<W.heap.size) W (c p.2) p.1 []:=by
  intro i hi;have:=hel i hi;rw [List.getElem?_eq_getElem Ir] at this;obtain ⟨cs',h1,h2⟩:=Option.bind_eq_some_iff.1 this
  obtain ⟨a',ha,hr⟩:=h n' Ir cs' _ h2 fun k hk=>hw k (by
   refine List.mem_cons_of_mem _ (List.mem_append_left _ (tz (d:=elems[i].1) (List.mem_map.2 ⟨_,List.getElem_mem ..,rfl⟩) k hk)))
  exact ⟨(cs',a'),h1,ha,hr⟩
 obtain ⟨f,hf⟩:=Deep.choose_lt hx;rw [hsz] at hf
 have hspot:a.spot=none/\∃ cc T z,W.heap[a.block]? = some (.cells cc T z):=by
  have key:∃ cs',W.cells? 0 (a.add (0 * P.cellsOf e)) (P.cellsOf e)=some cs':=by
   by_cases hl0:0<len
   ·rw [hsz];exact ⟨_,(hf 0 hl0).1⟩
   ·have:=hsp.2 0 Ir;rw [List.getElem?_eq_getElem Ir,show len+0=0 by omega] at this;obtain ⟨cs',h1,h2⟩:=Option.bind_eq_some_iff.1 this;exact ⟨cs',h1⟩
  obtain ⟨cs',h1⟩:=key;obtain ⟨_,hl,hc⟩:=World.cells?_some h1;rw [hsz] at hl hc;have:=hc 0 h0;rw [List.getElem?_eq_getElem Ir] at this;obtain ⟨cc,T,z,hh,_⟩:=yP this;have hs:=World.cell?_spot this;simp [Addr.add] at hs hh;exact ⟨hs,cc,T,z,hh⟩
 obtain ⟨b,off,spot⟩:=a;obtain ⟨rfl,cc,T,z,hh⟩:=hspot
 have hlt:b<W.heap.size:=by
  have:=hh;simp only at this;exact (Array.getElem?_eq_some_iff.1 this).1
 have hCl:∀ i,i<len->(f i).1.length=sz:=fun i hi=>(World.cells?_some (hf i hi).1).2.1
 have hg:=yM (C:=fun i=>(f i).1) (sz:=sz) len 0 fun i hi=>by simpa using hCl i hi
 refine ⟨(List.range' 0 len).map fun i=>(f i).2,⟨fun a' ha'=>?_,by simpa using hbd⟩,?_⟩
 ·obtain ⟨i,hi,rfl⟩:=List.mem_map.1 ha';exact (hf i (by simpa using hi)).2.1
 ·simp only [au];refine ⟨_,[],[],[],rfl,rfl,?_,rfl,rfl⟩;simp only [Rep];refine .inr ⟨b,off,cap,(List.range' 0 len).flatMap fun i=>(f i).1,[],QC,by simpa using hlc,by simp;omega,⟨cc,T,z,hh,fun i hi=>?_⟩,?_,.inr ⟨trivial,hlt,rfl,trivial⟩⟩
  ·rw [hg.1] at hi;have e1:i=i / sz * sz+i % sz:=by rw [Nat.mul_comm];exact (Nat.div_add_mod i sz).symm
   have hq:i / sz<len:=Nat.div_lt_of_lt_mul (by rw [Nat.mul_comm];exact hi)
   have hr:i % sz<sz:=Nat.mod_lt _ h0
   have h3:=(World.cells?_some (hf (i / sz) hq).1).2.2 (i % sz) hr
   have h4:=hg.2 (i / sz) (i % sz) hq hr;rw [<- e1] at h4;simp only [Nat.zero_add] at h4;rw [h4,<- h3];have h5:(f (i / sz)).1[i % sz]? = some ((f (i / sz)).1[i % sz]'(by rw [hCl _ hq];exact hr)):=List.getElem?_eq_getElem _;rw [h5] at h3;rw [h3];rw [fo,fo] at h3;obtain ⟨c1,T1,z1,hh1,hv1⟩:=yP h3;simp only at hh hh1 hv1;rw [hh] at hh1;cases hh1;rw [<- hv1]
   congr 1
   omega
  ·rw [List.map_map];refine I3 (e:=E) (fun i=>(f i).2) (fun i=>(f i).1) len 0 fun i hi=>?_;simp only [Nat.zero_add];exact hp _ _ (hf i hi).2.2
theorem aN.slice{n:Nat}{t e:TypeId}{α:Type}{c:α->List AV}{G:α->Prop}{E:α->AV}{sz bytes:Nat}[Inhabited α](ht:elm P t=some (e,sz,bytes))(h0:0<sz)(hb:0<bytes)
  (hL:reachBytes<=L sz) (hp:fe L W c E sz) (h:aN enc P W L n e c G) :
  aN enc P W L (n+1) t (fun l:List α=>[.sl false sz (l.map E)]) (fun l=>(∀ a∈l,G a)/\l.length * bytes<=reachBytes):=by
 obtain ⟨i,hu,hi,hs,hy⟩:=gX ht;have e1:P.cellsOf e=sz:=by simp [Program.cellsOf,hi,hs]
 have e2:P.bytesOf e=bytes:=by simp [Program.bytesOf,hi,hy]
 have:=aN.UO (n:=n) hu e1 h0 Ir hL hp h
 rwa [e2] at this
def sfl(P:Program)(t:TypeId):Option (Nat×List (TypeId×Nat×Nat)) :=
 match P.underlying t with
 | some (.struct fs)=>some (P.cellsOf t,fs.toList.map fun f=>(f.type,f.offset,P.cellsOf f.type))
 | _=>none
def AZ{t:TypeId}{x:Nat×List (TypeId×Nat×Nat)}(ht:sfl P t=some x){r:Reach}{base:Nat}{v:Value}(h:Value.okWide P W r base t v):∃ cs,v=.agg cs:=by
 unfold sfl at ht;split at ht
 case h_2=>cases ht
 case h_1 fs hu =>
  simp only [Value.okWide,hu] at h;obtain ⟨cs,h1,_⟩:=h;exact ⟨cs,h1⟩
def aS{H:Type}(enc:TypeId×Value->H)(P:Program)(W:World)(L:eaa)(n:Nat)(fs:List (TypeId×Nat×Nat))(off tot:Nat){α:Type}(c:α->List AV)(G:α->Prop):Prop :=
 ∀ m,m<=n->∀ (cs:List Value) (xs:List (DataW H×List MemPlace)),cs.length=tot->xs.length=fs.length ->
  (∀ (i:Nat) (t:TypeId) (o z:Nat),fs[i]? = some (t,o,z)->DataW.trod enc P W 0 (fun _=>true) true m t ((cs.drop o).take z)=xs[i]?) ->
  (∀ k∈DataW.weightsEach P (fs.map (·.1)) (xs.map (·.1)),k<=reachBytes) ->
  ∃ a,G a/\au L (fun b=>b<W.heap.size) W (c a) (cs.drop off) []
def aS.nil{n off:Nat}:aS enc P W L n [] off off (fun _:Unit=>[]) (fun _=>True):=by intro m hm cs xs hl hx _ _;exact ⟨(),trivial,by simp [au,hl]⟩
def au.app{F:faa}{w:World}:∀ {l l':List AV} {vs vs':List Value},au L F w l vs []->au L F w l' vs' []->au L F w (l++l') (vs++vs') []
 | [],l',vs,vs',h,h'=>by simp only [au] at h;simpa [h.1] using h'
 | x::l,l',vs,vs',h,h'=>by
  simp only [au,List.cons_append] at h ⊢;obtain ⟨y,vs1,f1,f2,rfl,hf,hy,hr⟩:=h;have:=List.append_eq_nil_iff.1 hf.symm;obtain ⟨rfl,rfl⟩:=this;exact ⟨y,vs1++vs',[],[],rfl,rfl,hy,au.app hr h'⟩
def aS.cons{n off tot t sz:Nat}{fs:List (TypeId×Nat×Nat)}{α β:Type}{c:α->List AV}{G:α->Prop}{d:β->List AV}{K:β->Prop}
  (h:aN enc P W L n t c G) (hr:aS enc P W L n fs (off+sz) tot d K) :
  aS enc P W L n ((t,off,sz)::fs) off tot (fun p:α×β=>c p.1++d p.2) (fun p=>G p.1/\K p.2):=by
 intro m hm cs xs hl hx ht hw
 match xs,hx with
 | x::xs,hx =>
 have h1:=ht 0 t off sz rfl;simp only [List.getElem?_cons_zero] at h1;simp only [List.map_cons,DataW.weightsEach,List.mem_append] at hw;obtain ⟨a,ga,ra⟩:=h m hm _ x h1 fun k hk=>hw k (.inl hk);obtain ⟨b,kb,rb⟩:=hr m hm cs xs hl (by simpa using hx) (fun i t o z hg=>by have:=ht (i+1) t o z (by simpa using hg);simpa using this) fun k hk=>hw k (.inr hk);refine ⟨(a,b),⟨ga,kb⟩,?_⟩
 have e:cs.drop off=(cs.drop off).take sz++cs.drop (off+sz):=by
  rw [<- List.drop_drop,List.take_append_drop]
 rw [e];exact au.app ra rb
def aN.struct{n:Nat}{t:TypeId}{fl:List (TypeId×Nat×Nat)}{tot:Nat}{α β:Type}{c:α->List AV}{G:α->Prop}{d:β->List AV}{K:β->Prop}(ht:sfl P t=some (tot,fl))
  (h:aS enc P W L n fl 0 tot c G) (g:α->β) (hg:∀ a,G a->K (g a)/\d (g a)=c a):aN enc P W L (n+1) t d K:=by
 intro m hm cs x hx hw;unfold sfl at ht;split at ht
 case h_2=>cases ht
 case h_1 fs hu =>
 obtain ⟨htot,rfl⟩:=Prod.mk.inj (Option.some.inj ht);obtain ⟨xs,m',rfl,rfl,hl,hxl,hf⟩:=DataW.trod_struct hu hx;simp only [DataW.weights,hu] at hw
 obtain ⟨a,ga,ra⟩:=h m' Ir cs xs (by rw [hl,htot]) (by simpa using hxl) (fun i t o z hi=>by
  simp only [List.getElem?_map,Option.map_eq_some_iff] at hi;obtain ⟨f,h1,h2⟩:=hi;obtain ⟨rfl,h3⟩:=Prod.mk.inj h2;obtain ⟨rfl,rfl⟩:=Prod.mk.inj h3
  exact hf i f (by simpa using h1)) (by simpa [Function.comp_def] using hw)
 exact ⟨g a,(hg a ga).1,by rw [(hg a ga).2];simpa using ra⟩
end Go.Ab
namespace Go.Ab
mutual
def AV.fits(L:eaa):AV->Prop
 | .sl _ sz l=>l.length<=L sz/\AV.dH L l
 | .vp l=>AV.dH L l
 | .arr _ _ len sz=>len<=L sz
 | .agg l=>AV.dH L l
 | .tup l=>AV.dH L l
 | .fn _ l=>AV.dH L l
 | .cnd _ x=>x.fits L
 | .pin _ x=>x.fits L
 | .slo sz l=>l.length<=L sz/\AV.dH L l
 | _=>True
def AV.dH(L:eaa):List AV->Prop
 | []=>True
 | x::xs=>x.fits L/\AV.dH L xs
end
def AV.DM{L:eaa}:∀ {l:List AV},AV.dH L l↔∀ x∈l,x.fits L
 | []=>by simp [AV.dH]
 | x::xs=>by simp [AV.dH,AV.DM (l:=xs)]
mutual
def Rep.fit{L L':eaa}{F:faa}{w:World}:∀ {x:AV} {y:Value} {fp:List Nat},x.fits L'->Rep L F w x y fp->Rep L' F w x y fp
 | .dead,_,_,_,r=>by simpa [Rep] using r
 | .v _,_,_,_,r=>by simpa [Rep] using r
 | .str _,_,_,_,r=>by simpa [Rep] using r
 | .sl own sz l,y,fp,h,r=>by
  simp only [Rep] at r ⊢;simp only [AV.fits] at h;rcases r with r|⟨b,off,cap,vals,fp',hy,h1,h2,hrow,he,ho⟩
  ·exact .inl r
  ·exact .inr ⟨b,off,cap,vals,fp',hy,h1,h.1,hrow,bZ.fit h.2 he,ho⟩
 | .vp l,y,fp,h,r=>by
  simp only [Rep] at r ⊢;simp only [AV.fits] at h;obtain ⟨e,b,off,vals,hy,hb,hrow,hl⟩:=r;exact ⟨e,b,off,vals,hy,hb,hrow,au.fit h hl⟩
 | .arr b off len sz,y,fp,h,r=>by
  simp only [Rep] at r ⊢;simp only [AV.fits] at h;obtain ⟨e,cap,hy,h1,h2,o⟩:=r;exact ⟨e,cap,hy,h1,h,o⟩
 | .ptr _ _,_,_,_,r=>by simpa [Rep] using r
 | .agg l,y,fp,h,r=>by
  simp only [Rep] at r ⊢;simp only [AV.fits] at h;obtain ⟨vs,hy,hl⟩:=r;exact ⟨vs,hy,au.fit h hl⟩
 | .tup l,y,fp,h,r=>by
  simp only [Rep] at r ⊢;simp only [AV.fits] at h;obtain ⟨vs,hy,hl⟩:=r;exact ⟨vs,hy,au.fit h hl⟩
 | .fn f l,y,fp,h,r=>by
  simp only [Rep] at r ⊢;simp only [AV.fits] at h;obtain ⟨vs,hy,hl⟩:=r;exact ⟨vs,hy,au.fit h hl⟩
 | .cnd g x,y,fp,h,r=>by
  simp only [Rep] at r ⊢;simp only [AV.fits] at h;exact ⟨fun e=>Rep.fit h (r.1 e),r.2⟩
 | .pin v x,y,fp,h,r=>by
  simp only [Rep] at r ⊢;simp only [AV.fits] at h;exact ⟨r.1,Rep.fit h r.2⟩
 | .slo sz l,y,fp,h,r=>by
  simp only [Rep] at r ⊢;simp only [AV.fits] at h;rcases r with r|⟨b,off,cap,vals,fp',hy,h1,h2,hrow,he,ho⟩
  ·exact .inl r
  ·exact .inr ⟨b,off,cap,vals,fp',hy,h1,h.1,hrow,bZ.fit h.2 he,ho⟩
def au.fit{L L':eaa}{F:faa}{w:World}:∀ {l:List AV} {vs:List Value} {fp:List Nat},AV.dH L' l->au L F w l vs fp->au L' F w l vs fp
 | [],_,_,_,r=>by simpa [au] using r
 | x::xs,vs,fp,h,r=>by
  simp only [au] at r ⊢;simp only [AV.dH] at h;obtain ⟨y,vs',f1,f2,hv,rfl,hx,hxs⟩:=r;exact ⟨y,vs',f1,f2,hv,rfl,Rep.fit h.1 hx,au.fit h.2 hxs⟩
def bZ.fit{L L':eaa}{F:faa}{w:World}{sz:Nat}:∀ {l:List AV} {vs:List Value} {fp:List Nat},AV.dH L' l->bZ L F w sz l vs fp->bZ L' F w sz l vs fp
 | [],_,_,_,r=>by simpa [bZ] using r
 | x::xs,vs,fp,h,r=>by
  simp only [bZ] at r ⊢;simp only [AV.dH] at h;obtain ⟨y,vs',f1,f2,hv,hsz,rfl,hx,hxs⟩:=r;exact ⟨y,vs',f1,f2,hv,hsz,rfl,Rep.fit h.1 hx,bZ.fit h.2 hxs⟩
end
end Go.Ab
namespace Go.Dt
open Go.Ab
def bQ{a:Int}{k:Int->Int}(h:0<=thn a k):0<=a/\0<=k a:=by unfold thn at h;split at h<;>omega
def Fb{α:Type}(f:α->Int->Int)(hf:∀ x r,0<=r->f x r<=r):∀ (l:List α) (r:Int),0<=r->0<=fu f l r->∀ x∈l,∃ r',0<=r'/\r'<=r/\0<=f x r'
 | y::l,r,h0,h,x,hx=>by
  have h2:=bQ h;rcases List.mem_cons.1 hx with rfl|hx
  ·exact ⟨r,h0,Int.le_refl _,h2.1⟩
  ·obtain ⟨r',a,b,c⟩:=Fb f hf l _ h2.1 h2.2 x hx;exact ⟨r',a,by have:=hf y r h0;omega,c⟩
def yY{α:Type}(f:α->Int->Int)(hf:∀ x r,0<=r->f x r<=r)(l:List α)(r:Int)(_:0<=r)(h:0<=aQ f l r):l.length<=r/\∀ x∈l,∃ r',0<=r'/\r'<=r/\0<=f x r':=by have h2:=bQ h;refine ⟨Ir,fun x hx=>?_⟩;obtain ⟨r',a,b,c⟩:=Fb f hf l _ h2.1 h2.2 x hx;exact ⟨r',a,Ir,c⟩
def VA(z:Nat):1048576<=lim z:=by
 have:=M4 (z - 1000000000);unfold lim;split
 ·omega
 ·split<;>omega
def fc{α:Type}{f:α->Int->Int}{e:α->AV}{o:Bool}{sz:Nat}(hf:∀ x r,0<=r->f x r<=r)(l:List α)(r:Int)(h0:0<=r)(h1:r<=1048576)(h:0<=aQ f l r)
  (ih:∀ x∈l,∀ r',0<=r'->r'<=1048576->0<=f x r'->(e x).fits lim):(AV.sl o sz (l.map e)).fits lim:=by
 obtain ⟨a,b⟩:=yY f hf l r h0 h;simp only [AV.fits,List.length_map];refine ⟨by have:=VA sz;omega,AV.DM.2 fun x hx=>?_⟩;obtain ⟨y,hy,rfl⟩:=List.mem_map.1 hx;obtain ⟨r',p,q,s⟩:=b y hy;exact ih y hy r' p Ir s
end Go.Dt
namespace Go.Ab
open Go.RowKit (Below)
open Go.Dt
def vC(P:Program)(f:FuncId)(args:List AV):Prop :=
 eY gE P f args (.v (.bool true))\/(AV.dH lim args/\eY lim P f args (.v (.bool true)))
def vC.walk{P:Program}{f:FuncId}{args:List AV}(h:vC P f args)(w:World)(vs:List Value)(ht:Tb lim (fun b=>b<w.heap.size) w)(hr:au gE (fun b=>b<w.heap.size) w args vs []) :
  Calls P f vs.toArray w fun e w'=>e=.returned (.bool true)/\Below w.heap.size w w':=by
 have fin:∀ {e:Ending} {w':World} {L:eaa},(∃ v' F' fp,e=.returned v'/\Below w.heap.size w w'/\(∀ b,(fun b=>b<w.heap.size) b->F' b)/\(∀ b,F' b->(fun b=>b<w.heap.size) b\/(w.heap.size<=b/\b<w'.heap.size)) /\
   Rep L F' w' (.v (.bool true)) v' fp/\fp.Nodup/\∀ b,b∈fp->¬ F' b/\w.heap.size<=b/\b<w'.heap.size)->e=.returned (.bool true)/\Below w.heap.size w w':=by
  rintro e w' L ⟨v',F',fp,rfl,hb,_,_,hv,_⟩;simp only [Rep] at hv;exact ⟨by rw [hv.1],hb⟩
 rcases h with h|⟨hf,h⟩
 ·exact (h w _ vs (fun b hb=>hb) (fun k g c _ hl hg=>by simp only [gE] at hg;omega) hr).mono fun e w' he=>fin he
 ·exact (h w _ vs (fun b hb=>hb) ht (au.fit hf hr)).mono fun e w' he=>fin he
theorem vC.raw{P:Program}{f:FuncId}{args:List AV}{cs:List (Option (List AV))}{pre:Prop}(h:Ctr gE P f [] args (.v (.bool true)) cs pre)(hp:pre):vC P f args:=.inl (h.pure hp)
theorem vC.fit{P:Program}{f:FuncId}{args:List AV}{cs:List (Option (List AV))}{pre:Prop}(hf:AV.dH lim args)(h:Ctr lim P f [] args (.v (.bool true)) cs pre)(hp:pre):vC P f args:=.inr ⟨hf,h.pure hp⟩
end Go.Ab
