/- Part of a proof. -/
import Derived.Deep.Slices
import Derived.Test.YtbiikafnjialjaaGreatDoorS7
set_option linter.all false
open List
namespace Go.Dt
open Go.Ab
attribute [go_sem] bD
def vV(n:Nat)(acc:Str):Str:=if h:n=0 then acc else vV (n / 10) (UInt8.ofNat (48+n % 10)::acc)
termination_by n
decreasing_by omega
def NV(acc:Str):vV 0 acc=acc:=by rw[vV];simp
def Qr{n:Nat}(h:n≠0)(acc:Str):vV n acc=vV (n / 10) (UInt8.ofNat (48+n % 10)::acc):=by rw[vV];simp[h]
def mkT(k:Int):Str:=109::(if k<=0 then [48] else vV k.toNat [])
def mks:Nat->Int->List Str
 | 0,_=>[]
 | n+1,k=>mkT k::mks n (k+1)
def qX:∀(n:Nat) (k:Int),(mks n k).length=n
 | 0,_=>rfl
 | n+1,k=>by simp[mks,qX n]
def FY:∀(n:Nat) (k:Int),mks (n+1) k=mks n k++[mkT (k+n)]
 | 0,k=>by simp[mks]
 | n+1,k=>by
  rw[mks,FY n (k+1)];simp only[mks,cons_append]
  congr 3
  rw[show k+1+(n:Int)=k+((n+1:Nat):Int) by omega]
def mkd(l:List Str)(k:Int)(i:Nat):List Str:=mks i k++l.drop i
def SD(l:List Str)(k:Int)(i:Nat)(h:i<=l.length):(mkd l k i).length=l.length:=by simp[mkd,qX];omega
def Ph(l:List Str)(k:Int)(i:Nat)(h:i<l.length):((mkd l k i).map AV.str).take i++[.str (mkT (k+i))]++((mkd l k i).map AV.str).drop (i+1)=(mkd l k (i+1)).map AV.str:=by
 have e1:(mkd l k i).take i=mks i k:=by rw[mkd,take_append_of_le_length (by simp[qX]),take_of_length_le (by simp[qX])]
 have hA:(mkd l k i).drop i=l.drop i:=by
  have:=drop_left (l₁:=mks i k) (l₂:=l.drop i);rw[qX]at this;exact this
 have e2:(mkd l k i).drop (i+1)=l.drop (i+1):=by
  have:(mkd l k i).drop (i+1)=((mkd l k i).drop i).drop 1:=by rw[drop_drop]
  rw[this,hA,drop_drop]
 rw[<- map_take,<- map_drop,e1,e2,mkd,FY];simp
end Go.Dt
namespace Go.Ab
open Go.RowKit (Below)
variable {H : Type} {enc : TypeId × Value -> H} {P : Program} {W : World} {L : Nat -> Nat}
def aO{H:Type}(enc:TypeId×Value->H)(P:Program)(W:World)(L:gaa)(n:Nat)(t:TypeId){α:Type}(c:α->List AV)(G:α->Prop):Prop :=
 ∀m,m<=n->∀cs x,DataW.trod enc P W 0 (λ_=>true) true m t cs=some x->(∀k∈x.1.weights P t,k<=reachBytes) ->
  ∃a,G a/\au L (λb=>b<W.heap.size) W (c a) cs []
def au.single{F:haa}{w:World}{x:AV}{y:Value}(h:Rep L F w x y []):au L F w [x] [y] []:=by simp only[au];exact⟨y,[],[],[],rfl,rfl,h,rfl,rfl⟩
def au.one{F:haa}{w:World}{x:AV}{y:Value}(h:au L F w [x] [y] []):Rep L F w x y []:=by simp only[au]at h;obtain⟨y',vs',f1,f2,e,hf,hy,rfl,rfl⟩:=h;simp at e hf;subst hf;rw[e];exact hy
def aO.zero{t:TypeId}{α:Type}{c:α->List AV}{G:α->Prop}:aO enc P W L 0 t c G:=by
 intro m hm cs x h;obtain rfl:m=0:=by omega
 simp[DataW.trod]at h
def aO.mono{n n':Nat}{t:TypeId}{α:Type}{c:α->List AV}{G:α->Prop}(h:aO enc P W L n t c G)(hn:n'<=n):aO enc P W L n' t c G :=
 λm hm=>h m Um
def aO.int{n:Nat}{t:TypeId}{k:IntKind}(ht:P.underlying t=some (.int k)):aO enc P W L n t (λi:Int=>[.v (.int k i)]) (λi=>(Lit.int k i).wf=true):=by intro m hm cs x hx hw;obtain⟨i,rfl,rfl,hi⟩:=DataW.trod_int ht hx;exact⟨i,hi,au.single (by simp[Rep])⟩
def aO.bool{n:Nat}{t:TypeId}(ht:P.underlying t=some .bool):aO enc P W L n t (λi:Bool=>[.v (.bool i)]) (λ_=>True):=by intro m hm cs x hx hw;obtain⟨i,rfl,rfl⟩:=DataW.trod_bool ht hx;exact⟨i,trivial,au.single (by simp[Rep])⟩
def aO.str{n:Nat}{t:TypeId}(ht:P.underlying t=some .string):aO enc P W L n t (λs:List UInt8=>[.str s]) (λs=>s.length<=reachBytes):=by intro m hm cs x hx hw;obtain⟨s,rfl,rfl,_⟩:=DataW.trod_string ht hx;have:=hw s.data.toList.length (by simp[DataW.weights]);refine⟨s.data.toList,this,?_⟩;simp only[au];refine⟨_,[],[],[],rfl,rfl,?_,rfl,rfl⟩;simp only[Rep];exact⟨Xp,by have:=reachBytes_lt;omega,trivial⟩
def eX(L:gaa)(W:World){α:Type}(c:α->List AV)(e:α->AV)(sz:Nat):Prop :=
 ∀a cs,au L (λb=>b<W.heap.size) W (c a) cs []->∃y:Value,y.cells.toList=cs/\y.cells.size=sz/\Rep L (λb=>b<W.heap.size) W (e a) y []
def eX.agg{α:Type}{c:α->List AV}{sz:Nat}(hs:∀a,(c a).length=sz):eX L W c (λa=>.agg (c a)) sz:=by intro a cs h;have:=h.len;exact⟨.agg cs.toArray,by simp[Value.cells],by simp[Value.cells,this,hs],by simp only[Rep];exact⟨cs,rfl,h⟩⟩
def eX.one{α:Type}{e:α->AV}(hc:∀a y,Rep L (λb=>b<W.heap.size) W (e a) y []->y.cells=#[y]):eX L W (λa=>[e a]) e 1:=by intro a cs h;simp only[au]at h;obtain⟨y,vs',f1,f2,rfl,hf,hy,rfl,rfl⟩:=h;simp at hf;subst hf;exact⟨y,by rw[hc a y hy],by rw[hc a y hy];rfl,hy⟩
def eX.str:eX L W (λs:List UInt8=>[.str s]) AV.str 1:=eX.one λa y h=>by
 simp only[Rep]at h;rw[h.1];rfl
def zx{w:World}{a:Addr}{v:Value}(h:w.cell? a=some v):∃c T z,w.heap[a.block]? = some (.cells c T z)/\c[a.off]? = some v:=by
 unfold World.cell? at h;split at h
 ·split at h
  ·simp at h
  ·rename_i hs;exact⟨_,_,_,‹_›,by simpa using h⟩
 ·simp at h
def uk{H:Type}{P:Program}{e:TypeId}{d:DataW H}:∀ {l:List (DataW H)},d∈l->∀k∈d.weights P e,k∈DataW.weightsAll P e l
 | x::l,h,k,hk=>by
  simp only[DataW.weightsAll,mem_append];rcases List.mem_cons.1 h with rfl|h
  ·exact .inl hk
  ·exact .inr (uk h k hk)
def I1{α:Type}{e:α->AV}{F:haa}{sz:Nat}(f:Nat->α)(C:Nat->List Value):∀(n k:Nat),(∀i,i<n->∃y:Value,y.cells.toList=C (k+i)/\y.cells.size=sz/\Rep L F W (e (f (k+i))) y []) ->
  bY L F W sz ((range' k n).map λi=>e (f i)) ((range' k n).flatMap C) []
 | 0,k,_=>by simp[bY]
 | n+1,k,h=>by
  simp only[range'_succ,map_cons,flatMap_cons,bY];obtain⟨y,hy,hs,hr⟩:=h 0 Um;refine⟨y,_,[],[],by rw[hy];simp,hs,rfl,by simpa using hr,I1 f C n (k+1) λi hi=>?_⟩;have:=h (i+1) Um;rw[show k+1+i=k+(i+1) by omega];exact this
def zr{C:Nat->List Value}{sz:Nat}:∀(n k:Nat),(∀i,i<n->(C (k+i)).length=sz)->((range' k n).flatMap C).length=n * sz/\∀i j,i<n->j<sz->((range' k n).flatMap C)[i * sz+j]? = (C (k+i))[j]?
 | 0,k,_=>by simp
 | n+1,k,h=>by
  have h0:=h 0 Um
  have ih:=zr (C:=C) (sz:=sz) n (k+1) λi hi=>by
   have:=h (i+1) Um;rw[show k+1+i=k+(i+1) by omega];exact this
  simp only[range'_succ,flatMap_cons];refine⟨by rw[length_append,ih.1];simp at h0;rw[h0,Nat.succ_mul];omega,λi j hi hj=>?_⟩;simp at h0
  cases i with
  | zero=>rw[getElem?_append_left Um];simp
  | succ i =>
   rw[getElem?_append_right (by rw[h0,Nat.succ_mul];omega),h0,show (i+1) * sz+j - sz=i * sz+j by rw[Nat.succ_mul];omega,ih.2 i j Um hj];rw[show k+1+i=k+(i+1) by omega]
theorem aO.UW{n:Nat}{t e:TypeId}{α:Type}{c:α->List AV}{G:α->Prop}{E:α->AV}{sz:Nat}[Inhabited α](ht:P.underlying t=some (.slice e))(hsz:P.cellsOf e=sz)(h0:0<sz)(hb:0<P.bytesOf e)
  (hL:reachBytes<=L sz) (hp:eX L W c E sz) (h:aO enc P W L n e c G) :
  aO enc P W L (n+1) t (λl:List α=>[.sl false sz (l.map E)]) (λl=>(∀a∈l,G a)/\l.length * P.bytesOf e<=reachBytes):=by
 intro m hm cs x hx hw;rcases DataW.trod_slice ht hx with⟨rfl,rfl⟩|⟨a,len,cap,elems,rest,n',rfl,rfl,rfl,_,hlc,hcap,hlen,hel,hsp,_⟩
 ·exact⟨[],Xp,au.single (by simp[Rep])⟩
 have hsp:=hsp rfl;simp only[DataW.weights,ht]at hw;have hw0:=hw _ (mem_cons_self ..);simp only[length_map]at hw0;have hbd:len * P.bytesOf e<=reachBytes:=Nat.le_trans (Nat.mul_le_mul_right _ Um) hw0
 have hlb:len<=reachBytes:=Nat.le_trans (Nat.le_mul_of_pos_right _ hb) hbd;by_cases hc0:cap=0
 ·subst hc0;obtain rfl:len=0:=by omega
  exact⟨[],Xp,au.single (by simp[Rep])⟩
 have hx:∀i,i<len->∃p:List Value×α,W.cells? 0 (a.add (i * P.cellsOf e)) (P.cellsOf e)=some p.1/\G p.2/\au L (λb=>b<W.heap.size) W (c p.2) p.1 []:=by
  intro i hi;have:=hel i hi;rw[getElem?_eq_getElem Um]at this;obtain⟨cs',h1,h2⟩:=Option.bind_eq_some_iff.1 this
  obtain⟨a',ha,hr⟩:=h n' Um cs' _ h2 λk hk=>hw k (by
   refine mem_cons_of_mem _ (mem_append_left _ (uk (d:=elems[i].1) (List.mem_map.2 ⟨_,getElem_mem ..,rfl⟩) k hk)))
  exact⟨(cs',a'),h1,ha,hr⟩
 obtain⟨f,hf⟩:=Deep.choose_lt hx;rw[hsz]at hf
 have hspot:a.spot=none/\∃cc T z,W.heap[a.block]? = some (.cells cc T z):=by
  have key:∃cs',W.cells? 0 (a.add (0 * P.cellsOf e)) (P.cellsOf e)=some cs':=by
   by_cases hl0:0<len
   ·rw[hsz];exact⟨_,(hf 0 hl0).1⟩
   ·have:=hsp.2 0 Um;rw[getElem?_eq_getElem Um,show len+0=0 by omega]at this;obtain⟨cs',h1,h2⟩:=Option.bind_eq_some_iff.1 this;exact⟨cs',h1⟩
  obtain⟨cs',h1⟩:=key;obtain⟨_,hl,hc⟩:=World.cells?_some h1;rw[hsz]at hl hc;have:=hc 0 h0;rw[getElem?_eq_getElem Um]at this;obtain⟨cc,T,z,hh,_⟩:=zx this;have hs:=World.cell?_spot this;simp[Addr.add]at hs hh;exact⟨hs,cc,T,z,hh⟩
 obtain⟨b,off,spot⟩:=a;obtain⟨rfl,cc,T,z,hh⟩:=hspot
 have hlt:b<W.heap.size:=by
  have:=hh;simp only at this;exact(Array.getElem?_eq_some_iff.1 this).1
 have hCl:∀i,i<len->(f i).1.length=sz:=λi hi=>(World.cells?_some (hf i hi).1).2.1
 have hg:=zr (C:=λi=>(f i).1) (sz:=sz) len 0 λi hi=>by simpa using hCl i hi
 refine⟨(range' 0 len).map λi=>(f i).2,⟨λa' ha'=>?_,by simpa using hbd⟩,?_⟩
 ·obtain⟨i,hi,rfl⟩:=List.mem_map.1 ha';exact(hf i (by simpa using hi)).2.1
 ·simp only[au];refine⟨_,[],[],[],rfl,rfl,?_,rfl,rfl⟩;simp only[Rep];refine .inr ⟨b,off,cap,(range' 0 len).flatMap λi=>(f i).1,[],Xp,by simpa using hlc,by simp;omega,⟨cc,T,z,hh,λi hi=>?_⟩,?_,.inr ⟨trivial,hlt,rfl,trivial⟩⟩
  ·rw[hg.1]at hi;have e1:i=i / sz * sz+i % sz:=by rw[Nat.mul_comm];exact(Nat.div_add_mod i sz).symm
   have hq:i / sz<len:=Nat.div_lt_of_lt_mul (by rw[Nat.mul_comm];exact hi)
   have hr:i % sz<sz:=Nat.mod_lt _ h0
   have h3:=(World.cells?_some (hf (i / sz) hq).1).2.2 (i % sz) hr
   have h4:=hg.2 (i / sz) (i % sz) hq hr;rw[<- e1]at h4;simp only[Nat.zero_add]at h4;rw[h4,<- h3];have h5:(f (i / sz)).1[i % sz]? = some ((f (i / sz)).1[i % sz]'(by rw[hCl _ hq];exact hr)):=getElem?_eq_getElem _;rw[h5]at h3;rw[h3];rw[fW,fW]at h3;obtain⟨c1,T1,z1,hh1,hv1⟩:=zx h3;simp only at hh hh1 hv1;rw[hh]at hh1;cases hh1;rw[<- hv1]
   congr 1
   omega
  ·rw[map_map];refine I1 (e:=E) (λi=>(f i).2) (λi=>(f i).1) len 0 λi hi=>?_;simp only[Nat.zero_add];exact hp _ _ (hf i hi).2.2
theorem aO.slice{n:Nat}{t e:TypeId}{α:Type}{c:α->List AV}{G:α->Prop}{E:α->AV}{sz bytes:Nat}[Inhabited α](ht:elm P t=some (e,sz,bytes))(h0:0<sz)(hb:0<bytes)
  (hL:reachBytes<=L sz) (hp:eX L W c E sz) (h:aO enc P W L n e c G) :
  aO enc P W L (n+1) t (λl:List α=>[.sl false sz (l.map E)]) (λl=>(∀a∈l,G a)/\l.length * bytes<=reachBytes):=by
 obtain⟨i,hu,hi,hs,hy⟩:=jy ht;have e1:P.cellsOf e=sz:=by simp[Program.cellsOf,hi,hs]
 have e2:P.bytesOf e=bytes:=by simp[Program.bytesOf,hi,hy]
 have:=aO.UW (n:=n) hu e1 h0 Um hL hp h
 rwa [e2]at this
def sfl(P:Program)(t:TypeId):Option (Nat×List (TypeId×Nat×Nat)) :=
 match P.underlying t with
 | some (.struct fs)=>some (P.cellsOf t,fs.toList.map λf=>(f.type,f.offset,P.cellsOf f.type))
 | _=>none
def Kw{t:TypeId}{x:Nat×List (TypeId×Nat×Nat)}(ht:sfl P t=some x){r:Reach}{base:Nat}{v:Value}(h:Value.okWide P W r base t v):∃cs,v=.agg cs:=by
 unfold sfl at ht;split at ht
 case h_2=>cases ht
 case h_1 fs hu =>
  simp only[Value.okWide,hu]at h;obtain⟨cs,h1,_⟩:=h;exact⟨cs,h1⟩
def aV{H:Type}(enc:TypeId×Value->H)(P:Program)(W:World)(L:gaa)(n:Nat)(fs:List (TypeId×Nat×Nat))(off tot:Nat){α:Type}(c:α->List AV)(G:α->Prop):Prop :=
 ∀m,m<=n->∀(cs:List Value) (xs:List (DataW H×List MemPlace)),cs.length=tot->xs.length=fs.length ->
  (∀(i:Nat) (t:TypeId) (o z:Nat),fs[i]? = some (t,o,z)->DataW.trod enc P W 0 (λ_=>true) true m t ((cs.drop o).take z)=xs[i]?) ->
  (∀k∈DataW.weightsEach P (fs.map (·.1)) (xs.map (·.1)),k<=reachBytes) ->
  ∃a,G a/\au L (λb=>b<W.heap.size) W (c a) (cs.drop off) []
def aV.nil{n off:Nat}:aV enc P W L n [] off off (λ_:Unit=>[]) (λ_=>True):=by intro m hm cs xs hl hx _ _;exact⟨(),trivial,by simp[au,hl]⟩
def au.app{F:haa}{w:World}:∀ {l l':List AV} {vs vs':List Value},au L F w l vs []->au L F w l' vs' []->au L F w (l++l') (vs++vs') []
 | [],l',vs,vs',h,h'=>by simp only[au]at h;simpa[h.1]using h'
 | x::l,l',vs,vs',h,h'=>by
  simp only[au,cons_append]at h ⊢;obtain⟨y,vs1,f1,f2,rfl,hf,hy,hr⟩:=h;have:=List.append_eq_nil_iff.1 hf.symm;obtain⟨rfl,rfl⟩:=this;exact⟨y,vs1++vs',[],[],rfl,rfl,hy,au.app hr h'⟩
def aV.cons{n off tot t sz:Nat}{fs:List (TypeId×Nat×Nat)}{α β:Type}{c:α->List AV}{G:α->Prop}{d:β->List AV}{K:β->Prop}
  (h:aO enc P W L n t c G) (hr:aV enc P W L n fs (off+sz) tot d K) :
  aV enc P W L n ((t,off,sz)::fs) off tot (λp:α×β=>c p.1++d p.2) (λp=>G p.1/\K p.2):=by
 intro m hm cs xs hl hx ht hw
 match xs,hx with
 | x::xs,hx =>
 have h1:=ht 0 t off sz rfl;simp only[getElem?_cons_zero]at h1;simp only[map_cons,DataW.weightsEach,mem_append]at hw;obtain⟨a,ga,ra⟩:=h m hm _ x h1 λk hk=>hw k (.inl hk);obtain⟨b,kb,rb⟩:=hr m hm cs xs hl (by simpa using hx) (λi t o z hg=>by have:=ht (i+1) t o z (by simpa using hg);simpa using this) λk hk=>hw k (.inr hk);refine⟨(a,b),⟨ga,kb⟩,?_⟩
 have e:cs.drop off=(cs.drop off).take sz++cs.drop (off+sz):=by
  rw[<- drop_drop,take_append_drop]
 rw[e];exact au.app ra rb
def aO.struct{n:Nat}{t:TypeId}{fl:List (TypeId×Nat×Nat)}{tot:Nat}{α β:Type}{c:α->List AV}{G:α->Prop}{d:β->List AV}{K:β->Prop}(ht:sfl P t=some (tot,fl))
  (h:aV enc P W L n fl 0 tot c G) (g:α->β) (hg:∀a,G a->K (g a)/\d (g a)=c a):aO enc P W L (n+1) t d K:=by
 intro m hm cs x hx hw;unfold sfl at ht;split at ht
 case h_2=>cases ht
 case h_1 fs hu =>
 obtain⟨htot,rfl⟩:=Prod.mk.inj (Option.some.inj ht);obtain⟨xs,m',rfl,rfl,hl,hxl,hf⟩:=DataW.trod_struct hu hx;simp only[DataW.weights,hu]at hw
 obtain⟨a,ga,ra⟩:=h m' Um cs xs (by rw[hl,htot]) (by simpa using hxl) (λi t o z hi=>by
  simp only[getElem?_map,Option.map_eq_some_iff]at hi;obtain⟨f,h1,h2⟩:=hi;obtain⟨rfl,h3⟩:=Prod.mk.inj h2;obtain⟨rfl,rfl⟩:=Prod.mk.inj h3
  exact hf i f (by simpa using h1)) (by simpa[Function.comp_def]using hw)
 exact⟨g a,(hg a ga).1,by rw[(hg a ga).2];simpa using ra⟩
mutual
def AV.fits(L:gaa):AV->Prop
 | .sl _ sz l=>l.length<=L sz/\AV.dN L l
 | .vp l=>AV.dN L l
 | .arr _ _ len sz=>len<=L sz
 | .agg l=>AV.dN L l
 | .tup l=>AV.dN L l
 | .fn _ l=>AV.dN L l
 | .cnd _ x=>x.fits L
 | .pin _ x=>x.fits L
 | .slo sz l=>l.length<=L sz/\AV.dN L l
 | _=>True
def AV.dN(L:gaa):List AV->Prop
 | []=>True
 | x::xs=>x.fits L/\AV.dN L xs
end
def AV.D7{L:gaa}:∀ {l:List AV},AV.dN L l↔∀x∈l,x.fits L
 | []=>by simp[AV.dN]
 | x::xs=>by simp[AV.dN,AV.D7 (l:=xs)]
mutual
def Rep.fit{L L':gaa}{F:haa}{w:World}:∀ {x:AV} {y:Value} {fp:List Nat},x.fits L'->Rep L F w x y fp->Rep L' F w x y fp
 | .dead,_,_,_,r=>by simpa[Rep]using r
 | .v _,_,_,_,r=>by simpa[Rep]using r
 | .str _,_,_,_,r=>by simpa[Rep]using r
 | .sl own sz l,y,fp,h,r=>by
  simp only[Rep]at r ⊢;simp only[AV.fits]at h;rcases r with r|⟨b,off,cap,vals,fp',hy,h1,h2,hrow,he,ho⟩
  ·exact .inl r
  ·exact .inr ⟨b,off,cap,vals,fp',hy,h1,h.1,hrow,bY.fit h.2 he,ho⟩
 | .vp l,y,fp,h,r=>by
  simp only[Rep]at r ⊢;simp only[AV.fits]at h;obtain⟨e,b,off,vals,hy,hb,hrow,hl⟩:=r;exact⟨e,b,off,vals,hy,hb,hrow,au.fit h hl⟩
 | .arr b off len sz,y,fp,h,r=>by
  simp only[Rep]at r ⊢;simp only[AV.fits]at h;obtain⟨e,cap,hy,h1,h2,o⟩:=r;exact⟨e,cap,hy,h1,h,o⟩
 | .ptr _ _,_,_,_,r=>by simpa[Rep]using r
 | .agg l,y,fp,h,r=>by
  simp only[Rep]at r ⊢;simp only[AV.fits]at h;obtain⟨vs,hy,hl⟩:=r;exact⟨vs,hy,au.fit h hl⟩
 | .tup l,y,fp,h,r=>by
  simp only[Rep]at r ⊢;simp only[AV.fits]at h;obtain⟨vs,hy,hl⟩:=r;exact⟨vs,hy,au.fit h hl⟩
 | .fn f l,y,fp,h,r=>by
  simp only[Rep]at r ⊢;simp only[AV.fits]at h;obtain⟨vs,hy,hl⟩:=r;exact⟨vs,hy,au.fit h hl⟩
 | .cnd g x,y,fp,h,r=>by
  simp only[Rep]at r ⊢;simp only[AV.fits]at h;exact⟨λe=>Rep.fit h (r.1 e),r.2⟩
 | .pin v x,y,fp,h,r=>by
  simp only[Rep]at r ⊢;simp only[AV.fits]at h;exact⟨r.1,Rep.fit h r.2⟩
 | .slo sz l,y,fp,h,r=>by
  simp only[Rep]at r ⊢;simp only[AV.fits]at h;rcases r with r|⟨b,off,cap,vals,fp',hy,h1,h2,hrow,he,ho⟩
  ·exact .inl r
  ·exact .inr ⟨b,off,cap,vals,fp',hy,h1,h.1,hrow,bY.fit h.2 he,ho⟩
def au.fit{L L':gaa}{F:haa}{w:World}:∀ {l:List AV} {vs:List Value} {fp:List Nat},AV.dN L' l->au L F w l vs fp->au L' F w l vs fp
 | [],_,_,_,r=>by simpa[au]using r
 | x::xs,vs,fp,h,r=>by
  simp only[au]at r ⊢;simp only[AV.dN]at h;obtain⟨y,vs',f1,f2,hv,rfl,hx,hxs⟩:=r;exact⟨y,vs',f1,f2,hv,rfl,Rep.fit h.1 hx,au.fit h.2 hxs⟩
def bY.fit{L L':gaa}{F:haa}{w:World}{sz:Nat}:∀ {l:List AV} {vs:List Value} {fp:List Nat},AV.dN L' l->bY L F w sz l vs fp->bY L' F w sz l vs fp
 | [],_,_,_,r=>by simpa[bY]using r
 | x::xs,vs,fp,h,r=>by
  simp only[bY]at r ⊢;simp only[AV.dN]at h;obtain⟨y,vs',f1,f2,hv,hsz,rfl,hx,hxs⟩:=r;exact⟨y,vs',f1,f2,hv,hsz,rfl,Rep.fit h.1 hx,bY.fit h.2 hxs⟩
end
end Go.Ab
namespace Go.Dt
open Go.Ab
def aK{a:Int}{k:Int->Int}(h:0<=thn a k):0<=a/\0<=k a:=by unfold thn at h;split at h<;>omega
def Ff{α:Type}(f:α->Int->Int)(hf:∀x r,0<=r->f x r<=r):∀(l:List α) (r:Int),0<=r->0<=eS f l r->∀x∈l,∃r',0<=r'/\r'<=r/\0<=f x r'
 | y::l,r,h0,h,x,hx=>by
  have h2:=aK h;rcases List.mem_cons.1 hx with rfl|hx
  ·exact⟨r,h0,Int.le_refl _,h2.1⟩
  ·obtain⟨r',a,b,c⟩:=Ff f hf l _ h2.1 h2.2 x hx;exact⟨r',a,by have:=hf y r h0;omega,c⟩
def uV{α:Type}(f:α->Int->Int)(hf:∀x r,0<=r->f x r<=r)(l:List α)(r:Int)(_:0<=r)(h:0<=aJ f l r):l.length<=r/\∀x∈l,∃r',0<=r'/\r'<=r/\0<=f x r':=by have h2:=aK h;refine⟨Um,λx hx=>?_⟩;obtain⟨r',a,b,c⟩:=Ff f hf l _ h2.1 h2.2 x hx;exact⟨r',a,Um,c⟩
def Vz(z:Nat):1048576<=lim z:=by
 have:=MS (z - 1000000000);unfold lim;split
 ·omega
 ·split<;>omega
def fg{α:Type}{f:α->Int->Int}{e:α->AV}{o:Bool}{sz:Nat}(hf:∀x r,0<=r->f x r<=r)(l:List α)(r:Int)(h0:0<=r)(h1:r<=1048576)(h:0<=aJ f l r)
  (ih:∀x∈l,∀r',0<=r'->r'<=1048576->0<=f x r'->(e x).fits lim):(AV.sl o sz (l.map e)).fits lim:=by
 obtain⟨a,b⟩:=uV f hf l r h0 h;simp only[AV.fits,length_map];refine⟨by have:=Vz sz;omega,AV.D7.2 λx hx=>?_⟩;obtain⟨y,hy,rfl⟩:=List.mem_map.1 hx;obtain⟨r',p,q,s⟩:=b y hy;exact ih y hy r' p Um s
end Go.Dt
namespace Go.Ab
open Go.RowKit (Below)
open Go.Dt
def AE(P:Program)(f:FuncId)(args:List AV):Prop :=
 gj iF P f args (.v (.bool true))\/(AV.dN lim args/\gj lim P f args (.v (.bool true)))
def AE.walk{P:Program}{f:FuncId}{args:List AV}(h:AE P f args)(w:World)(vs:List Value)(ht:Tb lim (λb=>b<w.heap.size) w)(hr:au iF (λb=>b<w.heap.size) w args vs []) :
  Calls P f vs.toArray w λe w'=>e=.returned (.bool true)/\Below w.heap.size w w':=by
 have fin:∀ {e:Ending} {w':World} {L:gaa},(∃v' F' fp,e=.returned v'/\Below w.heap.size w w'/\(∀b,(λb=>b<w.heap.size) b->F' b)/\(∀b,F' b->(λb=>b<w.heap.size) b\/(w.heap.size<=b/\b<w'.heap.size)) /\
   Rep L F' w' (.v (.bool true)) v' fp/\fp.Nodup/\∀b,b∈fp->¬F' b/\w.heap.size<=b/\b<w'.heap.size)->e=.returned (.bool true)/\Below w.heap.size w w':=by
  rintro e w' L ⟨v',F',fp,rfl,hb,_,_,hv,_⟩;simp only[Rep]at hv;exact⟨by rw[hv.1],hb⟩
 rcases h with h|⟨hf,h⟩
 ·exact(h w _ vs (λb hb=>hb) (λk g c _ hl hg=>by simp only[iF]at hg;omega) hr).mono λe w' he=>fin he
 ·exact(h w _ vs (λb hb=>hb) ht (au.fit hf hr)).mono λe w' he=>fin he
theorem AE.raw{P:Program}{f:FuncId}{args:List AV}{cs:List (Option (List AV))}{pre:Prop}(h:Ctr iF P f [] args (.v (.bool true)) cs pre)(hp:pre):AE P f args:=.inl (h.pure hp)
theorem AE.fit{P:Program}{f:FuncId}{args:List AV}{cs:List (Option (List AV))}{pre:Prop}(hf:AV.dN lim args)(h:Ctr lim P f [] args (.v (.bool true)) cs pre)(hp:pre):AE P f args:=.inr ⟨hf,h.pure hp⟩
