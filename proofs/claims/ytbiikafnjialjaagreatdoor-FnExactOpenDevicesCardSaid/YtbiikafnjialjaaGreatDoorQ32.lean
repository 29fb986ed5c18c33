/- Part of a proof. -/
import Derived.Test.YtbiikafnjialjaaGreatDoorQ23
set_option linter.all false
open List
namespace Go.Ab
open Go.RowKit (Below)
section
variable {L : Nat -> Nat} {P : Program} {n : Nat}
def F8{t:faa}{os:Sto}{o:Oper}{ty2:TypeId}{d v b m:Nat}{g:Bool}{cs:List AV}(hop:o.op=.store ty2 (.tmp d) (.tmp v))(hd:o.dst=none)(ha:T t d=.ptr b 0)(ht:ty P ty2=some (g,m))(hl:cs.length=m)(hx:(T t v).elem m=true)(hone:(T t v).cells.all AV.one=true) :
  OpW L P o ⟨n,t,(b,some cs)::os⟩ (λs'=>s'=⟨n,killL t (kills t [.tmp v]),(b,some (T t v).cells)::os⟩):=by
 intro B F0 w0 a w next Q hd' cv
 refine Ev (s:=⟨n,t,(b,some cs)::os⟩) (off:=0) (b:=b) (cells:=cs) (ad:=.tmp d) (x:=.tmp v) hop hd ha (by simp[O]) ht hx hone Yt (K:=λs'=>s'=⟨n,killL t (kills t [.tmp v]),(b,some (cs.take 0++(T t v).cells++cs.drop (0+m)))::kU ((b,some cs)::os) [b]⟩) rfl B F0 w0 a w next Q hd' ?_
 rintro s' a' w' rfl h';refine cv _ _ _ rfl (h'.weaken rfl (λ_=>.inl rfl) ?_);intro q cells hq;have hdr:cs.drop (0+m)=[]:=drop_eq_nil_of_le Yt;simp only[O,kU,take_zero,nil_append,hdr,append_nil]at hq ⊢;split at hq
 ·rename_i e;rw[if_pos e];exact hq
 ·rename_i e;rw[if_neg e,if_neg e,if_neg e];exact hq
def wB(D:List (AV×List Nat))(C:List Nat)(b:Nat):List (AV×List Nat):=D++[(.ptr b 0,[]),(.dead,C)]
def U6(D:List (AV×List Nat))(C:List Nat)(b:Nat):(wB D C b).map Prod.snd=D.map Prod.snd++[[],C]:=by simp[wB]
def xb(D:List (AV×List Nat))(C:List Nat)(b:Nat):(wB D C b).length=D.length+2:=by simp[wB]
def Fw{D:List (AV×List Nat)}{C:List Nat}{b i:Nat}(h:i<D.length):(wB D C b)[i]? = D[i]?:=getElem?_append_left h
def Ru(D:List (AV×List Nat))(C:List Nat)(b:Nat):(wB D C b)[D.length]? = some (.ptr b 0,[]):=by simp[wB]
def Bu(D:List (AV×List Nat))(C:List Nat)(b:Nat):(wB D C b)[D.length+1]? = some (.dead,C):=by simp[wB,getElem?_append_right]
def Mz(ops:Array Oper)(D:List (AV×List Nat))(C:List Nat)(b:Nat)(t:faa){j:Nat}(h:j<=D.length):dX ops (wB D C b) t (List.range j)=dX ops D t (List.range j) :=
 su ops _ _ λi hi=>Fw (by simp at hi;omega)
def Jv{ops:Array Oper}{D:List (AV×List Nat)}(C:List Nat)(b:Nat)(t:faa){oa:Oper}(hoa:ops[D.length]? = some oa):dX ops (wB D C b) t (List.range (D.length+1))=upd oa (.ptr b 0) [] (dX ops D t (List.range D.length)):=by rw[range_succ,mU,hoa,Ru,Mz ops D C b t (Nat.le_refl _)]
def Ss{ops:Array Oper}{D:List (AV×List Nat)}(C:List Nat)(b:Nat)(t:faa){oa ob:Oper}(hoa:ops[D.length]? = some oa)(hob:ops[D.length+1]? = some ob):dX ops (wB D C b) t (List.range (D.length+2))=upd ob .dead C (upd oa (.ptr b 0) [] (dX ops D t (List.range D.length))):=by rw[range_succ,mU,hob,Bu,Jv C b t hoa]
def StB(L:gaa)(n:Nat)(ops:Array Oper)(D:List (AV×List Nat))(C:List Nat)(t0:faa)(os:Sto)(cs cs':List AV)(B F0:haa)(w0:World)(S:Nat->Bool)(a:Act)(w:World):Prop :=
 ∃b os',((S D.length=false/\S (D.length+1)=false/\os'=os)\/(S D.length=true/\S (D.length+1)=false/\iI os b/\os'=(b,some cs)::os)\/(S D.length=true/\S (D.length+1)=true/\iI os b/\os'=(b,some cs')::os))/\Den L B F0 w0 ⟨n,dX ops (wB D C b) t0 ((List.range (D.length+2)).filter S),os'⟩ a w
def Ui{ops:Array Oper}{os:Sto}{t0:faa}{D:List (AV×List Nat)}{K:AS->Prop}{B:haa}{F0:haa}{w0:World}{Q:Exit->Act->World->Prop}{oa ob:Oper}{ty' ty2:TypeId}{zs:List Value}{d v:Nat}{g:Bool}{tD:faa}(htD:dX ops D t0 (List.range D.length)=tD)(hF:lO ops (D.map Prod.snd++[[],kills tD [.tmp v]]))
  (hoa:ops[D.length]? = some oa) (hga:oa.guard=none) (hop:oa.op=.alloc ty') (hda:dA n oa.dst=true) (hz:zer P ty'=some zs)
  (hob:ops[D.length+1]? = some ob) (hgb:ob.guard=none) (AX:ob.op=.store ty2 (.tmp d) (.tmp v)) (hdb:ob.dst=none) (hd0:oa.dst=some d) (hvd:v≠d) (hty:ty P ty2=some (g,zs.length)) (hx:(T tD v).elem zs.length=true) (hone:(T tD v).cells.all AV.one=true)
  (hst:∀j o d,ops[j]? = some o->D[j]? = some d->vv L P ops n os (dX ops D t0 (List.range j)) o d.1 d.2)
  (htl:∀b,iI os b->iY L P ops (range' (D.length+2) (ops.size - (D.length+2))) ⟨n,upd ob .dead (kills tD [.tmp v]) (upd oa (.ptr b 0) [] tD),(b,some (T tD v).cells)::os⟩ K) (hQ:∀s' a' w',K s'->Den L B F0 w0 s' a' w'->Q .normal a' w') :
  ∀(fuel t:Nat) (listed:Array Bool) (acc:List Nat),listed.size=ops.size->qG ops (λi=>listed.getD i false=true)->(∀j,D.length+2<=j->listed.getD j false=false)->((List.range ops.size).filter λi=>!listed.getD i false).length<=fuel ->
  ∃rest,Region.linearise.go .any ops fuel t listed acc=acc.reverse++rest/\∀a w,StB L n ops D (kills tD [.tmp v]) t0 os (zs.map avz) (T tD v).cells B F0 w0 (λi=>listed.getD i false) a w->wpOps P ops Q rest a w:=by
 intro fuel;generalize hC:kills tD [.tmp v]=C at *;have H0:D.length+2<=ops.size:=by have:=hF.le;simpa using this
 have hend:∀(listed:Array Bool),(∀i,i<D.length+2->listed.getD i false=true)->∀a w,StB L n ops D C t0 os (zs.map avz) (T tD v).cells B F0 w0 (λi=>listed.getD i false) a w->wpOps P ops Q (range' (D.length+2) (ops.size - (D.length+2))) a w:=by
  rintro listed hall a w ⟨b,os',hor,hd⟩;have q0:=hall D.length Yt
  have q1:=hall (D.length+1) Yt;rcases hor with⟨h,_⟩|⟨_,h,_⟩|⟨_,_,hb,rfl⟩
  ·have h:listed.getD D.length false=false:=h;rw[q0]at h;cases h
  ·have h:listed.getD (D.length+1) false=false:=h;rw[q1]at h;cases h
  have Ba:(List.range (D.length+2)).filter (λi=>listed.getD i false)=List.range (D.length+2):=by
   rw[filter_eq_self];intro i hi;exact hall i (by simpa using hi)
  rw[Ba,Ss C b t0 hoa hob,htD]at hd;exact htl b hb B F0 w0 a w Q hd hQ
 induction fuel with
 | zero =>
  intro t listed acc hs hS hno yf;have hnil:(List.range ops.size).filter (λi=>!listed.getD i false)=[]:=eq_nil_of_length_eq_zero Yt;rw[filter_eq_nil_iff]at hnil;have hall:∀i,i<ops.size->listed.getD i false=true:=λi hi=>by simpa using hnil i (by simpa using hi)
  have hD:D.length+2=ops.size:=by
   rcases Nat.lt_or_ge (D.length+2) ops.size with h|h
   ·have:=hall (D.length+2) h;rw[hno (D.length+2) (Nat.le_refl _)]at this;cases this
   ·omega
  refine⟨[],by simp[Region.linearise.go],λa w hd=>?_⟩;have:=hend listed (λi hi=>hall i Yt) a w hd;rw[show ops.size - (D.length+2)=0 by omega]at this;exact this
 | succ fuel ih =>
  intro t listed acc hs hS hno yf;by_cases hall:∀i,i<D.length+2->listed.getD i false=true
  ·refine⟨range' (D.length+2) (ops.size - (D.length+2)),?_,hend listed hall⟩;refine yY hF (fuel+1) t (D.length+2) acc listed zH H0 hs (λi=>?_) ?_
   ·by_cases e:i<D.length+2
    ·rw[hall i e];simp[e]
    ·rw[hno i Yt];simp[e]
   ·refine Nat.le_trans ?_ yf
    have mb:List.range ops.size=List.range (D.length+2)++(List.range (ops.size - (D.length+2))).map (D.length+2+·):=by
     rw[<- range_add];congr 1;omega
    rw[mb,filter_append,length_append]
    have:((List.range (ops.size - (D.length+2))).map (D.length+2+·)).filter (λi=>!listed.getD i false)=(List.range (ops.size - (D.length+2))).map (D.length+2+·):=by
     rw[filter_eq_self];intro i hi;simp only[mem_map,mem_range]at hi;obtain⟨q,_,rfl⟩:=hi;rw[hno _ Yt];rfl
    rw[this];simp
  ·have hex:∃i,i<D.length+2/\listed.getD i false=false:=by
    rcases Classical.em (∃i,i<D.length+2/\listed.getD i false=false)with h|h
    ·exact h
    ·exact absurd (λi hi=>by
      rcases hb:listed.getD i false with _|_
      ·exact absurd ⟨i,hi,hb⟩ h
      ·rfl) hall
   have j9:=least hex;obtain⟨i0,⟨hi0,hl0⟩,j9⟩:=j9
   have hr0:ready ops listed i0=true:=by
    refine(ku hs Yt).2 ⟨hl0,λe he=>?_⟩;have hlt:=hF.edge i0 _ (Array.getElem?_eq_getElem Yt) e he;rcases hb:listed.getD e.on false with _|_
    ·have:=j9 e.on ⟨Yt,hb⟩;omega
    ·rfl
   have CB:i0∈(List.range ops.size).filter (ready ops listed):=List.mem_filter.2 ⟨by simp;omega,hr0⟩
   have hpos:0<((List.range ops.size).filter (ready ops listed)).length:=length_pos_of_mem CB
   have hlt:=Nat.mod_lt t hpos;rw[go_succ,getElem?_eq_getElem hlt];have tM:((List.range ops.size).filter (ready ops listed))[t % ((List.range ops.size).filter (ready ops listed)).length]∈(List.range ops.size).filter (ready ops listed):=getElem_mem hlt;generalize ((List.range ops.size).filter (ready ops listed))[t % ((List.range ops.size).filter (ready ops listed)).length]=j at tM;obtain⟨hjn,hrj⟩:=List.mem_filter.1 tM;simp only[mem_range]at hjn;obtain⟨hlj,hej⟩:=(ku hs hjn).1 hrj;have hoj:ops[j]? = some ops[j]:=Array.getElem?_eq_getElem hjn
   have hjD:j<D.length+2:=by
    rcases Nat.lt_or_ge j (D.length+2)with h|h
    ·exact h
    ·have hb:=hF.tail i0 j Yt hjn (by simpa using h)
     have:=lI hS hoj hb hej;rw[hl0]at this;cases this
   have hS':∀i,(listed.setIfInBounds j true).getD i false=(listed.getD i false || i == j):=vP Yt
   obtain⟨rest,hrest,hwp⟩:=ih (t / ((List.range ops.size).filter (ready ops listed)).length) (listed.setIfInBounds j true) (j::acc) (by simpa using hs) (by
    intro i o hi ho e he;rw[hS']at hi ⊢;simp only[Bool.or_eq_true]at hi ⊢;rcases hi with hi|hi
    ·exact .inl (hS i o hi ho e he)
    ·have:i=j:=by simpa using hi
     subst this;rw[hoj]at ho;cases ho
     exact .inl (hej e he)) (by
    intro i hi;rw[hS',hno i hi];have:(i == j)=false:=by simp;omega
    rw[this];rfl) (by
    have:=filter_lt (p:=λi=>!listed.getD i false) (q:=λi=>!(listed.setIfInBounds j true).getD i false) (λi hi=>by
     rw[hS']at hi;simp only[Bool.not_or,Bool.and_eq_true]at hi;exact hi.1) (List.range ops.size) ⟨j,by simpa using hjn,by rw[hlj];rfl,by rw[hS'];simp⟩
    omega)
   refine⟨j::rest,by dsimp only;rw[hrest];simp,λa w hd=>?_⟩;obtain⟨b,os',hor,hd⟩:=hd;have hFb:∀b,lO ops ((wB D C b).map Prod.snd):=λb=>by rw[U6];exact hF
   have hsl:∀k,k∈slotsOf ops ops[j]->T (dX ops (wB D C b) t0 ((List.range (D.length+2)).filter λi=>listed.getD i false)) k=T (dX ops (wB D C b) t0 (List.range j)) k:=λk hk=>by
    have:=C8 (hFb b) hS hoj (by rw[xb];omega) hlj hej t0 hk
    rwa [xb]at this
   rcases Nat.lt_or_ge j D.length with hjm|hjm
   ·
    have hdj:D[j]? = some D[j]:=getElem?_eq_getElem hjm
    have QQ:(wB D C b)[j]? = some D[j]:=by rw[Fw hjm];exact hdj
    have hSt:=hst j ops[j] D[j] hoj hdj;rw[<- Mz ops D C b t0 (Nat.le_of_lt hjm)]at hSt
    have hSm:(listed.setIfInBounds j true).getD D.length false=listed.getD D.length false:=by
     rw[hS'];have:(D.length == j)=false:=by simp;omega
     rw[this,Bool.or_false]
    have acW:(listed.setIfInBounds j true).getD (D.length+1) false=listed.getD (D.length+1) false:=by
     rw[hS'];have:(D.length+1 == j)=false:=by simp;omega
     rw[this,Bool.or_false]
    have hmore:∀c cells,O os c=some cells->O os' c=some cells:=by
     intro c cells hc;rcases hor with⟨_,_,rfl⟩|⟨_,_,hb,rfl⟩|⟨_,_,hb,rfl⟩
     ·exact hc
     ·have:=hb c cells hc;simp only[O];rw[if_neg (by simpa using λe=>this e.symm)];exact hc
     ·have:=hb c cells hc;simp only[O];rw[if_neg (by simpa using λe=>this e.symm)];exact hc
    have cv:∀a' w',Den L B F0 w0 ⟨n,upd ops[j] D[j].1 D[j].2 (dX ops (wB D C b) t0 ((List.range (D.length+2)).filter λi=>listed.getD i false)),os'⟩ a' w'->wpOps P ops Q rest a' w':=λa' w' h'=>by
     refine hwp a' w' ⟨b,os',by show (_=false/\_=false/\_)\/(_=true/\_=false/\_)\/(_=true/\_=true/\_);simp only[hSm,acW];exact hor,?_⟩;have:=step_eq (hFb b) hS hoj QQ hlj hS' t0;rw[xb]at this;exact du.congr h' this
    have HU:LOp L P ⟨n,fH (dX ops (wB D C b) t0 (List.range j)) (slotsOf ops ops[j]),os⟩ ops[j] D[j].1 D[j].2->(ops[j]).wp P a w (wpOps P ops Q rest) Q:=λhl =>
     ((hl.Dg hsl hSt.sub).more hmore).opW hSt.dst (K:=λs'=>s'=⟨n,upd ops[j] D[j].1 D[j].2 (dX ops (wB D C b) t0 ((List.range (D.length+2)).filter λi=>listed.getD i false)),os'⟩) rfl B F0 w0 a w _ Q hd λs' a' w' e h'=>by
      subst e;exact cv a' w' h'
    rcases hSt.run with⟨hg,hl⟩|⟨gi,want,oj,d,G,g,x0,hg,hgi,hgd,hgl,hT,hx,hC,h1⟩
    ·simp only[wpOps,hoj];rw[if_pos (by simp[Region.wanted,hg])];exact .inl (HU hl)
    ·have hk:d∈slotsOf ops ops[j]:=by simp[slotsOf,hg,hgi,hgd]
     have hy:=rp hd hgi hgd (by rw[hsl d hk];exact hT) hgl;simp only[wpOps,hoj,Region.wanted,hg,hy]
     cases hw:(G && (g == want))with
     | true =>
      have hl:=(h1 hw).cnd;rw[hw]at hx;rw[<- hx,<- hC]at hl;simp at hw;obtain⟨rfl,rfl⟩:=hw;rw[if_pos zH];exact .inl (HU hl)
     | false =>
      rw[if_neg (by cases G<;>simp_all)];refine cv _ _ ?_;obtain⟨F,own,fp,fs,h⟩:=hd;have:=h.put (x:=.cnd false x0) (v:=undef) (fx:=[]) [] (ops[j]).dst hSt.dst (Kp.refl _ _) (λ_ h=>h) (λ_ h=>.inl h) (by simp[Rep]) zH zH;rw[hx,hC,hw];exact this
   rcases Nat.eq_or_lt_of_le hjm with hj|hj
   ·
    subst hj;have he:ops[D.length]=oa:=by rw[hoj]at hoa;exact Option.some.inj hoa
    rcases hor with⟨_,h1,rfl⟩|⟨h,_⟩|⟨h,_⟩
    ·simp only[wpOps,hoj];rw[if_pos (by simp[Region.wanted,he,hga])];refine .inl ?_;rw[he];refine yt (L:=L) hop hda hz B F0 w0 a w _ Q hd ?_;rintro s' a' w' ⟨b',hb',rfl⟩ h';refine hwp a' w' ⟨b',_,.inr (.inl ⟨by simp only[hS'];simp,by simp only[hS',h1];simp,hb',rfl⟩),?_⟩;have h2:=step_eq (hFb b') hS hoj (Ru D C b') hlj hS' t0;rw[xb,he]at h2;refine du.congr h' λk=>?_;rw[<- h2 k]
     congr 2
     refine su ops _ _ λi hi=>?_;rw[mem_filter,mem_range]at hi;have hne:i≠D.length:=λe=>by rw[e,hlj]at hi;exact absurd hi.2 zH
     rcases Nat.lt_or_ge i D.length with h3|h3
     ·rw[Fw h3,Fw h3]
     ·have:i=D.length+1:=by omega
      rw[this,Bu,Bu]
    ·simp only[hlj]at h;cases h
    ·simp only[hlj]at h;cases h
   ·
    have hj:j=D.length+1:=by omega
    subst hj;have he:ops[D.length+1]=ob:=by rw[hoj]at hob;exact Option.some.inj hob
    have kd:d∈slotsOf ops ops[D.length+1]:=by rw[he];simp[slotsOf,AX,Op.operands]
    have kv:v∈slotsOf ops ops[D.length+1]:=by rw[he];simp[slotsOf,AX,Op.operands]
    have hSm:listed.getD D.length false=true:=by
     refine lI hS hoj (hF.conf D.length (D.length+1) Yt zH ?_) hej;simp only[conf,Bool.or_eq_true];refine .inl (List.any_eq_true.2 ⟨d,?_,?_⟩)
     ·simp[wr,hoa,hd0]
     ·simp only[Bool.or_eq_true];refine .inl ?_;simp only[rd,hoj];simpa using kd
    rcases hor with⟨h,_⟩|⟨_,_,hb,rfl⟩|⟨_,h,_⟩
    ·have h:listed.getD D.length false=false:=h;rw[hSm]at h;cases h
    ·have h1d:=hsl d kd
     have h1v:=hsl v kv;rw[Jv C b t0 hoa,htD,zq]at h1d h1v;rw[hd0,if_pos rfl]at h1d;rw[hd0,if_neg (by simpa using λe=>hvd e.symm)]at h1v;simp only[not_mem_nil,if_false]at h1v;simp only[wpOps,hoj];rw[if_pos (by simp[Region.wanted,he,hgb])];refine .inl ?_;rw[he]
     have hC':kills (dX ops (wB D C b) t0 ((List.range (D.length+2)).filter λi=>listed.getD i false)) [.tmp v]=C:=by
      refine Eq.trans ?_ hC;show (bif (T _ v).dC then kills _ [] else v::kills _ [])=(bif (T tD v).dC then kills tD [] else v::kills tD []);rw[h1v];rfl
     refine F8 (L:=L) AX hdb h1d hty zH (by rw[h1v];exact hx) (by rw[h1v];exact hone) B F0 w0 a w _ Q hd ?_;rintro s' a' w' rfl h';rw[hC',h1v]at h';refine hwp a' w' ⟨b,_,.inr (.inr ⟨by simp only[hS',hSm];simp,by simp only[hS'];simp,hb,rfl⟩),?_⟩;have h2:=step_eq (hFb b) hS hoj (Bu D C b) hlj hS' t0;rw[xb,he]at h2;simp only[upd,hdb,put]at h2;exact du.congr h' h2
    ·simp only[hlj]at h;cases h
theorem AW.ZN [hM:jl P]{s:AS}{Q:Exit->AS->Prop}{id:Nat}{ops:Array Oper}
  (h:lN L P ops s.n s.o (λt D=>∃oa ob ty' ty2 zs d v g,ops[D.length]? = some oa/\oa.guard=none/\oa.op=.alloc ty'/\dA s.n oa.dst=true/\zer P ty'=some zs /\
   ops[D.length+1]? = some ob/\ob.guard=none/\ob.op=.store ty2 (.tmp d) (.tmp v)/\ob.dst=none/\oa.dst=some d/\v≠d/\ty P ty2=some (g,zs.length)/\(T t v).elem zs.length=true/\(T t v).cells.all AV.one=true/\drawOK ops (D.map Prod.snd++[[],kills t [.tmp v]])=true /\
   ∀b,iI s.o b->iY L P ops (range' (D.length+2) (ops.size - (D.length+2))) ⟨s.n,upd ob .dead (kills t [.tmp v]) (upd oa (.ptr b 0) [] t),(b,some (T t v).cells)::s.o⟩ (λs'=>Q .normal s')) 0 s.t []) :
  AW L P (.region id ops true) s Q:=by
 intro B F0 w0 a w hd;obtain⟨D,⟨oa,ob,ty',ty2,zs,d,v,g,hoa,hga,hop,hda,hz,hob,hgb,AX,hdb,hd0,hvd,hty,hx,hone,hok,htl⟩,hst⟩:=h.inv (t0:=s.t) rfl rfl zH;have hF:=sO hok;refine wp_region_draw λt=>?_
 have HS:Region.schedule (P.follows .mixedOrders) ops t=Region.linearise .any ops t:=by
  simp[Region.schedule,hM.h]
 rw[HS]
 have hre:∀i,(Array.replicate ops.size false).getD i false=false:=by
  intro i;rw[Array.getD_eq_getD_getElem?,Array.getElem?_replicate];split<;>rfl
 obtain⟨rest,hrest,hwp⟩:=Ui (Q:=λe a' w'=>∃s',Q e s'/\Den L B F0 w0 s' a' w') (B:=B) (F0:=F0) (w0:=w0) rfl hF hoa hga hop hda hz hob hgb AX hdb hd0 hvd hty hx hone hst htl (λs' a' w' h1 h2=>⟨s',h1,h2⟩) ops.size t (Array.replicate ops.size false) [] zH (by
  intro j o hj
  rw[hre]at hj;cases hj) (λj _=>hre j) (by
  have:=length_filter_le (λi=>!(Array.replicate ops.size false).getD i false) (List.range ops.size)
  simpa using this)
 unfold Region.linearise;rw[hrest];simp only[reverse_nil,nil_append];refine hwp a _ ⟨0,s.o,.inl ⟨hre _,hre _,rfl⟩,?_⟩
 have:(List.range (D.length+2)).filter (λi=>(Array.replicate ops.size false).getD i false)=[]:=by
  rw[filter_eq_nil_iff];intro i _;rw[hre];simp
 rw[this];exact hd.drew
