/- Part of a proof. -/
import Derived.Test.YtbiikafnjialjaaGreatDoorS23
set_option linter.all false
open List
namespace Go.Ab
open Go.RowKit (Below)
section
variable {L : Nat -> Nat} {P : Program} {n : Nat}
def Fh{t:faa}{os:Sto}{o:Oper}{ty2:TypeId}{d v b m:Nat}{g:Bool}{cs:List AV}(hop:o.op=.store ty2 (.tmp d) (.tmp v))(hd:o.dst=none)(ha:T t d=.ptr b 0)(ht:ty P ty2=some (g,m))(hl:cs.length=m)(hx:(T t v).elem m=true)(hone:(T t v).cells.all AV.one=true) :
  OpW L P o ⟨n,t,(b,some cs)::os⟩ (λs'=>s'=⟨n,killL t (kills t [.tmp v]),(b,some (T t v).cells)::os⟩):=by
 intro B F0 w0 a w next Q hd' bZ
 refine DN (s:=⟨n,t,(b,some cs)::os⟩) (off:=0) (b:=b) (cells:=cs) (ad:=.tmp d) (x:=.tmp v) hop hd ha (by simp[O]) ht hx hone Um (K:=λs'=>s'=⟨n,killL t (kills t [.tmp v]),(b,some (cs.take 0++(T t v).cells++cs.drop (0+m)))::kF ((b,some cs)::os) [b]⟩) rfl B F0 w0 a w next Q hd' ?_
 rintro s' a' w' rfl h';refine bZ _ _ _ rfl (h'.weaken rfl (λ_=>.inl rfl) ?_);intro q cells hq;have hdr:cs.drop (0+m)=[]:=drop_eq_nil_of_le Um;simp only[O,kF,take_zero,nil_append,hdr,append_nil]at hq ⊢;split at hq
 ·rename_i e;rw[if_pos e];exact hq
 ·rename_i e;rw[if_neg e,if_neg e,if_neg e];exact hq
def wB(D:List (AV×List Nat))(C:List Nat)(b:Nat):List (AV×List Nat):=D++[(.ptr b 0,[]),(.dead,C)]
def Ur(D:List (AV×List Nat))(C:List Nat)(b:Nat):(wB D C b).map Prod.snd=D.map Prod.snd++[[],C]:=by simp[wB]
def wK(D:List (AV×List Nat))(C:List Nat)(b:Nat):(wB D C b).length=D.length+2:=by simp[wB]
def EF{D:List (AV×List Nat)}{C:List Nat}{b i:Nat}(h:i<D.length):(wB D C b)[i]? = D[i]?:=getElem?_append_left h
def QI(D:List (AV×List Nat))(C:List Nat)(b:Nat):(wB D C b)[D.length]? = some (.ptr b 0,[]):=by simp[wB]
def AG(D:List (AV×List Nat))(C:List Nat)(b:Nat):(wB D C b)[D.length+1]? = some (.dead,C):=by simp[wB,getElem?_append_right]
def LD(ops:Array Oper)(D:List (AV×List Nat))(C:List Nat)(b:Nat)(t:faa){j:Nat}(h:j<=D.length):dP ops (wB D C b) t (List.range j)=dP ops D t (List.range j) :=
 rD ops _ _ λi hi=>EF (by simp at hi;omega)
def Iy{ops:Array Oper}{D:List (AV×List Nat)}(C:List Nat)(b:Nat)(t:faa){oa:Oper}(hoa:ops[D.length]? = some oa):dP ops (wB D C b) t (List.range (D.length+1))=upd oa (.ptr b 0) [] (dP ops D t (List.range D.length)):=by rw[range_succ,mL,hoa,QI,LD ops D C b t (Nat.le_refl _)]
def RH{ops:Array Oper}{D:List (AV×List Nat)}(C:List Nat)(b:Nat)(t:faa){oa ob:Oper}(hoa:ops[D.length]? = some oa)(hob:ops[D.length+1]? = some ob):dP ops (wB D C b) t (List.range (D.length+2))=upd ob .dead C (upd oa (.ptr b 0) [] (dP ops D t (List.range D.length))):=by rw[range_succ,mL,hob,AG,Iy C b t hoa]
def StB(L:gaa)(n:Nat)(ops:Array Oper)(D:List (AV×List Nat))(C:List Nat)(t0:faa)(os:Sto)(cs cs':List AV)(B F0:haa)(w0:World)(S:Nat->Bool)(a:Act)(w:World):Prop :=
 ∃b os',((S D.length=false/\S (D.length+1)=false/\os'=os)\/(S D.length=true/\S (D.length+1)=false/\iy os b/\os'=(b,some cs)::os)\/(S D.length=true/\S (D.length+1)=true/\iy os b/\os'=(b,some cs')::os))/\Den L B F0 w0 ⟨n,dP ops (wB D C b) t0 ((List.range (D.length+2)).filter S),os'⟩ a w
def Tt{ops:Array Oper}{os:Sto}{t0:faa}{D:List (AV×List Nat)}{K:AS->Prop}{B:haa}{F0:haa}{w0:World}{Q:Exit->Act->World->Prop}{oa ob:Oper}{ty' ty2:TypeId}{zs:List Value}{d v:Nat}{g:Bool}{tD:faa}(htD:dP ops D t0 (List.range D.length)=tD)(hF:lC ops (D.map Prod.snd++[[],kills tD [.tmp v]]))
  (hoa:ops[D.length]? = some oa) (hga:oa.guard=none) (hop:oa.op=.alloc ty') (hda:dn n oa.dst=true) (hz:zer P ty'=some zs)
  (hob:ops[D.length+1]? = some ob) (hgb:ob.guard=none) (Ad:ob.op=.store ty2 (.tmp d) (.tmp v)) (hdb:ob.dst=none) (hd0:oa.dst=some d) (hvd:v≠d) (hty:ty P ty2=some (g,zs.length)) (hx:(T tD v).elem zs.length=true) (hone:(T tD v).cells.all AV.one=true)
  (hst:∀j o d,ops[j]? = some o->D[j]? = some d->uN L P ops n os (dP ops D t0 (List.range j)) o d.1 d.2)
  (htl:∀b,iy os b->iR L P ops (range' (D.length+2) (ops.size - (D.length+2))) ⟨n,upd ob .dead (kills tD [.tmp v]) (upd oa (.ptr b 0) [] tD),(b,some (T tD v).cells)::os⟩ K) (hQ:∀s' a' w',K s'->Den L B F0 w0 s' a' w'->Q .normal a' w') :
  ∀(fuel t:Nat) (listed:Array Bool) (acc:List Nat),listed.size=ops.size->qi ops (λi=>listed.getD i false=true)->(∀j,D.length+2<=j->listed.getD j false=false)->((List.range ops.size).filter λi=>!listed.getD i false).length<=fuel ->
  ∃rest,Region.linearise.go .any ops fuel t listed acc=acc.reverse++rest/\∀a w,StB L n ops D (kills tD [.tmp v]) t0 os (zs.map avz) (T tD v).cells B F0 w0 (λi=>listed.getD i false) a w->wpOps P ops Q rest a w:=by
 intro fuel;generalize hC:kills tD [.tmp v]=C at *;have G6:D.length+2<=ops.size:=by have:=hF.le;simpa using this
 have hend:∀(listed:Array Bool),(∀i,i<D.length+2->listed.getD i false=true)->∀a w,StB L n ops D C t0 os (zs.map avz) (T tD v).cells B F0 w0 (λi=>listed.getD i false) a w->wpOps P ops Q (range' (D.length+2) (ops.size - (D.length+2))) a w:=by
  rintro listed hall a w ⟨b,os',hor,hd⟩;have q0:=hall D.length Um
  have q1:=hall (D.length+1) Um;rcases hor with⟨h,_⟩|⟨_,h,_⟩|⟨_,_,hb,rfl⟩
  ·have h:listed.getD D.length false=false:=h;rw[q0]at h;cases h
  ·have h:listed.getD (D.length+1) false=false:=h;rw[q1]at h;cases h
  have Ag:(List.range (D.length+2)).filter (λi=>listed.getD i false)=List.range (D.length+2):=by
   rw[filter_eq_self];intro i hi;exact hall i (by simpa using hi)
  rw[Ag,RH C b t0 hoa hob,htD]at hd;exact htl b hb B F0 w0 a w Q hd hQ
 induction fuel with
 | zero =>
  intro t listed acc hs hS hno xH;have hnil:(List.range ops.size).filter (λi=>!listed.getD i false)=[]:=eq_nil_of_length_eq_zero Um;rw[filter_eq_nil_iff]at hnil;have hall:∀i,i<ops.size->listed.getD i false=true:=λi hi=>by simpa using hnil i (by simpa using hi)
  have hD:D.length+2=ops.size:=by
   rcases Nat.lt_or_ge (D.length+2) ops.size with h|h
   ·have:=hall (D.length+2) h;rw[hno (D.length+2) (Nat.le_refl _)]at this;cases this
   ·omega
  refine⟨[],by simp[Region.linearise.go],λa w hd=>?_⟩;have:=hend listed (λi hi=>hall i Um) a w hd;rw[show ops.size - (D.length+2)=0 by omega]at this;exact this
 | succ fuel ih =>
  intro t listed acc hs hS hno xH;by_cases hall:∀i,i<D.length+2->listed.getD i false=true
  ·refine⟨range' (D.length+2) (ops.size - (D.length+2)),?_,hend listed hall⟩;refine yA hF (fuel+1) t (D.length+2) acc listed Xp G6 hs (λi=>?_) ?_
   ·by_cases e:i<D.length+2
    ·rw[hall i e];simp[e]
    ·rw[hno i Um];simp[e]
   ·refine Nat.le_trans ?_ xH
    have lV:List.range ops.size=List.range (D.length+2)++(List.range (ops.size - (D.length+2))).map (D.length+2+·):=by
     rw[<- range_add];congr 1;omega
    rw[lV,filter_append,length_append]
    have:((List.range (ops.size - (D.length+2))).map (D.length+2+·)).filter (λi=>!listed.getD i false)=(List.range (ops.size - (D.length+2))).map (D.length+2+·):=by
     rw[filter_eq_self];intro i hi;simp only[mem_map,mem_range]at hi;obtain⟨q,_,rfl⟩:=hi;rw[hno _ Um];rfl
    rw[this];simp
  ·have hex:∃i,i<D.length+2/\listed.getD i false=false:=by
    rcases Classical.em (∃i,i<D.length+2/\listed.getD i false=false)with h|h
    ·exact h
    ·exact absurd (λi hi=>by
      rcases hb:listed.getD i false with _|_
      ·exact absurd ⟨i,hi,hb⟩ h
      ·rfl) hall
   have jQ:=least hex;obtain⟨i0,⟨hi0,hl0⟩,jQ⟩:=jQ
   have hr0:ready ops listed i0=true:=by
    refine(jW hs Um).2 ⟨hl0,λe he=>?_⟩;have hlt:=hF.edge i0 _ (Array.getElem?_eq_getElem Um) e he;rcases hb:listed.getD e.on false with _|_
    ·have:=jQ e.on ⟨Um,hb⟩;omega
    ·rfl
   have BN:i0∈(List.range ops.size).filter (ready ops listed):=List.mem_filter.2 ⟨by simp;omega,hr0⟩
   have hpos:0<((List.range ops.size).filter (ready ops listed)).length:=length_pos_of_mem BN
   have hlt:=Nat.mod_lt t hpos;rw[go_succ,getElem?_eq_getElem hlt];have sS:((List.range ops.size).filter (ready ops listed))[t % ((List.range ops.size).filter (ready ops listed)).length]∈(List.range ops.size).filter (ready ops listed):=getElem_mem hlt;generalize ((List.range ops.size).filter (ready ops listed))[t % ((List.range ops.size).filter (ready ops listed)).length]=j at sS;obtain⟨hjn,hrj⟩:=List.mem_filter.1 sS;simp only[mem_range]at hjn;obtain⟨hlj,hej⟩:=(jW hs hjn).1 hrj;have hoj:ops[j]? = some ops[j]:=Array.getElem?_eq_getElem hjn
   have hjD:j<D.length+2:=by
    rcases Nat.lt_or_ge j (D.length+2)with h|h
    ·exact h
    ·have hb:=hF.tail i0 j Um hjn (by simpa using h)
     have:=lq hS hoj hb hej;rw[hl0]at this;cases this
   have hS':∀i,(listed.setIfInBounds j true).getD i false=(listed.getD i false || i == j):=u7 Um
   obtain⟨rest,hrest,hwp⟩:=ih (t / ((List.range ops.size).filter (ready ops listed)).length) (listed.setIfInBounds j true) (j::acc) (by simpa using hs) (by
    intro i o hi ho e he;rw[hS']at hi ⊢;simp only[Bool.or_eq_true]at hi ⊢;rcases hi with hi|hi
    ·exact .inl (hS i o hi ho e he)
    ·have:i=j:=by simpa using hi
     subst this;rw[hoj]at ho;cases ho
     exact .inl (hej e he)) (by
    intro i hi;rw[hS',hno i hi];have:(i == j)=false:=by simp;omega
    rw[this];rfl) (by
    have:=filter_lt (p:=λi=>!listed.getD i false) (q:=λi=>!(listed.setIfInBounds j true).getD i false) (λi hi=>by
     rw[hS']at hi;simp only[Bool.not_or,Bool.and_eq_true]at hi;exact hi.1) (List.range ops.size) ⟨j,by simpa using hjn,by rw[hlj];rfl,by rw[hS'];simp⟩
    omega)
   refine⟨j::rest,by dsimp only;rw[hrest];simp,λa w hd=>?_⟩;obtain⟨b,os',hor,hd⟩:=hd;have hFb:∀b,lC ops ((wB D C b).map Prod.snd):=λb=>by rw[Ur];exact hF
   have hsl:∀k,k∈slotsOf ops ops[j]->T (dP ops (wB D C b) t0 ((List.range (D.length+2)).filter λi=>listed.getD i false)) k=T (dP ops (wB D C b) t0 (List.range j)) k:=λk hk=>by
    have:=Cw (hFb b) hS hoj (by rw[wK];omega) hlj hej t0 hk
    rwa [wK]at this
   rcases Nat.lt_or_ge j D.length with hjm|hjm
   ·
    have hdj:D[j]? = some D[j]:=getElem?_eq_getElem hjm
    have P5:(wB D C b)[j]? = some D[j]:=by rw[EF hjm];exact hdj
    have hSt:=hst j ops[j] D[j] hoj hdj;rw[<- LD ops D C b t0 (Nat.le_of_lt hjm)]at hSt
    have hSm:(listed.setIfInBounds j true).getD D.length false=listed.getD D.length false:=by
     rw[hS'];have:(D.length == j)=false:=by simp;omega
     rw[this,Bool.or_false]
    have acm:(listed.setIfInBounds j true).getD (D.length+1) false=listed.getD (D.length+1) false:=by
     rw[hS'];have:(D.length+1 == j)=false:=by simp;omega
     rw[this,Bool.or_false]
    have hmore:∀c cells,O os c=some cells->O os' c=some cells:=by
     intro c cells hc;rcases hor with⟨_,_,rfl⟩|⟨_,_,hb,rfl⟩|⟨_,_,hb,rfl⟩
     ·exact hc
     ·have:=hb c cells hc;simp only[O];rw[if_neg (by simpa using λe=>this e.symm)];exact hc
     ·have:=hb c cells hc;simp only[O];rw[if_neg (by simpa using λe=>this e.symm)];exact hc
    have bZ:∀a' w',Den L B F0 w0 ⟨n,upd ops[j] D[j].1 D[j].2 (dP ops (wB D C b) t0 ((List.range (D.length+2)).filter λi=>listed.getD i false)),os'⟩ a' w'->wpOps P ops Q rest a' w':=λa' w' h'=>by
     refine hwp a' w' ⟨b,os',by show (_=false/\_=false/\_)\/(_=true/\_=false/\_)\/(_=true/\_=true/\_);simp only[hSm,acm];exact hor,?_⟩;have:=step_eq (hFb b) hS hoj P5 hlj hS' t0;rw[wK]at this;exact di.congr h' this
    have GW:LOp L P ⟨n,fu (dP ops (wB D C b) t0 (List.range j)) (slotsOf ops ops[j]),os⟩ ops[j] D[j].1 D[j].2->(ops[j]).wp P a w (wpOps P ops Q rest) Q:=λhl =>
     ((hl.CD hsl hSt.sub).more hmore).opW hSt.dst (K:=λs'=>s'=⟨n,upd ops[j] D[j].1 D[j].2 (dP ops (wB D C b) t0 ((List.range (D.length+2)).filter λi=>listed.getD i false)),os'⟩) rfl B F0 w0 a w _ Q hd λs' a' w' e h'=>by
      subst e;exact bZ a' w' h'
    rcases hSt.run with⟨hg,hl⟩|⟨gi,want,oj,d,G,g,x0,hg,hgi,hgd,hgl,hT,hx,hC,h1⟩
    ·simp only[wpOps,hoj];rw[if_pos (by simp[Region.wanted,hg])];exact .inl (GW hl)
    ·have hk:d∈slotsOf ops ops[j]:=by simp[slotsOf,hg,hgi,hgd]
     have hy:=qI hd hgi hgd (by rw[hsl d hk];exact hT) hgl;simp only[wpOps,hoj,Region.wanted,hg,hy]
     cases hw:(G && (g == want))with
     | true =>
      have hl:=(h1 hw).cnd;rw[hw]at hx;rw[<- hx,<- hC]at hl;simp at hw;obtain⟨rfl,rfl⟩:=hw;rw[if_pos Xp];exact .inl (GW hl)
     | false =>
      rw[if_neg (by cases G<;>simp_all)];refine bZ _ _ ?_;obtain⟨F,own,fp,fs,h⟩:=hd;have:=h.put (x:=.cnd false x0) (v:=undef) (fx:=[]) [] (ops[j]).dst hSt.dst (Kp.refl _ _) (λ_ h=>h) (λ_ h=>.inl h) (by simp[Rep]) Xp Xp;rw[hx,hC,hw];exact this
   rcases Nat.eq_or_lt_of_le hjm with hj|hj
   ·
    subst hj;have he:ops[D.length]=oa:=by rw[hoj]at hoa;exact Option.some.inj hoa
    rcases hor with⟨_,h1,rfl⟩|⟨h,_⟩|⟨h,_⟩
    ·simp only[wpOps,hoj];rw[if_pos (by simp[Region.wanted,he,hga])];refine .inl ?_;rw[he];refine xS (L:=L) hop hda hz B F0 w0 a w _ Q hd ?_;rintro s' a' w' ⟨b',hb',rfl⟩ h';refine hwp a' w' ⟨b',_,.inr (.inl ⟨by simp only[hS'];simp,by simp only[hS',h1];simp,hb',rfl⟩),?_⟩;have h2:=step_eq (hFb b') hS hoj (QI D C b') hlj hS' t0;rw[wK,he]at h2;refine di.congr h' λk=>?_;rw[<- h2 k]
     congr 2
     refine rD ops _ _ λi hi=>?_;rw[mem_filter,mem_range]at hi;have hne:i≠D.length:=λe=>by rw[e,hlj]at hi;exact absurd hi.2 Xp
     rcases Nat.lt_or_ge i D.length with h3|h3
     ·rw[EF h3,EF h3]
     ·have:i=D.length+1:=by omega
      rw[this,AG,AG]
    ·simp only[hlj]at h;cases h
    ·simp only[hlj]at h;cases h
   ·
    have hj:j=D.length+1:=by omega
    subst hj;have he:ops[D.length+1]=ob:=by rw[hoj]at hob;exact Option.some.inj hob
    have kd:d∈slotsOf ops ops[D.length+1]:=by rw[he];simp[slotsOf,Ad,Op.operands]
    have kv:v∈slotsOf ops ops[D.length+1]:=by rw[he];simp[slotsOf,Ad,Op.operands]
    have hSm:listed.getD D.length false=true:=by
     refine lq hS hoj (hF.conf D.length (D.length+1) Um Xp ?_) hej;simp only[conf,Bool.or_eq_true];refine .inl (List.any_eq_true.2 ⟨d,?_,?_⟩)
     ·simp[wr,hoa,hd0]
     ·simp only[Bool.or_eq_true];refine .inl ?_;simp only[rd,hoj];simpa using kd
    rcases hor with⟨h,_⟩|⟨_,_,hb,rfl⟩|⟨_,h,_⟩
    ·have h:listed.getD D.length false=false:=h;rw[hSm]at h;cases h
    ·have h1d:=hsl d kd
     have h1v:=hsl v kv;rw[Iy C b t0 hoa,htD,yV]at h1d h1v;rw[hd0,if_pos rfl]at h1d;rw[hd0,if_neg (by simpa using λe=>hvd e.symm)]at h1v;simp only[not_mem_nil,if_false]at h1v;simp only[wpOps,hoj];rw[if_pos (by simp[Region.wanted,he,hgb])];refine .inl ?_;rw[he]
     have hC':kills (dP ops (wB D C b) t0 ((List.range (D.length+2)).filter λi=>listed.getD i false)) [.tmp v]=C:=by
      refine Eq.trans ?_ hC;show (bif (T _ v).du then kills _ [] else v::kills _ [])=(bif (T tD v).du then kills tD [] else v::kills tD []);rw[h1v];rfl
     refine Fh (L:=L) Ad hdb h1d hty Xp (by rw[h1v];exact hx) (by rw[h1v];exact hone) B F0 w0 a w _ Q hd ?_;rintro s' a' w' rfl h';rw[hC',h1v]at h';refine hwp a' w' ⟨b,_,.inr (.inr ⟨by simp only[hS',hSm];simp,by simp only[hS'];simp,hb,rfl⟩),?_⟩;have h2:=step_eq (hFb b) hS hoj (AG D C b) hlj hS' t0;rw[wK,he]at h2;simp only[upd,hdb,put]at h2;exact di.congr h' h2
    ·simp only[hlj]at h;cases h
theorem AW.Zb [hM:iS P]{s:AS}{Q:Exit->AS->Prop}{id:Nat}{ops:Array Oper}
  (h:lB L P ops s.n s.o (λt D=>∃oa ob ty' ty2 zs d v g,ops[D.length]? = some oa/\oa.guard=none/\oa.op=.alloc ty'/\dn s.n oa.dst=true/\zer P ty'=some zs /\
   ops[D.length+1]? = some ob/\ob.guard=none/\ob.op=.store ty2 (.tmp d) (.tmp v)/\ob.dst=none/\oa.dst=some d/\v≠d/\ty P ty2=some (g,zs.length)/\(T t v).elem zs.length=true/\(T t v).cells.all AV.one=true/\drawOK ops (D.map Prod.snd++[[],kills t [.tmp v]])=true /\
   ∀b,iy s.o b->iR L P ops (range' (D.length+2) (ops.size - (D.length+2))) ⟨s.n,upd ob .dead (kills t [.tmp v]) (upd oa (.ptr b 0) [] t),(b,some (T t v).cells)::s.o⟩ (λs'=>Q .normal s')) 0 s.t []) :
  AW L P (.region id ops true) s Q:=by
 intro B F0 w0 a w hd;obtain⟨D,⟨oa,ob,ty',ty2,zs,d,v,g,hoa,hga,hop,hda,hz,hob,hgb,Ad,hdb,hd0,hvd,hty,hx,hone,hok,htl⟩,hst⟩:=h.inv (t0:=s.t) rfl rfl Xp;have hF:=rV hok;refine wp_region_draw λt=>?_
 have GU:Region.schedule (P.follows .mixedOrders) ops t=Region.linearise .any ops t:=by
  simp[Region.schedule,hM.h]
 rw[GU]
 have hre:∀i,(Array.replicate ops.size false).getD i false=false:=by
  intro i;rw[Array.getD_eq_getD_getElem?,Array.getElem?_replicate];split<;>rfl
 obtain⟨rest,hrest,hwp⟩:=Tt (Q:=λe a' w'=>∃s',Q e s'/\Den L B F0 w0 s' a' w') (B:=B) (F0:=F0) (w0:=w0) rfl hF hoa hga hop hda hz hob hgb Ad hdb hd0 hvd hty hx hone hst htl (λs' a' w' h1 h2=>⟨s',h1,h2⟩) ops.size t (Array.replicate ops.size false) [] Xp (by
  intro j o hj
  rw[hre]at hj;cases hj) (λj _=>hre j) (by
  have:=length_filter_le (λi=>!(Array.replicate ops.size false).getD i false) (List.range ops.size)
  simpa using this)
 unfold Region.linearise;rw[hrest];simp only[reverse_nil,nil_append];refine hwp a _ ⟨0,s.o,.inl ⟨hre _,hre _,rfl⟩,?_⟩
 have:(List.range (D.length+2)).filter (λi=>(Array.replicate ops.size false).getD i false)=[]:=by
  rw[filter_eq_nil_iff];intro i _;rw[hre];simp
 rw[this];exact hd.drew
