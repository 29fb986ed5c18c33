/- Part of a proof. -/
import Derived.Deep.RegionLaw
import Derived.Test.YtbiikafnjialjaaGreatDoorS18
set_option linter.all false
open List
namespace Go.Ab
open Go.RowKit (Below)
section
variable {L : Nat -> Nat} {P : Program} {n : Nat}
def LOp.more{t:faa}{os os':Sto}{o:Oper}{x:AV}{C:List Nat}(h:LOp L P ⟨n,t,os⟩ o x C)(ho:∀c cells,O os c=some cells->O os' c=some cells):LOp L P ⟨n,t,os'⟩ o x C:=by
 intro B F0 w0 F own fp fs a w next Q hd bZ
 exact h B F0 w0 F own fp fs a w next Q { hd with obj:=λb cells hb=>hd.obj b cells (ho b cells hb) } bZ
def xS{t:faa}{os:Sto}{o:Oper}{ty':TypeId}{zs:List Value}(hop:o.op=.alloc ty')(hd:dn n o.dst=true)(hz:zer P ty'=some zs) :
  OpW L P o ⟨n,t,os⟩ (λs'=>∃b,iy os b/\s'=⟨n,upd o (.ptr b 0) [] t,(b,some (zs.map avz))::os⟩):=by
 intro B F0 w0 a w next Q cH bZ
 have hfr:iy os w.heap.size:=by obtain⟨F,own,fp,fs,hd'⟩:=cH;exact hd'.fresh
 obtain⟨F,own,fp,fs,hD⟩:=cH;obtain⟨z,hzc,hzr⟩:=yc hz
 have hrun:(execOp a.eval o).run P w=.ok (.value (.pointer (some ⟨w.heap.size,0,none⟩))) (w.alloc (.cells z.cells ty')):=by
  simp[execOp,hop,Instr.alloc,hzr,newVar,newRow]
 unfold Oper.wp;rw[hrun];refine bZ ⟨n,upd o (.ptr w.heap.size 0) [] t,(w.heap.size,some (zs.map avz))::os⟩ _ _ ⟨_,hfr,rfl⟩ ?_
 exact hD.renew [] [] w.heap.size (zs.map avz) [] o.dst hd ⟨rfl,rfl,rfl⟩ (Ext.alloc w _ []) Xp (.inr ⟨Nat.le_refl _,Xp⟩)
  ⟨z.cells,ty',zs,[],gh w _,by simp[hzc],au.plain zs⟩ Xp Xp (by simp[Rep])
def rD(ops:Array Oper){D D':List (AV×List Nat)}:∀(l:List Nat) (t:faa),(∀i,i∈l->D[i]? = D'[i]?)->dP ops D t l=dP ops D' t l
 | [],t,_=>rfl
 | i::l,t,h=>by
  simp only[dP];rw[h i Xp];exact rD ops l _ λk hk=>h k (by simp[hk])
def wA(D:List (AV×List Nat))(b:Nat):List (AV×List Nat):=D++[(.ptr b 0,[])]
def Us(D:List (AV×List Nat))(b:Nat):(wA D b).map Prod.snd=D.map Prod.snd++[[]]:=by simp[wA]
def AJ(D:List (AV×List Nat))(b:Nat):(wA D b).length=D.length+1:=by simp[wA]
def EG{D:List (AV×List Nat)}{b i:Nat}(h:i<D.length):(wA D b)[i]? = D[i]?:=getElem?_append_left h
def QJ(D:List (AV×List Nat))(b:Nat):(wA D b)[D.length]? = some (.ptr b 0,[]):=by simp[wA]
def LF(ops:Array Oper)(D:List (AV×List Nat))(b:Nat)(t:faa){j:Nat}(h:j<=D.length):dP ops (wA D b) t (List.range j)=dP ops D t (List.range j) :=
 rD ops _ _ λi hi=>EG (by simp at hi;omega)
def StA(L:gaa)(n:Nat)(ops:Array Oper)(D:List (AV×List Nat))(t0:faa)(os:Sto)(cs:List AV)(B F0:haa)(w0:World)(S:Nat->Bool)(a:Act)(w:World):Prop :=
 ∃b os',((S D.length=false/\os'=os)\/(S D.length=true/\iy os b/\os'=(b,some cs)::os))/\Den L B F0 w0 ⟨n,dP ops (wA D b) t0 ((List.range (D.length+1)).filter S),os'⟩ a w
def Tu{ops:Array Oper}{os:Sto}{t0:faa}{D:List (AV×List Nat)}{K:AS->Prop}{B:haa}{F0:haa}{w0:World}{Q:Exit->Act->World->Prop}{oa:Oper}{ty':TypeId}{zs:List Value}(hF:lC ops (D.map Prod.snd++[[]]))
  (hoa:ops[D.length]? = some oa) (hga:oa.guard=none) (hop:oa.op=.alloc ty') (hda:dn n oa.dst=true) (hz:zer P ty'=some zs)
  (hst:∀j o d,ops[j]? = some o->D[j]? = some d->uN L P ops n os (dP ops D t0 (List.range j)) o d.1 d.2)
  (htl:∀b,iy os b->iR L P ops (range' (D.length+1) (ops.size - (D.length+1))) ⟨n,upd oa (.ptr b 0) [] (dP ops D t0 (List.range D.length)),(b,some (zs.map avz))::os⟩ K) (hQ:∀s' a' w',K s'->Den L B F0 w0 s' a' w'->Q .normal a' w') :
  ∀(fuel t:Nat) (listed:Array Bool) (acc:List Nat),listed.size=ops.size->qi ops (λi=>listed.getD i false=true)->(∀j,D.length+1<=j->listed.getD j false=false)->((List.range ops.size).filter λi=>!listed.getD i false).length<=fuel ->
  ∃rest,Region.linearise.go .any ops fuel t listed acc=acc.reverse++rest/\∀a w,StA L n ops D t0 os (zs.map avz) B F0 w0 (λi=>listed.getD i false) a w->wpOps P ops Q rest a w:=by
 intro fuel;have G6:D.length+1<=ops.size:=by have:=hF.le;simpa using this
 have hend:∀(listed:Array Bool),(∀i,i<D.length+1->listed.getD i false=true)->∀a w,StA L n ops D t0 os (zs.map avz) B F0 w0 (λi=>listed.getD i false) a w->wpOps P ops Q (range' (D.length+1) (ops.size - (D.length+1))) a w:=by
  rintro listed hall a w ⟨b,os',hor,hd⟩;rcases hor with⟨h,_⟩|⟨_,hb,rfl⟩
  ·have h:listed.getD D.length false=false:=h;rw[hall D.length Um]at h;cases h
  have Ag:(List.range (D.length+1)).filter (λi=>listed.getD i false)=List.range (D.length+1):=by
   rw[filter_eq_self];intro i hi;exact hall i (by simpa using hi)
  rw[Ag,range_succ,mL,hoa,QJ,LF ops D b t0 (Nat.le_refl _)]at hd;exact htl b hb B F0 w0 a w Q hd hQ
 induction fuel with
 | zero =>
  intro t listed acc hs hS hno xH;have hnil:(List.range ops.size).filter (λi=>!listed.getD i false)=[]:=eq_nil_of_length_eq_zero Um;rw[filter_eq_nil_iff]at hnil;have hall:∀i,i<ops.size->listed.getD i false=true:=λi hi=>by simpa using hnil i (by simpa using hi)
  have hD:D.length+1=ops.size:=by
   rcases Nat.lt_or_ge (D.length+1) ops.size with h|h
   ·have:=hall (D.length+1) h;rw[hno (D.length+1) (Nat.le_refl _)]at this;cases this
   ·omega
  refine⟨[],by simp[Region.linearise.go],λa w hd=>?_⟩;have:=hend listed (λi hi=>hall i Um) a w hd;rw[show ops.size - (D.length+1)=0 by omega]at this;exact this
 | succ fuel ih =>
  intro t listed acc hs hS hno xH;by_cases hall:∀i,i<D.length+1->listed.getD i false=true
  ·refine⟨range' (D.length+1) (ops.size - (D.length+1)),?_,hend listed hall⟩;refine yA hF (fuel+1) t (D.length+1) acc listed Xp G6 hs (λi=>?_) ?_
   ·by_cases e:i<D.length+1
    ·rw[hall i e];simp[e]
    ·rw[hno i Um];simp[e]
   ·refine Nat.le_trans ?_ xH
    have lV:List.range ops.size=List.range (D.length+1)++(List.range (ops.size - (D.length+1))).map (D.length+1+·):=by
     rw[<- range_add];congr 1;omega
    rw[lV,filter_append,length_append]
    have:((List.range (ops.size - (D.length+1))).map (D.length+1+·)).filter (λi=>!listed.getD i false)=(List.range (ops.size - (D.length+1))).map (D.length+1+·):=by
     rw[filter_eq_self];intro i hi;simp only[mem_map,mem_range]at hi;obtain⟨q,_,rfl⟩:=hi;rw[hno _ Um];rfl
    rw[this];simp
  ·have hex:∃i,i<D.length+1/\listed.getD i false=false:=by
    rcases Classical.em (∃i,i<D.length+1/\listed.getD i false=false)with h|h
    ·exact h
    ·exact absurd (λi hi=>by
      rcases hb:listed.getD i false with _|_
      ·exact absurd ⟨i,hi,hb⟩ h
      ·rfl) hall
   have jQ:=least hex;obtain⟨i0,⟨hi0,hl0⟩,jQ⟩:=jQ
   have hr0:ready ops listed i0=true:=by
    refine(jW hs Um).2 ⟨hl0,λe he=>?_⟩;have hlt:=hF.edge i0 _ (Array.getElem?_eq_getElem Um) e he;rcases hb:listed.getD e.on false with _|_
    ·have:=jQ e.on ⟨Um,hb⟩;omega
    ·rfl
   have BN:i0∈(List.range ops.size).filter (ready ops listed):=List.mem_filter.2 ⟨by simp;omega,hr0⟩
   have hpos:0<((List.range ops.size).filter (ready ops listed)).length:=length_pos_of_mem BN
   have hlt:=Nat.mod_lt t hpos;rw[go_succ,getElem?_eq_getElem hlt];have sS:((List.range ops.size).filter (ready ops listed))[t % ((List.range ops.size).filter (ready ops listed)).length]∈(List.range ops.size).filter (ready ops listed):=getElem_mem hlt;generalize ((List.range ops.size).filter (ready ops listed))[t % ((List.range ops.size).filter (ready ops listed)).length]=j at sS;obtain⟨hjn,hrj⟩:=List.mem_filter.1 sS;simp only[mem_range]at hjn;obtain⟨hlj,hej⟩:=(jW hs hjn).1 hrj;have hoj:ops[j]? = some ops[j]:=Array.getElem?_eq_getElem hjn
   have hjD:j<D.length+1:=by
    rcases Nat.lt_or_ge j (D.length+1)with h|h
    ·exact h
    ·have hb:=hF.tail i0 j Um hjn (by simpa using h)
     have:=lq hS hoj hb hej;rw[hl0]at this;cases this
   have hS':∀i,(listed.setIfInBounds j true).getD i false=(listed.getD i false || i == j):=u7 Um
   obtain⟨rest,hrest,hwp⟩:=ih (t / ((List.range ops.size).filter (ready ops listed)).length) (listed.setIfInBounds j true) (j::acc) (by simpa using hs) (by
    intro i o hi ho e he;rw[hS']at hi ⊢;simp only[Bool.or_eq_true]at hi ⊢;rcases hi with hi|hi
    ·exact .inl (hS i o hi ho e he)
    ·have:i=j:=by simpa using hi
     subst this;rw[hoj]at ho;cases ho
     exact .inl (hej e he)) (by
    intro i hi;rw[hS',hno i hi];have:(i == j)=false:=by simp;omega
    rw[this];rfl) (by
    have:=filter_lt (p:=λi=>!listed.getD i false) (q:=λi=>!(listed.setIfInBounds j true).getD i false) (λi hi=>by
     rw[hS']at hi;simp only[Bool.not_or,Bool.and_eq_true]at hi;exact hi.1) (List.range ops.size) ⟨j,by simpa using hjn,by rw[hlj];rfl,by rw[hS'];simp⟩
    omega)
   refine⟨j::rest,by dsimp only;rw[hrest];simp,λa w hd=>?_⟩;obtain⟨b,os',hor,hd⟩:=hd;have hFb:∀b,lC ops ((wA D b).map Prod.snd):=λb=>by rw[Us];exact hF
   rcases Nat.lt_or_ge j D.length with hjm|hjm
   ·
    have hdj:D[j]? = some D[j]:=getElem?_eq_getElem hjm
    have P5:(wA D b)[j]? = some D[j]:=by rw[EG hjm];exact hdj
    have hSt:=hst j ops[j] D[j] hoj hdj;rw[<- LF ops D b t0 (Nat.le_of_lt hjm)]at hSt
    have hSm:(listed.setIfInBounds j true).getD D.length false=listed.getD D.length false:=by
     rw[hS'];have:(D.length == j)=false:=by simp;omega
     rw[this,Bool.or_false]
    have hmore:∀c cells,O os c=some cells->O os' c=some cells:=by
     intro c cells hc;rcases hor with⟨_,rfl⟩|⟨_,hb,rfl⟩
     ·exact hc
     ·have:=hb c cells hc;simp only[O];rw[if_neg (by simpa using λe=>this e.symm)];exact hc
    have xF:∀k,k∈slotsOf ops ops[j]->T (dP ops (wA D b) t0 ((List.range (D.length+1)).filter λi=>listed.getD i false)) k=T (dP ops (wA D b) t0 (List.range j)) k:=λk hk=>by
     have:=Cw (hFb b) hS hoj (by rw[AJ];omega) hlj hej t0 hk
     rwa [AJ]at this
    have bZ:∀a' w',Den L B F0 w0 ⟨n,upd ops[j] D[j].1 D[j].2 (dP ops (wA D b) t0 ((List.range (D.length+1)).filter λi=>listed.getD i false)),os'⟩ a' w'->wpOps P ops Q rest a' w':=λa' w' h'=>by
     refine hwp a' w' ⟨b,os',by show (_=false/\_)\/(_=true/\_);simp only[hSm];exact hor,?_⟩;have:=step_eq (hFb b) hS hoj P5 hlj hS' t0;rw[AJ]at this;exact di.congr h' this
    have GW:LOp L P ⟨n,fu (dP ops (wA D b) t0 (List.range j)) (slotsOf ops ops[j]),os⟩ ops[j] D[j].1 D[j].2->(ops[j]).wp P a w (wpOps P ops Q rest) Q:=λhl =>
     ((hl.CD xF hSt.sub).more hmore).opW hSt.dst (K:=λs'=>s'=⟨n,upd ops[j] D[j].1 D[j].2 (dP ops (wA D b) t0 ((List.range (D.length+1)).filter λi=>listed.getD i false)),os'⟩) rfl B F0 w0 a w _ Q hd λs' a' w' e h'=>by
      subst e;exact bZ a' w' h'
    rcases hSt.run with⟨hg,hl⟩|⟨gi,want,oj,d,G,g,x0,hg,hgi,hgd,hgl,hT,hx,hC,h1⟩
    ·simp only[wpOps,hoj];rw[if_pos (by simp[Region.wanted,hg])];exact .inl (GW hl)
    ·have hk:d∈slotsOf ops ops[j]:=by simp[slotsOf,hg,hgi,hgd]
     have hy:=qI hd hgi hgd (by rw[xF d hk];exact hT) hgl;simp only[wpOps,hoj,Region.wanted,hg,hy]
     cases hw:(G && (g == want))with
     | true =>
      have hl:=(h1 hw).cnd;rw[hw]at hx;rw[<- hx,<- hC]at hl;simp at hw;obtain⟨rfl,rfl⟩:=hw;rw[if_pos Xp];exact .inl (GW hl)
     | false =>
      rw[if_neg (by cases G<;>simp_all)];refine bZ _ _ ?_;obtain⟨F,own,fp,fs,h⟩:=hd;have:=h.put (x:=.cnd false x0) (v:=undef) (fx:=[]) [] (ops[j]).dst hSt.dst (Kp.refl _ _) (λ_ h=>h) (λ_ h=>.inl h) (by simp[Rep]) Xp Xp;rw[hx,hC,hw];exact this
   ·
    have hj:j=D.length:=by omega
    subst hj;have he:ops[D.length]=oa:=by rw[hoj]at hoa;exact Option.some.inj hoa
    rcases hor with⟨_,rfl⟩|⟨h,_⟩
    ·simp only[wpOps,hoj];rw[if_pos (by simp[Region.wanted,he,hga])];refine .inl ?_;rw[he];refine xS (L:=L) hop hda hz B F0 w0 a w _ Q hd ?_;rintro s' a' w' ⟨b',hb',rfl⟩ h';refine hwp a' w' ⟨b',_,.inr ⟨by simp only[hS'];simp,hb',rfl⟩,?_⟩;have h2:=step_eq (hFb b') hS hoj (QJ D b') hlj hS' t0;rw[AJ,he]at h2;refine di.congr h' λk=>?_;rw[<- h2 k]
     congr 2
     refine rD ops _ _ λi hi=>?_;rw[mem_filter,mem_range]at hi;have hne:i≠D.length:=λe=>by rw[e,hlj]at hi;exact absurd hi.2 Xp
     rw[EG Um,EG Um]
    ·simp only[hlj]at h;cases h
theorem AW.Rt [hM:iS P]{s:AS}{Q:Exit->AS->Prop}{id:Nat}{ops:Array Oper}
  (h:lB L P ops s.n s.o (λt D=>∃oa ty' zs,ops[D.length]? = some oa/\oa.guard=none/\oa.op=.alloc ty'/\dn s.n oa.dst=true/\zer P ty'=some zs/\drawOK ops (D.map Prod.snd++[[]])=true /\
   ∀b,iy s.o b->iR L P ops (range' (D.length+1) (ops.size - (D.length+1))) ⟨s.n,upd oa (.ptr b 0) [] t,(b,some (zs.map avz))::s.o⟩ (λs'=>Q .normal s')) 0 s.t []) :
  AW L P (.region id ops true) s Q:=by
 intro B F0 w0 a w hd;obtain⟨D,⟨oa,ty',zs,hoa,hga,hop,hda,hz,hok,htl⟩,hst⟩:=h.inv (t0:=s.t) rfl rfl Xp;have hF:=rV hok;refine wp_region_draw λt=>?_
 have GU:Region.schedule (P.follows .mixedOrders) ops t=Region.linearise .any ops t:=by
  simp[Region.schedule,hM.h]
 rw[GU]
 have hre:∀i,(Array.replicate ops.size false).getD i false=false:=by
  intro i;rw[Array.getD_eq_getD_getElem?,Array.getElem?_replicate];split<;>rfl
 obtain⟨rest,hrest,hwp⟩:=Tu (Q:=λe a' w'=>∃s',Q e s'/\Den L B F0 w0 s' a' w') (B:=B) (F0:=F0) (w0:=w0) hF hoa hga hop hda hz hst htl (λs' a' w' h1 h2=>⟨s',h1,h2⟩) ops.size t (Array.replicate ops.size false) [] Xp (by
  intro j o hj
  rw[hre]at hj;cases hj) (λj _=>hre j) (by
  have:=length_filter_le (λi=>!(Array.replicate ops.size false).getD i false) (List.range ops.size)
  simpa using this)
 unfold Region.linearise;rw[hrest];simp only[reverse_nil,nil_append];refine hwp a _ ⟨0,s.o,.inl ⟨hre _,rfl⟩,?_⟩
 have:(List.range (D.length+1)).filter (λi=>(Array.replicate ops.size false).getD i false)=[]:=by
  rw[filter_eq_nil_iff];intro i _;rw[hre];simp
 rw[this];exact hd.drew
def yU(P:Program)(ops:Array Oper)(n:Nat)(o:Sto)(D:List (AV×List Nat))(t:faa)(R:List Nat->faa->Sto->Prop):Prop :=
 match ops[D.length]? with
 | some oa=>match oa.op with
  | .alloc ty'=>match zer P ty' with
   | some zs=>oa.guard.isNone=true/\dn n oa.dst=true/\drawOK ops (D.map Prod.snd++[[]])=true /\
    ∀b,nfO o b->R (range' (D.length+1) (ops.size - (D.length+1))) (upd oa (.ptr b 0) [] t) ((b,some (zs.map avz))::o)
   | none=>False
  | _=>False
 | none=>False
def yU.out{ops:Array Oper}{o:Sto}{D:List (AV×List Nat)}{t:faa}{R:List Nat->faa->Sto->Prop}(h:yU P ops n o D t R) :
  ∃oa ty' zs,ops[D.length]? = some oa/\oa.guard=none/\oa.op=.alloc ty'/\dn n oa.dst=true/\zer P ty'=some zs/\drawOK ops (D.map Prod.snd++[[]])=true /\
   ∀b,iy o b->R (range' (D.length+1) (ops.size - (D.length+1))) (upd oa (.ptr b 0) [] t) ((b,some (zs.map avz))::o):=by
 unfold yU at h;split at h
 ·rename_i oa hoa;split at h
  ·rename_i ty' hop;split at h
   ·rename_i zs hz;obtain⟨h1,h2,h3,h4⟩:=h;exact⟨oa,ty',zs,hoa,by simpa using h1,hop,h2,hz,h3,λb hb=>h4 b hb.nf⟩
   ·exact h.elim
  ·exact h.elim
 ·exact h.elim
section
variable {t : List (Nat × AV)} {o : Sto} {Q : Exit -> AS -> Prop} {id : Nat} {ops : Array Oper}
theorem AW.Fv [iS P]{c:Code} (h:∀K:faa->List (AV×List Nat)->Prop,(∀t D,yU P ops n o D t (λl t o=>∀K':faa->Sto->Prop,(∀t o,AW L P c ⟨n,t,o⟩ Q->K' t o)->Wn L P ops n K' l [] t o)->K t D) ->
   W L P ops [] n o (λt D _=>K t D) (range' 0 ops.size) t []):AW L P (.seq (.region id ops true) c) ⟨n,t,o⟩ Q :=
 AW.seq (AW.Rt (W.draw _ 0 _ _ rfl (h _ (λt D h=>by
  obtain⟨oa,ty',zs,h1,h2,h3,h4,h5,h6,h7⟩:=h.out
  exact⟨oa,ty',zs,h1,h2,h3,h4,h5,h6,λb hb=>Wn.pR (K:=λt o=>AW L P c ⟨n,t,o⟩ Q) (λ_ _ h=>h) _ _ _ (h7 b hb _ (λ_ _ h=>h))⟩))))
theorem AW.Lp [iS P] (h:∀K:faa->List (AV×List Nat)->Prop,(∀t D,yU P ops n o D t (λl t o=>∀K':faa->Sto->Prop,(∀t o,Q .normal ⟨n,t,o⟩->K' t o)->Wn L P ops n K' l [] t o)->K t D) ->
   W L P ops [] n o (λt D _=>K t D) (range' 0 ops.size) t []):AW L P (.region id ops true) ⟨n,t,o⟩ Q :=
 AW.Rt (W.draw _ 0 _ _ rfl (h _ (λt D h=>by
  obtain⟨oa,ty',zs,h1,h2,h3,h4,h5,h6,h7⟩:=h.out
  exact⟨oa,ty',zs,h1,h2,h3,h4,h5,h6,λb hb=>Wn.pR (K:=λt o=>Q .normal ⟨n,t,o⟩) (λ_ _ h=>h) _ _ _ (h7 b hb _ (λ_ _ h=>h))⟩)))
end
attribute [go_sem] yU
end
section
variable {L : Nat -> Nat} {n : Nat} {t : List (Nat × AV)} {o : Sto} {Q : AS -> Prop}
def Imp.Yq{b sz:Nat}{l:List AV}(pre post:List AV)(hO:O o b=some (pre++([.sl true sz l]++post)))(h:∀p m c,Q ⟨n,t,ic o b (some (pre++([.pin (.slice p m c) (.sl true sz l)]++post)))⟩):Imp L ⟨n,t,o⟩ Q :=
 Imp.yh hO λvs=>by
  classical
  by_cases hv:∃p m c,vs=[.slice p m c]
  ·obtain⟨p,m,c,rfl⟩:=hv;refine⟨_,h p m c,λF w f r=>?_⟩;simp only[au]at r ⊢;obtain⟨y,vs',f1,f2,e,hf,hr,hn⟩:=r;cases e;refine⟨_,_,f1,f2,rfl,hf,?_,hn⟩;rw[Rep];exact⟨rfl,hr⟩
  ·refine⟨_,h none 0 0,λF w f r=>absurd ?_ hv⟩;simp only[au]at r;obtain⟨y,vs',f1,f2,rfl,hf,hr,rfl,_⟩:=r;simp only[Rep]at hr;rcases hr with⟨e|⟨e,_⟩,_⟩|⟨b,off,cap,vals,fp',e,_⟩
   ·exact⟨_,_,_,by rw[e]⟩
   ·cases e
   ·exact⟨_,_,_,by rw[e]⟩
end
open Go.RowKit (Below)
def MR{α:Type}(l:List α){i j:Nat}(hij:i<=j):l=l.take i++((l.take j).drop i++l.drop j):=by
 have h1:l.take i=(l.take j).take i:=by rw[take_take,Nat.min_eq_left hij]
 rw[<- append_assoc,h1,take_append_drop,take_append_drop]
def EY(P:Program)(f:FuncId)(sz:Nat):Prop :=
 ∀(w:World) (b n cap i j:Nat) (c:Array Value) (Ty:TypeId),w.heap[b]? = some (.cells c Ty (0,0))->n<=cap->cap * sz<=c.size->n<=4611686018427387904->i<j->j<=n->(∀(k:Nat) (v:Value),k<n * sz->c[k]? = some v->v.oneCell'=true) ->
  Calls P f #[.slice (some ⟨b,0,none⟩) n cap,.int .i64 i,.int .i64 j] w λe w'=>e=.returned (.slice (some ⟨b,0,none⟩) (n - (j - i)) cap) /\
   ∃c':Array Value,w'.heap[b]? = some (.cells c' Ty (0,0))/\c'.size=c.size/\(∀k,k<i * sz->c'[k]? = c[k]?)/\(∀k,k<(n - j) * sz->c'[i * sz+k]? = c[j * sz+k]?)/\Kp (λk=>k<w.heap.size/\k≠b) w w'
theorem EY.ctr{L:gaa}{P:Program}{f:FuncId}{sz:Nat}(he:enters P f=true)(hf:EY P f sz)(hL:L sz<=4611686018427387904){b i j:Nat}{l:List AV}(hel:∀x,x∈l->x.elem sz=true)(hone:(l.flatMap AV.cells).all AV.one=true) :
  Ctr L P f [(b,some (l.flatMap AV.cells))] [.arr b 0 l.length sz,.v (.int .i64 i),.v (.int .i64 j)] (.sl true sz (l.take i++l.drop j)) [none] (i<j/\j<=l.length):=by
 refine⟨he,?_⟩;rintro⟨hij,hj⟩ B F own fs w vs hS hr;obtain⟨hkey,hnd,hfo,c,Ty,vals,rst,hc,hcl,hl⟩:=hS.obj b _ (eM b _ _);simp only[au,Rep]at hr;obtain⟨y1,_,_,_,rfl,_,⟨_,cap,rfl,KY,hnL,iO⟩,y2,_,_,_,rfl,_,⟨rfl,_⟩,y3,_,_,_,rfl,_,⟨rfl,_⟩,rfl,_⟩:=hr;obtain⟨c0,Ty0,hc0,hcs⟩:=iO;rw[hc]at hc0;cases hc0;rw[Nat.zero_add]at hcs;have hlen:=dw hel
 have hvl:=hl.len;rw[hlen]at hvl
 have hget:∀k,k<vals.length->c[k]? = vals[k]?:=λk hk=>by
  rw[<- Array.getElem?_toList,hcl,getElem?_append_left hk]
 have e3:=MR l (Nat.le_of_lt hij)
 have hl':=hl;rw[e3,flatMap_append,flatMap_append]at hl';obtain⟨v1,v23,f1,f23,hv,hfs,r1,r23⟩:=hl'.split;obtain⟨v2,v3,f2,f3,rfl,rfl,r2,r3⟩:=r23.split;have C2:∀x,x∈l.take i->x.elem sz=true:=λx hx=>hel x (mem_of_mem_take hx)
 have qz:∀x,x∈(l.take j).drop i->x.elem sz=true:=λx hx=>hel x (mem_of_mem_take (mem_of_mem_drop hx))
 have Wd:∀x,x∈l.drop j->x.elem sz=true:=λx hx=>hel x (mem_of_mem_drop hx)
 have n1:v1.length=i * sz:=by rw[r1.len,dw C2,length_take,Nat.min_eq_left Um]
 have n2:v2.length=(j - i) * sz:=by rw[r2.len,dw qz,length_drop,length_take,Nat.min_eq_left hj]
 have n3:v3.length=(l.length - j) * sz:=by rw[r3.len,dw Wd,length_drop]
 have YR:=hl.ones hone;refine(hf w b l.length cap i j c Ty hc KY hcs (Nat.le_trans hnL hL) hij hj (λk v hk hv'=>?_)).mono ?_
 ·rw[hget k Um]at hv';exact YR v (mem_of_getElem? hv')
 rintro e w' ⟨rfl,c',hc',hsz,h1,h2,hK⟩
 have hFS:∀k,F k->F k/\(k<w.heap.size/\k≠b):=λk hk=>⟨hk,(hS.fl k hk).2.1,λe=>by have:=(hS.fl k hk).1;rw[e,hkey]at this;cases this⟩
 have hsub:∀k,k∈f1\/k∈f3->k∈fs b:=λk hk=>by rw[hfs];rcases hk with h|h<;>simp[h]
 have hin:∀k,k∈f1\/k∈f3->k<w.heap.size/\k≠b:=λk hk=>by
  have:=hfo k (hsub k hk);exact⟨(hS.ol k (by rw[this];simp)).2,λe=>by rw[e,hkey]at this;cases this⟩
 have cV:Ext (λk=>k<w.heap.size/\k≠b) w w':=⟨hK.size,hK.block,hK.shape⟩
 have q1:=au.ext cV hFS (λk hk=>hin k (.inl hk)) r1
 have q3:=au.ext cV hFS (λk hk=>hin k (.inr hk)) r3
 have hbB:¬B b:=(hS.ol b (by rw[hkey];simp)).1
 have hbw:b<w.heap.size:=(hS.ol b (by rw[hkey];simp)).2
 have PZ:f1.Nodup/\f3.Nodup/\∀a∈f1,∀a'∈f3,a≠a':=by
  rw[hfs,nodup_append,nodup_append]at hnd;exact⟨hnd.1,hnd.2.1.2.1,λa ha a' ha'=>hnd.2.2 a ha a' (by simp[ha'])⟩
 have hll:(l.take i++l.drop j).length=l.length - (j - i):=by
  rw[length_append,length_take,length_drop];omega
 have ho:∀k,k∈b::(f1++f3)->¬B k/\k<w.heap.size/\¬F k:=λk hk=>by
  have:own k≠.none:=by
   rcases List.mem_cons.1 hk with rfl|hk
   ·rw[hkey];simp
   ·rw[hfo k (hsub k (List.mem_append.1 hk))];simp
  exact⟨(hS.ol k this).1,(hS.ol k this).2,λhF=>this (hS.fl k hF).1⟩
 classical
 refine⟨_,_,[(b,none)],F,λk=>if k∈b::(f1++f3) then .slot 0 else .none,λ_=>[],b::(f1++f3),rfl,⟨rfl,rfl⟩,{ below:=hK.mono λk hk=>⟨hS.hB k hk,λe=>hbB (e ▸ hk)⟩,hB:=λk hk=>Nat.lt_of_lt_of_le (hS.hB k hk) hK.size,tb:=hS.tb,f0:=hS.f0,fl:=λk hk=>⟨?_,Nat.lt_of_lt_of_le (hS.fl k hk).2.1 hK.size,(hS.fl k hk).2.2⟩,ol:=λk hk=>?_,obj:=?_ },?_,?_,λk hk=>if_pos hk⟩
 ·rw[if_neg λhm=>(ho k hm).2.2 hk]
 ·by_cases hm:k∈b::(f1++f3)
  ·exact⟨(ho k hm).1,Nat.lt_of_lt_of_le (ho k hm).2.1 hK.size⟩
  ·rw[if_neg hm]at hk;exact absurd rfl hk
 ·intro q cs hq;simp only[O]at hq;split at hq<;>cases hq
 ·simp only[Rep];refine .inr ⟨b,0,cap,v1++v3,f1++f3,by rw[hll],by rw[hll];omega,by rw[hll];omega,⟨c',Ty,_,hc',λk hk=>?_⟩,au.nM (λx hx=>?_) ?_,.inl ⟨by trivial,rfl,rfl,c',Ty,hc',Um⟩⟩
  ·rw[Nat.zero_add];rw[length_append,n1,n3]at hk;by_cases hk1:k<i * sz
   ·rw[h1 k hk1,getElem?_append_left Um,hget k (by rw[hv];simp only[length_append];omega),hv,getElem?_append_left Um]
   ·have e4:=h2 (k - i * sz) Um;rw[show i * sz+(k - i * sz)=k by omega]at e4;have hjj:j * sz=i * sz+(j - i) * sz:=by rw[<- Nat.add_mul];congr 1;omega
    rw[e4,getElem?_append_right Um,hget _ (by rw[hv];simp only[length_append];omega),hv,getElem?_append_right Um,getElem?_append_right Um]
    congr 1
    omega
  ·rcases List.mem_append.1 hx with hx|hx
   ·exact C2 x hx
   ·exact Wd x hx
  ·rw[flatMap_append];exact q1.join q3
 ·rw[nodup_cons,nodup_append];refine⟨λhm=>?_,PZ.1,PZ.2.1,PZ.2.2⟩;exact(hin b (List.mem_append.1 hm)).2 rfl
def Cx{P:Program}(w:World)(t e ty:TypeId)(i:TypeInfo)(z:Value)(ht:P.underlying t=some (.slice e))(hi:P.info? e=some i)(hz:i.zero=some z)(b o n c:Nat)(hn:0<n)(cur:Array Value)(Ty:TypeId)
  (hg:w.heap[b]? = some (.cells cur Ty (0,0))) (hfit:o+n * z.cells.size<=cur.size) (h1:∀v∈(Builtin.zeroCells z.cells n).toList,v.oneCell'=true) :
  (Builtin.clear_ #[t] ty #[.slice (some ⟨b,o,none⟩) n c]).run P w=.ok (.tuple #[]) (w.setRow b (cur.toList.take o++(Builtin.zeroCells z.cells n).toList++cur.toList.drop (o+n * z.cells.size)).toArray):=by
 have hl:(Builtin.zeroCells z.cells n).toList.length=n * z.cells.size:=by simp[Builtin.zeroCells]
 have hst:=run_storeCells_at P b o Ty (Builtin.zeroCells z.cells n).toList 0 cur w hg (by rw[hl];simpa using hfit) h1;simp only[Nat.add_zero,hl]at hst
 obtain⟨m,rfl⟩:∃m,n=m+1:=⟨n - 1,Um⟩
 simp[Builtin.clear_,run_underlying ht,zeroValue,typeInfo,hi,hz,hst]
def Fj{P:Program}{ops:Array Oper}{o:Oper}{a:Act}{w:World}{K:Act->World->Prop}{Q:Exit->Act->World->Prop}{E:Prop}
  (hg:o.guard=none) (s x:Operand) (t:TypeId) (hop:o.op=Op.call { callee:=Callee.builtin Builtin.append,args:=#[s,x],argTypes:=#[t,t] })
  (e:TypeId) (i:TypeInfo) (size:Nat) (h1:P.underlying t=some (.slice e)) (h2:P.info? e=some i) (h4:i.size=size)
  (b n cap:Nat) (hs:a.eval s=.slice (some ⟨b,0,none⟩) n cap) (ad:Addr) (m c:Nat) (news:List Value) (hx:a.eval x=.slice (some ad) m c) (hn:news.length=m * size) (hc:∀j u,news[j]? = some u->w.cell? (ad.add j)=some u) (h1c:∀u∈news,u.oneCell'=true)
  (hroom:n+m<=cap) (k:Nat) (hk:n+m=k) (cur:Array Value) (Ty:TypeId) (hrow:w.heap[b]? = some (.cells cur Ty (0,0))) (hfit:n * size+news.length<=cur.size)
  (hK:K (a.put o.dst (.slice (some ⟨b,0,none⟩) k cap)) (w.setRow b (cur.toList.take (n * size)++news++cur.toList.drop (n * size+news.length)).toArray)) :
  if Region.wanted o (yielded ops a.tmps)=true then Oper.wp P o a w K Q else E:=by
 have hw:Region.wanted o (yielded ops a.tmps)=true:=by simp[Region.wanted,hg]
 rw[if_pos hw];subst h4 hk
 have hrun:=wv (tyr:=o.type) h1 h2 (u:=t) (x:=.slice (some ad) m c) (n:=m) (news:=news) (w:=w) ⟨.inl ⟨e,h1⟩,λw'=>by simp[Builtin.lenOf],λw' hw'=>run_firstCells_some (P:=P) w' i.size m ad m c news hn λj v hj=>by
  have:=hc j v hj
  simpa[World.cell?,hw']using this⟩ b n cap cur Ty hrow h1c hroom hfit
 unfold Oper.wp;simp[execOp,hop,resolve,invoke,builtin,hs,hx,hrun,Result.andThen,-append_assoc];exact hK
