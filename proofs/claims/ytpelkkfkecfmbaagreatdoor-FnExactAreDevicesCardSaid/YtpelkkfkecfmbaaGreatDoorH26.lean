/- Part of a proof. -/
import Derived.Test.YtpelkkfkecfmbaaGreatDoorH25
set_option linter.all false
set_option maxRecDepth 20000
set_option maxHeartbeats 4000000
open Go.Proofs.Tryz
namespace Go.Ab
open Go.RowKit (Below)
section
variable {L : Nat -> Nat} {P : Program} {n : Nat}
def LOp.more{t:daa}{os os':Sto}{o:Oper}{x:AV}{C:List Nat}(h:LOp L P ⟨n,t,os⟩ o x C)(ho:∀ c cells,O os c=some cells->O os' c=some cells):LOp L P ⟨n,t,os'⟩ o x C:=by
 intro B F0 w0 F own fp fs a w next Q hd bF
 exact h B F0 w0 F own fp fs a w next Q { hd with obj:=fun b cells hb=>hd.obj b cells (ho b cells hb) } bF
def xm{t:daa}{os:Sto}{o:Oper}{ty':TypeId}{zs:List Value}(hop:o.op=.alloc ty')(hd:cz n o.dst=true)(hz:zer P ty'=some zs) :
  OpW L P o ⟨n,t,os⟩ (fun s'=>∃ b,fU os b/\s'=⟨n,upd o (.ptr b 0) [] t,(b,some (zs.map avz))::os⟩):=by
 intro B F0 w0 a w next Q cr bF
 have hfr:fU os w.heap.size:=by obtain ⟨F,own,fp,fs,hd'⟩:=cr;exact hd'.fresh
 obtain ⟨F,own,fp,fs,hD⟩:=cr;obtain ⟨z,hzc,hzr⟩:=xx hz
 have hrun:(execOp a.eval o).run P w=.ok (.value (.pointer (some ⟨w.heap.size,0,none⟩))) (w.alloc (.cells z.cells ty')):=by
  simp [execOp,hop,Instr.alloc,hzr,newVar,newRow]
 unfold Oper.wp;rw [hrun];refine bF ⟨n,upd o (.ptr w.heap.size 0) [] t,(w.heap.size,some (zs.map avz))::os⟩ _ _ ⟨_,hfr,rfl⟩ ?_
 exact hD.renew [] [] w.heap.size (zs.map avz) [] o.dst hd ⟨rfl,rfl,rfl⟩ (Ext.alloc w _ []) QC (.inr ⟨Nat.le_refl _,QC⟩)
  ⟨z.cells,ty',zs,[],fM w _,by simp [hzc],au.plain zs⟩ QC QC (by simp [Rep])
def qz(ops:Array Oper){D D':List (AV×List Nat)}:∀ (l:List Nat) (t:daa),(∀ i,i∈l->D[i]? = D'[i]?)->cV ops D t l=cV ops D' t l
 | [],t,_=>rfl
 | i::l,t,h=>by
  simp only [cV];rw [h i QC];exact qz ops l _ fun k hk=>h k (by simp [hk])
def wA(D:List (AV×List Nat))(b:Nat):List (AV×List Nat):=D++[(.ptr b 0,[])]
def Ur(D:List (AV×List Nat))(b:Nat):(wA D b).map Prod.snd=D.map Prod.snd++[[]]:=by simp [wA]
def Ae(D:List (AV×List Nat))(b:Nat):(wA D b).length=D.length+1:=by simp [wA]
def El{D:List (AV×List Nat)}{b i:Nat}(h:i<D.length):(wA D b)[i]? = D[i]?:=List.getElem?_append_left h
def QG(D:List (AV×List Nat))(b:Nat):(wA D b)[D.length]? = some (.ptr b 0,[]):=by simp [wA]
def LW(ops:Array Oper)(D:List (AV×List Nat))(b:Nat)(t:daa){j:Nat}(h:j<=D.length):cV ops (wA D b) t (List.range j)=cV ops D t (List.range j) :=
 qz ops _ _ fun i hi=>El (by simp at hi;omega)
def StA(L:eaa)(n:Nat)(ops:Array Oper)(D:List (AV×List Nat))(t0:daa)(os:Sto)(cs:List AV)(B F0:faa)(w0:World)(S:Nat->Bool)(a:Act)(w:World):Prop :=
 ∃ b os',((S D.length=false/\os'=os)\/(S D.length=true/\fU os b/\os'=(b,some cs)::os))/\Den L B F0 w0 ⟨n,cV ops (wA D b) t0 ((List.range (D.length+1)).filter S),os'⟩ a w
def Tl{ops:Array Oper}{os:Sto}{t0:daa}{D:List (AV×List Nat)}{K:AS->Prop}{B:faa}{F0:faa}{w0:World}{Q:Exit->Act->World->Prop}{oa:Oper}{ty':TypeId}{zs:List Value}(hF:jC ops (D.map Prod.snd++[[]]))
  (hoa:ops[D.length]? = some oa) (hga:oa.guard=none) (hop:oa.op=.alloc ty') (hda:cz n oa.dst=true) (hz:zer P ty'=some zs)
  (hst:∀ j o d,ops[j]? = some o->D[j]? = some d->ub L P ops n os (cV ops D t0 (List.range j)) o d.1 d.2)
  (htl:∀ b,fU os b->lU L P ops (List.range' (D.length+1) (ops.size - (D.length+1))) ⟨n,upd oa (.ptr b 0) [] (cV ops D t0 (List.range D.length)),(b,some (zs.map avz))::os⟩ K) (hQ:∀ s' a' w',K s'->Den L B F0 w0 s' a' w'->Q .normal a' w') :
  ∀ (fuel t:Nat) (listed:Array Bool) (acc:List Nat),listed.size=ops.size->o8 ops (fun i=>listed.getD i false=true)->(∀ j,D.length+1<=j->listed.getD j false=false)->((List.range ops.size).filter fun i=>!listed.getD i false).length<=fuel ->
  ∃ rest,Region.linearise.go .any ops fuel t listed acc=acc.reverse++rest/\∀ a w,StA L n ops D t0 os (zs.map avz) B F0 w0 (fun i=>listed.getD i false) a w->wpOps P ops Q rest a w:=by
 intro fuel;have GH:D.length+1<=ops.size:=by have:=hF.le;simpa using this
 have hend:∀ (listed:Array Bool),(∀ i,i<D.length+1->listed.getD i false=true)->∀ a w,StA L n ops D t0 os (zs.map avz) B F0 w0 (fun i=>listed.getD i false) a w->wpOps P ops Q (List.range' (D.length+1) (ops.size - (D.length+1))) a w:=by
  rintro listed hall a w ⟨b,os',hor,hd⟩;rcases hor with ⟨h,_⟩|⟨_,hb,rfl⟩
  ·have h:listed.getD D.length false=false:=h;rw [hall D.length Ir] at h;cases h
  have zI:(List.range (D.length+1)).filter (fun i=>listed.getD i false)=List.range (D.length+1):=by
   rw [List.filter_eq_self];intro i hi;exact hall i (by simpa using hi)
  rw [zI,List.range_succ,lA,hoa,QG,LW ops D b t0 (Nat.le_refl _)] at hd;exact htl b hb B F0 w0 a w Q hd hQ
 induction fuel with
 | zero =>
  intro t listed acc hs hS hno wT;have hnil:(List.range ops.size).filter (fun i=>!listed.getD i false)=[]:=List.eq_nil_of_length_eq_zero Ir;rw [List.filter_eq_nil_iff] at hnil;have hall:∀ i,i<ops.size->listed.getD i false=true:=fun i hi=>by simpa using hnil i (by simpa using hi)
  have hD:D.length+1=ops.size:=by
   rcases Nat.lt_or_ge (D.length+1) ops.size with h|h
   ·have:=hall (D.length+1) h;rw [hno (D.length+1) (Nat.le_refl _)] at this;cases this
   ·omega
  refine ⟨[],by simp [Region.linearise.go],fun a w hd=>?_⟩;have:=hend listed (fun i hi=>hall i Ir) a w hd;rw [show ops.size - (D.length+1)=0 by omega] at this;exact this
 | succ fuel ih =>
  intro t listed acc hs hS hno wT;by_cases hall:∀ i,i<D.length+1->listed.getD i false=true
  ·refine ⟨List.range' (D.length+1) (ops.size - (D.length+1)),?_,hend listed hall⟩;refine xU hF (fuel+1) t (D.length+1) acc listed QC GH hs (fun i=>?_) ?_
   ·by_cases e:i<D.length+1
    ·rw [hall i e];simp [e]
    ·rw [hno i Ir];simp [e]
   ·refine Nat.le_trans ?_ wT
    have lG:List.range ops.size=List.range (D.length+1)++(List.range (ops.size - (D.length+1))).map (D.length+1+·):=by
     rw [<- List.range_add];congr 1;omega
    rw [lG,List.filter_append,List.length_append]
    have:((List.range (ops.size - (D.length+1))).map (D.length+1+·)).filter (fun i=>!listed.getD i false)=(List.range (ops.size - (D.length+1))).map (D.length+1+·):=by
     rw [List.filter_eq_self];intro i hi;simp only [List.mem_map,List.mem_range] at hi;obtain ⟨q,_,rfl⟩:=hi;rw [hno _ Ir];rfl
    rw [this];simp
  ·have hex:∃ i,i<D.length+1/\listed.getD i false=false:=by
    rcases Classical.em (∃ i,i<D.length+1/\listed.getD i false=false) with h|h
    ·exact h
    ·exact absurd (fun i hi=>by
      rcases hb:listed.getD i false with _|_
      ·exact absurd ⟨i,hi,hb⟩ h
      ·rfl) hall
   have pJ:=least hex;obtain ⟨i0,⟨hi0,hl0⟩,pJ⟩:=pJ
   have hr0:ready ops listed i0=true:=by
    refine (iO hs Ir).2 ⟨hl0,fun e he=>?_⟩;have hlt:=hF.edge i0 _ (Array.getElem?_eq_getElem Ir) e he;rcases hb:listed.getD e.on false with _|_
    ·have:=pJ e.on ⟨Ir,hb⟩;omega
    ·rfl
   have Br:i0∈(List.range ops.size).filter (ready ops listed):=List.mem_filter.2 ⟨by simp;omega,hr0⟩
   have hpos:0<((List.range ops.size).filter (ready ops listed)).length:=List.length_pos_of_mem Br
   have hlt:=Nat.mod_lt t hpos;rw [go_succ,List.getElem?_eq_getElem hlt];have rM:((List.range ops.size).filter (ready ops listed))[t % ((List.range ops.size).filter (ready ops listed)).length]∈(List.range ops.size).filter (ready ops listed):=List.getElem_mem hlt;generalize ((List.range ops.size).filter (ready ops listed))[t % ((List.range ops.size).filter (ready ops listed)).length]=j at rM;obtain ⟨hjn,hrj⟩:=List.mem_filter.1 rM;simp only [List.mem_range] at hjn;obtain ⟨hlj,hej⟩:=(iO hs hjn).1 hrj;have hoj:ops[j]? = some ops[j]:=Array.getElem?_eq_getElem hjn
   have hjD:j<D.length+1:=by
    rcases Nat.lt_or_ge j (D.length+1) with h|h
    ·exact h
    ·have hb:=hF.tail i0 j Ir hjn (by simpa using h)
     have:=jy hS hoj hb hej;rw [hl0] at this;cases this
   have hS':∀ i,(listed.setIfInBounds j true).getD i false=(listed.getD i false || i == j):=uj Ir
   obtain ⟨rest,hrest,hwp⟩:=ih (t / ((List.range ops.size).filter (ready ops listed)).length) (listed.setIfInBounds j true) (j::acc) (by simpa using hs) (by
    intro i o hi ho e he;rw [hS'] at hi ⊢;simp only [Bool.or_eq_true] at hi ⊢;rcases hi with hi|hi
    ·exact .inl (hS i o hi ho e he)
    ·have:i=j:=by simpa using hi
     subst this;rw [hoj] at ho;cases ho
     exact .inl (hej e he)) (by
    intro i hi;rw [hS',hno i hi];have:(i == j)=false:=by simp;omega
    rw [this];rfl) (by
    have:=filter_lt (p:=fun i=>!listed.getD i false) (q:=fun i=>!(listed.setIfInBounds j true).getD i false) (fun i hi=>by
     rw [hS'] at hi;simp only [Bool.not_or,Bool.and_eq_true] at hi;exact hi.1) (List.range ops.size) ⟨j,by simpa using hjn,by rw [hlj];rfl,by rw [hS'];simp⟩
    omega)
   refine ⟨j::rest,by dsimp only;rw [hrest];simp,fun a w hd=>?_⟩;obtain ⟨b,os',hor,hd⟩:=hd;have hFb:∀ b,jC ops ((wA D b).map Prod.snd):=fun b=>by rw [Ur];exact hF
   rcases Nat.lt_or_ge j D.length with hjm|hjm
   ·
    have hdj:D[j]? = some D[j]:=List.getElem?_eq_getElem hjm
    have PW:(wA D b)[j]? = some D[j]:=by rw [El hjm];exact hdj
    have hSt:=hst j ops[j] D[j] hoj hdj;rw [<- LW ops D b t0 (Nat.le_of_lt hjm)] at hSt
    have hSm:(listed.setIfInBounds j true).getD D.length false=listed.getD D.length false:=by
     rw [hS'];have:(D.length == j)=false:=by simp;omega
     rw [this,Bool.or_false]
    have hmore:∀ c cells,O os c=some cells->O os' c=some cells:=by
     intro c cells hc;rcases hor with ⟨_,rfl⟩|⟨_,hb,rfl⟩
     ·exact hc
     ·have:=hb c cells hc;simp only [O];rw [if_neg (by simpa using fun e=>this e.symm)];exact hc
    have wP:∀ k,k∈slotsOf ops ops[j]->T (cV ops (wA D b) t0 ((List.range (D.length+1)).filter fun i=>listed.getD i false)) k=T (cV ops (wA D b) t0 (List.range j)) k:=fun k hk=>by
     have:=BR (hFb b) hS hoj (by rw [Ae];omega) hlj hej t0 hk
     rwa [Ae] at this
    have bF:∀ a' w',Den L B F0 w0 ⟨n,upd ops[j] D[j].1 D[j].2 (cV ops (wA D b) t0 ((List.range (D.length+1)).filter fun i=>listed.getD i false)),os'⟩ a' w'->wpOps P ops Q rest a' w':=fun a' w' h'=>by
     refine hwp a' w' ⟨b,os',by show (_=false/\_)\/(_=true/\_);simp only [hSm];exact hor,?_⟩;have:=step_eq (hFb b) hS hoj PW hlj hS' t0;rw [Ae] at this;exact cv.congr h' this
    have Gz:LOp L P ⟨n,dP (cV ops (wA D b) t0 (List.range j)) (slotsOf ops ops[j]),os⟩ ops[j] D[j].1 D[j].2->(ops[j]).wp P a w (wpOps P ops Q rest) Q:=fun hl =>
     ((hl.Cb wP hSt.sub).more hmore).opW hSt.dst (K:=fun s'=>s'=⟨n,upd ops[j] D[j].1 D[j].2 (cV ops (wA D b) t0 ((List.range (D.length+1)).filter fun i=>listed.getD i false)),os'⟩) rfl B F0 w0 a w _ Q hd fun s' a' w' e h'=>by
      subst e;exact bF a' w' h'
    rcases hSt.run with ⟨hg,hl⟩|⟨gi,want,oj,d,G,g,x0,hg,hgi,hgd,hgl,hT,hx,hC,h1⟩
    ·simp only [wpOps,hoj];rw [if_pos (by simp [Region.wanted,hg])];exact .inl (Gz hl)
    ·have hk:d∈slotsOf ops ops[j]:=by simp [slotsOf,hg,hgi,hgd]
     have hy:=pW hd hgi hgd (by rw [wP d hk];exact hT) hgl;simp only [wpOps,hoj,Region.wanted,hg,hy]
     cases hw:(G && (g == want)) with
     | true =>
      have hl:=(h1 hw).cnd;rw [hw] at hx;rw [<- hx,<- hC] at hl;simp at hw;obtain ⟨rfl,rfl⟩:=hw;rw [if_pos QC];exact .inl (Gz hl)
     | false =>
      rw [if_neg (by cases G<;>simp_all)];refine bF _ _ ?_;obtain ⟨F,own,fp,fs,h⟩:=hd;have:=h.put (x:=.cnd false x0) (v:=undef) (fx:=[]) [] (ops[j]).dst hSt.dst (Kp.refl _ _) (fun _ h=>h) (fun _ h=>.inl h) (by simp [Rep]) QC QC;rw [hx,hC,hw];exact this
   ·
    have hj:j=D.length:=by omega
    subst hj;have he:ops[D.length]=oa:=by rw [hoj] at hoa;exact Option.some.inj hoa
    rcases hor with ⟨_,rfl⟩|⟨h,_⟩
    ·simp only [wpOps,hoj];rw [if_pos (by simp [Region.wanted,he,hga])];refine .inl ?_;rw [he];refine xm (L:=L) hop hda hz B F0 w0 a w _ Q hd ?_;rintro s' a' w' ⟨b',hb',rfl⟩ h';refine hwp a' w' ⟨b',_,.inr ⟨by simp only [hS'];simp,hb',rfl⟩,?_⟩;have h2:=step_eq (hFb b') hS hoj (QG D b') hlj hS' t0;rw [Ae,he] at h2;refine cv.congr h' fun k=>?_;rw [<- h2 k]
     congr 2
     refine qz ops _ _ fun i hi=>?_;rw [List.mem_filter,List.mem_range] at hi;have hne:i≠D.length:=fun e=>by rw [e,hlj] at hi;exact absurd hi.2 QC
     rw [El Ir,El Ir]
    ·simp only [hlj] at h;cases h
theorem AW.Rd [hM:fQ P]{s:AS}{Q:Exit->AS->Prop}{id:Nat}{ops:Array Oper}
  (h:jB L P ops s.n s.o (fun t D=>∃ oa ty' zs,ops[D.length]? = some oa/\oa.guard=none/\oa.op=.alloc ty'/\cz s.n oa.dst=true/\zer P ty'=some zs/\drawOK ops (D.map Prod.snd++[[]])=true /\
   ∀ b,fU s.o b->lU L P ops (List.range' (D.length+1) (ops.size - (D.length+1))) ⟨s.n,upd oa (.ptr b 0) [] t,(b,some (zs.map avz))::s.o⟩ (fun s'=>Q .normal s')) 0 s.t []) :
  AW L P (.region id ops true) s Q:=by
 intro B F0 w0 a w hd;obtain ⟨D,⟨oa,ty',zs,hoa,hga,hop,hda,hz,hok,htl⟩,hst⟩:=h.inv (t0:=s.t) rfl rfl QC;have hF:=qY hok;refine wp_region_draw fun t=>?_
 have Gx:Region.schedule (P.follows .mixedOrders) ops t=Region.linearise .any ops t:=by
  simp [Region.schedule,hM.h]
 rw [Gx]
 have hre:∀ i,(Array.replicate ops.size false).getD i false=false:=by
  intro i;rw [Array.getD_eq_getD_getElem?,Array.getElem?_replicate];split<;>rfl
 obtain ⟨rest,hrest,hwp⟩:=Tl (Q:=fun e a' w'=>∃ s',Q e s'/\Den L B F0 w0 s' a' w') (B:=B) (F0:=F0) (w0:=w0) hF hoa hga hop hda hz hst htl (fun s' a' w' h1 h2=>⟨s',h1,h2⟩) ops.size t (Array.replicate ops.size false) [] QC (by
  intro j o hj
  rw [hre] at hj;cases hj) (fun j _=>hre j) (by
  have:=List.length_filter_le (fun i=>!(Array.replicate ops.size false).getD i false) (List.range ops.size)
  simpa using this)
 unfold Region.linearise;rw [hrest];simp only [List.reverse_nil,List.nil_append];refine hwp a _ ⟨0,s.o,.inl ⟨hre _,rfl⟩,?_⟩
 have:(List.range (D.length+1)).filter (fun i=>(Array.replicate ops.size false).getD i false)=[]:=by
  rw [List.filter_eq_nil_iff];intro i _;rw [hre];simp
 rw [this];exact hd.drew
def yn(P:Program)(ops:Array Oper)(n:Nat)(o:Sto)(D:List (AV×List Nat))(t:daa)(R:List Nat->daa->Sto->Prop):Prop :=
 match ops[D.length]? with
 | some oa=>match oa.op with
  | .alloc ty'=>match zer P ty' with
   | some zs=>oa.guard.isNone=true/\cz n oa.dst=true/\drawOK ops (D.map Prod.snd++[[]])=true /\
    ∀ b,nfO o b->R (List.range' (D.length+1) (ops.size - (D.length+1))) (upd oa (.ptr b 0) [] t) ((b,some (zs.map avz))::o)
   | none=>False
  | _=>False
 | none=>False
def yn.out{ops:Array Oper}{o:Sto}{D:List (AV×List Nat)}{t:daa}{R:List Nat->daa->Sto->Prop}(h:yn P ops n o D t R) :
  ∃ oa ty' zs,ops[D.length]? = some oa/\oa.guard=none/\oa.op=.alloc ty'/\cz n oa.dst=true/\zer P ty'=some zs/\drawOK ops (D.map Prod.snd++[[]])=true /\
   ∀ b,fU o b->R (List.range' (D.length+1) (ops.size - (D.length+1))) (upd oa (.ptr b 0) [] t) ((b,some (zs.map avz))::o):=by
 unfold yn at h;split at h
 ·rename_i oa hoa;split at h
  ·rename_i ty' hop;split at h
   ·rename_i zs hz;obtain ⟨h1,h2,h3,h4⟩:=h;exact ⟨oa,ty',zs,hoa,by simpa using h1,hop,h2,hz,h3,fun b hb=>h4 b hb.nf⟩
   ·exact h.elim
  ·exact h.elim
 ·exact h.elim
section
variable {t : List (Nat × AV)} {o : Sto} {Q : Exit -> AS -> Prop} {id : Nat} {ops : Array Oper}
theorem AW.Mh [fQ P]{c:Code} (h:∀ K:daa->List (AV×List Nat)->Prop,(∀ t D,yn P ops n o D t (fun l t o=>∀ K':daa->Sto->Prop,(∀ t o,AW L P c ⟨n,t,o⟩ Q->K' t o)->Wn L P ops n K' l [] t o)->K t D) ->
   W L P ops [] n o (fun t D _=>K t D) (List.range' 0 ops.size) t []):AW L P (.seq (.region id ops true) c) ⟨n,t,o⟩ Q :=
 AW.seq (AW.Rd (W.draw _ 0 _ _ rfl (h _ (fun t D h=>by
  obtain ⟨oa,ty',zs,h1,h2,h3,h4,h5,h6,h7⟩:=h.out
  exact ⟨oa,ty',zs,h1,h2,h3,h4,h5,h6,fun b hb=>Wn.oG (K:=fun t o=>AW L P c ⟨n,t,o⟩ Q) (fun _ _ h=>h) _ _ _ (h7 b hb _ (fun _ _ h=>h))⟩))))
theorem AW.Rb [fQ P] (h:∀ K:daa->List (AV×List Nat)->Prop,(∀ t D,yn P ops n o D t (fun l t o=>∀ K':daa->Sto->Prop,(∀ t o,Q .normal ⟨n,t,o⟩->K' t o)->Wn L P ops n K' l [] t o)->K t D) ->
   W L P ops [] n o (fun t D _=>K t D) (List.range' 0 ops.size) t []):AW L P (.region id ops true) ⟨n,t,o⟩ Q :=
 AW.Rd (W.draw _ 0 _ _ rfl (h _ (fun t D h=>by
  obtain ⟨oa,ty',zs,h1,h2,h3,h4,h5,h6,h7⟩:=h.out
  exact ⟨oa,ty',zs,h1,h2,h3,h4,h5,h6,fun b hb=>Wn.oG (K:=fun t o=>Q .normal ⟨n,t,o⟩) (fun _ _ h=>h) _ _ _ (h7 b hb _ (fun _ _ h=>h))⟩)))
end
attribute [go_sem] yn
end
end Go.Ab
namespace Go.Proofs
open Go.Ab Go.Dt
section
def aB.Bj{x y:aB}(h:y∈x.af):SizeOf.sizeOf y<SizeOf.sizeOf x:=by have:=List.sizeOf_lt_of_mem h;cases x;simp [aB.af] at *;omega
theorem yE:∀ (n:Nat) (x:aB),Ctr lim prog 169 [] [.agg (cEx x)] (.agg [.aa x.fOp,.aa x.dn,.str x.bI,.ac x.az.bR,.aa x.az.bG,.sl true 2 (x.az.av.map (aA true)),.sl true 7 (x.af.map (aO true))]) [] (SizeOf.sizeOf x<n)
 | 0,x=>⟨(aU 169),fun h=>absurd h (Nat.not_lt_zero _)⟩
 | n+1,x=>by
  have ih:=yE n;refine Ctr.bd func169 ntmps169 fun hp=>?_;refine AW.f1 0 fun hf=>?_
  (refine Z ?_;refine fun (K:_->_->Prop) hK=>?_;refine gS ?_)
  (refine vN1 ?_;intro h)
  first|refine AW.Mh ?_|refine AW.Rb ?_
  (refine vU1 ?_;intro h h)
  rename_i b2 b3;refine AW.imp (Imp.nG (b:=b3) 7 [_,_,_,_,_,_] [] (fq _ _ _) ?_);refine gS ?_;refine AW.rF [4] [1,2,3] (fun m xs o=>∃ k:Nat,xs=[.aa k]/\o=[(b3,some [.aa x.fOp,.aa x.dn,.str x.bI,.ac x.az.bR,.aa x.az.bG,.sl true 2 (x.az.av.map (aA true)),.sl true 7 ((x.af.take k).map (aO true))]),(b2,some [.aa 0,.aa 0,.str [],.ac false,.aa 0,.v (.slice none 0 0),.v (.slice none 0 0)])]/\m=x.af.length - k/\k<=x.af.length) x.af.length [(b3,some [.aa x.fOp,.aa x.dn,.str x.bI,.ac x.az.bR,.aa x.az.bG,.sl true 2 (x.az.av.map (aA true)),.sl true 7 ((x.af.take 0).map (aO true))]),(b2,some [.aa 0,.aa 0,.str [],.ac false,.aa 0,.v (.slice none 0 0),.v (.slice none 0 0)])] gO ⟨0,rfl,rfl,rfl,Ir⟩ ?_;rintro m xs o ⟨k,rfl,rfl,rfl,hk⟩;have hlt:(x.af.take k).length=k:=by rw [List.length_take];omega
  have hkk:k<x.af.length->SizeOf.sizeOf (at_ x.af k)<n:=fun h=>by have:=aB.Bj (at_mem h);omega
  refine vK1 ?_;refine AW.c (fun h=>?_) fun h=>?_
  ·refine AW.imp (Imp.nX (b0:=b3) (k:=6) (sz:=7) (l:=(x.af.take k).map (aO true)) (fq _ _ _) rfl (fI (fun x=>by rw [dE];rfl) _) (fun b hb=>?_) (fun hnil=>?_))
   ·have hb1:=hb.nf;simp only [go_sem] at hb1;simp only [List.set_cons_zero,List.set_cons_succ,List.length_map]
    (refine vU2 ?_ ?_<;>with_reducible repeat intro h)
    ·rw [db (sz:=7) (fI (fun x=>by rw [dE];rfl) _),List.length_map]
    rename_i g;refine Imp.ED (b0:=b3) (k:=6) (b:=g) (sz:=7) (cells0:=[.aa x.fOp,.aa x.dn,.str x.bI,.ac x.az.bR,.aa x.az.bG,.sl true 2 (x.az.av.map (aA true)),.arr g 0 ((x.af.take k).length+1) 7]) (l:=(x.af.take k).map (aO true)) (aO true (at_ x.af k)) gO (by rw [List.length_map];rfl) (by simp (maxSteps:=2000000) (disch:=omega) only [go_sem];try rfl) Ir (fI (fun x=>by rw [dE];rfl) _) (by rw [dE];rfl) ?_;simp only [List.set_cons_zero,List.set_cons_succ];exact ⟨trivial,_,[_],_,Ir,⟨k+1,rfl,rfl,rfl,Ir⟩,rfl,by rw [gB yG,List.map_append];exact gO;try rfl⟩
   ·simp only [List.set_cons_zero,List.set_cons_succ,hnil];refine vU1 ?_;have hk0:k=0:=by rw [List.map_eq_nil_iff] at hnil;rw [hnil] at hlt;exact hlt.symm
    subst hk0;refine Imp.id ?_;refine gS ?_;exact ⟨_,[_],_,Ir,⟨1,rfl,rfl,rfl,Ir⟩,rfl,by rw [gB yG];exact gO;try rfl⟩
  ·rw [show k=x.af.length by omega,List.take_length]
   all_goals exact uU
instance Xj(x:aB):Ctr lim prog 169 [] [.agg (cEx x)] (.agg [.aa x.fOp,.aa x.dn,.str x.bI,.ac x.az.bR,.aa x.az.bG,.sl true 2 (x.az.av.map (aA true)),.sl true 7 (x.af.map (aO true))]) [] True:=⟨(aU 169),fun _=>(yE (SizeOf.sizeOf x+1) x).out (Nat.lt_succ_self _)⟩
end
section
theorem vF(n:Nat)(ih:∀ l:List ae,Ctr lim prog 86 [] [.sl false 19 (l.map (aq false))] (.sl true 19 (l.map (aq true))) [] (SizeOf.sizeOf l<n))(x:ae):Ctr lim prog 123 [] [.agg (cSc x)] (.agg [.aa x.aj,.str x.ag,.aa x.fType.aj,.sl true 2 (x.fType.aP.map (bh true)),.sl true 1 (x.fType.aF.map AV.str),.str x.fType.ba,.str x.fType.az,.sl true 1 (x.aE.map AV.str),.sl true 1 (x.ay.map AV.str),.str x.aV,.ac x.bS,.ac x.bD,.ac x.aZ,.ac x.cU,.aa x.eJ,.aa x.dU,.sl true 7 (x.aG.map (aO true)),.sl true 7 (x.bO.map (aO true)),.sl true 19 (x.af.map (aq true))]) [] (SizeOf.sizeOf x.af<n):=by
 refine Ctr.bd func123 ntmps123 fun hp=>?_;refine AW.f1 0 fun hf=>?_
 (refine vU1 ?_;intro h h h)
 rename_i b2 b3;refine AW.imp (Imp.nG (b:=b3) 7 [_,_,_,_,_,_,_,_,_,_,_,_,_,_,_,_] [_,_] (fq _ _ _) ?_);refine gS ?_;refine AW.rF [4] [1,2,3] (fun m xs o=>∃ k:Nat,xs=[.aa k]/\o=[(b3,some [.aa x.aj,.str x.ag,.aa x.fType.aj,.sl true 2 (x.fType.aP.map (bh true)),.sl true 1 (x.fType.aF.map AV.str),.str x.fType.ba,.str x.fType.az,.sl true 1 (x.aE.map AV.str),.sl true 1 (x.ay.map AV.str),.str x.aV,.ac x.bS,.ac x.bD,.ac x.aZ,.ac x.cU,.aa x.eJ,.aa x.dU,.sl true 7 ((x.aG.take k).map (aO true)),.v (.slice none 0 0),.sl false 19 (x.af.map (aq false))]),(b2,some cZe)]/\m=x.aG.length - k/\k<=x.aG.length) x.aG.length [(b3,some [.aa x.aj,.str x.ag,.aa x.fType.aj,.sl true 2 (x.fType.aP.map (bh true)),.sl true 1 (x.fType.aF.map AV.str),.str x.fType.ba,.str x.fType.az,.sl true 1 (x.aE.map AV.str),.sl true 1 (x.ay.map AV.str),.str x.aV,.ac x.bS,.ac x.bD,.ac x.aZ,.ac x.cU,.aa x.eJ,.aa x.dU,.sl true 7 ((x.aG.take 0).map (aO true)),.v (.slice none 0 0),.sl false 19 (x.af.map (aq false))]),(b2,some cZe)] gO ⟨0,rfl,rfl,rfl,Ir⟩ ?_;rintro m xs o ⟨k,rfl,rfl,rfl,hk⟩;have hlt:(x.aG.take k).length=k:=by rw [List.length_take];omega
 refine vK1 ?_;refine AW.c (fun h=>?_) fun h=>?_
 ·refine AW.imp (Imp.nX (b0:=b3) (k:=16) (sz:=7) (l:=(x.aG.take k).map (aO true)) (fq _ _ _) rfl (fI (fun x=>by rw [dE];rfl) _) (fun b hb=>?_) (fun hnil=>?_))
  ·have hb1:=hb.nf;simp only [go_sem] at hb1;simp only [List.set_cons_zero,List.set_cons_succ,List.length_map]
   (refine vU2 ?_ ?_<;>with_reducible repeat intro h)
   ·rw [db (sz:=7) (fI (fun x=>by rw [dE];rfl) _),List.length_map]
   rename_i g;refine Imp.ED (b0:=b3) (k:=16) (b:=g) (sz:=7) (cells0:=[.aa x.aj,.str x.ag,.aa x.fType.aj,.sl true 2 (x.fType.aP.map (bh true)),.sl true 1 (x.fType.aF.map AV.str),.str x.fType.ba,.str x.fType.az,.sl true 1 (x.aE.map AV.str),.sl true 1 (x.ay.map AV.str),.str x.aV,.ac x.bS,.ac x.bD,.ac x.aZ,.ac x.cU,.aa x.eJ,.aa x.dU,.arr g 0 ((x.aG.take k).length+1) 7,.v (.slice none 0 0),.sl false 19 (x.af.map (aq false))]) (l:=(x.aG.take k).map (aO true)) (aO true (at_ x.aG k)) gO (by rw [List.length_map];rfl) (by simp (maxSteps:=2000000) (disch:=omega) only [go_sem];try rfl) Ir (fI (fun x=>by rw [dE];rfl) _) (by rw [dE];rfl) ?_;simp only [List.set_cons_zero,List.set_cons_succ];exact ⟨trivial,_,[_],_,Ir,⟨k+1,rfl,rfl,rfl,Ir⟩,rfl,by rw [gB yG,List.map_append];exact gO;try rfl⟩
  ·simp only [List.set_cons_zero,List.set_cons_succ,hnil];refine vU1 ?_;have hk0:k=0:=by rw [List.map_eq_nil_iff] at hnil;rw [hnil] at hlt;exact hlt.symm
   subst hk0;refine Imp.id ?_;refine gS ?_;exact ⟨_,[_],_,Ir,⟨1,rfl,rfl,rfl,Ir⟩,rfl,by rw [gB yG];exact gO;try rfl⟩
 ·rw [show k=x.aG.length by omega,List.take_length];refine vU1 ?_;refine AW.imp (Imp.nG (b:=b3) 7 [_,_,_,_,_,_,_,_,_,_,_,_,_,_,_,_,_] [_] (fq _ _ _) ?_);refine gS ?_;refine AW.rF [5] [1,2,3] (fun m xs o=>∃ k:Nat,xs=[.aa k]/\o=[(b3,some [.aa x.aj,.str x.ag,.aa x.fType.aj,.sl true 2 (x.fType.aP.map (bh true)),.sl true 1 (x.fType.aF.map AV.str),.str x.fType.ba,.str x.fType.az,.sl true 1 (x.aE.map AV.str),.sl true 1 (x.ay.map AV.str),.str x.aV,.ac x.bS,.ac x.bD,.ac x.aZ,.ac x.cU,.aa x.eJ,.aa x.dU,.sl true 7 (x.aG.map (aO true)),.sl true 7 ((x.bO.take k).map (aO true)),.sl false 19 (x.af.map (aq false))]),(b2,some cZe)]/\m=x.bO.length - k/\k<=x.bO.length) x.bO.length [(b3,some [.aa x.aj,.str x.ag,.aa x.fType.aj,.sl true 2 (x.fType.aP.map (bh true)),.sl true 1 (x.fType.aF.map AV.str),.str x.fType.ba,.str x.fType.az,.sl true 1 (x.aE.map AV.str),.sl true 1 (x.ay.map AV.str),.str x.aV,.ac x.bS,.ac x.bD,.ac x.aZ,.ac x.cU,.aa x.eJ,.aa x.dU,.sl true 7 (x.aG.map (aO true)),.sl true 7 ((x.bO.take 0).map (aO true)),.sl false 19 (x.af.map (aq false))]),(b2,some cZe)] gO ⟨0,rfl,rfl,rfl,Ir⟩ ?_;rintro m xs o ⟨k,rfl,rfl,rfl,hk⟩;have hlt:(x.bO.take k).length=k:=by rw [List.length_take];omega
  refine vK1 ?_;refine AW.c (fun h=>?_) fun h=>?_
  ·refine AW.imp (Imp.nX (b0:=b3) (k:=17) (sz:=7) (l:=(x.bO.take k).map (aO true)) (fq _ _ _) rfl (fI (fun x=>by rw [dE];rfl) _) (fun b hb=>?_) (fun hnil=>?_))
   ·have hb1:=hb.nf;simp only [go_sem] at hb1;simp only [List.set_cons_zero,List.set_cons_succ,List.length_map]
    (refine vU2 ?_ ?_<;>with_reducible repeat intro h)
    ·rw [db (sz:=7) (fI (fun x=>by rw [dE];rfl) _),List.length_map]
    rename_i g;refine Imp.ED (b0:=b3) (k:=17) (b:=g) (sz:=7) (cells0:=[.aa x.aj,.str x.ag,.aa x.fType.aj,.sl true 2 (x.fType.aP.map (bh true)),.sl true 1 (x.fType.aF.map AV.str),.str x.fType.ba,.str x.fType.az,.sl true 1 (x.aE.map AV.str),.sl true 1 (x.ay.map AV.str),.str x.aV,.ac x.bS,.ac x.bD,.ac x.aZ,.ac x.cU,.aa x.eJ,.aa x.dU,.sl true 7 (x.aG.map (aO true)),.arr g 0 ((x.bO.take k).length+1) 7,.sl false 19 (x.af.map (aq false))]) (l:=(x.bO.take k).map (aO true)) (aO true (at_ x.bO k)) gO (by rw [List.length_map];rfl) (by simp (maxSteps:=2000000) (disch:=omega) only [go_sem];try rfl) Ir (fI (fun x=>by rw [dE];rfl) _) (by rw [dE];rfl) ?_;simp only [List.set_cons_zero,List.set_cons_succ];exact ⟨trivial,_,[_],_,Ir,⟨k+1,rfl,rfl,rfl,Ir⟩,rfl,by rw [gB yG,List.map_append];exact gO;try rfl⟩
   ·simp only [List.set_cons_zero,List.set_cons_succ,hnil];refine vU1 ?_;have hk0:k=0:=by rw [List.map_eq_nil_iff] at hnil;rw [hnil] at hlt;exact hlt.symm
    subst hk0;refine Imp.id ?_;refine gS ?_;exact ⟨_,[_],_,Ir,⟨1,rfl,rfl,rfl,Ir⟩,rfl,by rw [gB yG];exact gO;try rfl⟩
  ·rw [show k=x.bO.length by omega,List.take_length]
   all_goals exact uU
theorem tj:∀ (n:Nat) (l:List ae),Ctr lim prog 86 [] [.sl false 19 (l.map (aq false))] (.sl true 19 (l.map (aq true))) [] (SizeOf.sizeOf l<n)
 | 0,l=>⟨(aU 86),fun h=>absurd h (Nat.not_lt_zero _)⟩
 | n+1,l=>by
  have ih:=vF n (tj n);refine Ctr.bd func86 ntmps86 fun hp=>?_;refine AW.f1 0 fun hf=>?_;refine vU1 ?_;refine AW.aw [3,4] [0] (fun m xs o=>∃ k:Nat,xs=[.sl true 19 ((l.take k).map (aq true)),.aa k]/\o=[]/\m=l.length - k/\k<=l.length) l.length [] trivial ⟨0,?_,rfl,rfl,?_⟩ ?_
  ·rfl
  ·omega
  rintro m xs o ⟨k,rfl,rfl,rfl,hk⟩;have hlt:(l.take k).length=k:=by rw [List.length_take];omega
  have hkk:k<l.length->SizeOf.sizeOf (at_ l k).af<n:=fun h=>by have:=ae.du (at_mem h);omega
  (refine vU2 ?_ ?_<;>intro h)
  ·exact ⟨_,[_,_],[],Ir,⟨k+1,by rw [gB yG,List.map_append,List.map_cons,List.map_nil,dI],rfl,rfl,Ir⟩,rfl,trivial⟩
  ·rw [show k=l.length by omega,List.take_length]
instance Uj(x:ae):Ctr lim prog 123 [] [.agg (cSc x)] (.agg [.aa x.aj,.str x.ag,.aa x.fType.aj,.sl true 2 (x.fType.aP.map (bh true)),.sl true 1 (x.fType.aF.map AV.str),.str x.fType.ba,.str x.fType.az,.sl true 1 (x.aE.map AV.str),.sl true 1 (x.ay.map AV.str),.str x.aV,.ac x.bS,.ac x.bD,.ac x.aZ,.ac x.cU,.aa x.eJ,.aa x.dU,.sl true 7 (x.aG.map (aO true)),.sl true 7 (x.bO.map (aO true)),.sl true 19 (x.af.map (aq true))]) [] True:=⟨(aU 123),fun _=>(vF (SizeOf.sizeOf x.af+1) (tj _) x).out (Nat.lt_succ_self _)⟩
end
end Go.Proofs
