/- A part. -/
import Derived.Deep.RegionLaw
import Derived.Deep.LoopGhost
import Derived.Lib.Walk
import Derived.Test.YtmcjbaafmjlblaaGreatDoorJ6
import Derived.Test.YtmcjbaafmjlblaaGreatDoorJ23
set_option linter.all false
namespace Go.Ab
open Go.RowKit (Below)
section
variable {L : Nat -> Nat} {P : Program} {n : Nat}
theorem LOp.more{t:List (Nat×AV)}{os os':Sto}{o:Oper}{x:AV}{C:List Nat}(h:LOp L P ⟨n,t,os⟩ o x C)(ho:∀ c cells,O os c=some cells->O os' c=some cells):LOp L P ⟨n,t,os'⟩ o x C:=by
 intro B F0 w0 F own fp fs a w next Q hd bI
 exact h B F0 w0 F own fp fs a w next Q { hd with obj:=fun b cells hb=>hd.obj b cells (ho b cells hb) } bI
theorem vL{t:List (Nat×AV)}{os:Sto}{o:Oper}{ty':TypeId}{zs:List Value}(hop:o.op=.alloc ty')(hd:cN n o.dst=true)(hz:zer P ty'=some zs) :
  OpW L P o ⟨n,t,os⟩ (fun s'=>∃ b,gq os b/\s'=⟨n,upd o (.ptr b 0) [] t,(b,some (zs.map avz))::os⟩):=by
 intro B F0 w0 a w next Q cw bI
 have hfr:gq os w.heap.size:=by obtain ⟨F,own,fp,fs,hd'⟩:=cw;exact hd'.fresh
 obtain ⟨F,own,fp,fs,hD⟩:=cw
 obtain ⟨z,hzc,hzr⟩:=vW hz
 have hrun:(execOp a.eval o).run P w=.ok (.value (.pointer (some ⟨w.heap.size,0,none⟩))) (w.alloc (.cells z.cells ty')):=by
  simp [execOp,hop,Instr.alloc,hzr,newVar,newRow]
 unfold Oper.wp
 rw [hrun]
 refine bI ⟨n,upd o (.ptr w.heap.size 0) [] t,(w.heap.size,some (zs.map avz))::os⟩ _ _ ⟨_,hfr,rfl⟩ ?_
 exact hD.renew [] [] w.heap.size (zs.map avz) [] o.dst hd ⟨rfl,rfl,rfl⟩ (Ext.alloc w _ []) (by simp) (.inr ⟨Nat.le_refl _,by simp⟩)
  ⟨z.cells,ty',zs,[],eX w _,by simp [hzc],aq.plain zs⟩ (by simp) (by simp) (by simp [Rep])
theorem pY(ops:Array Oper){D D':List (AV×List Nat)}:∀ (l:List Nat) (t:List (Nat×AV)),(∀ i,i∈l->D[i]? = D'[i]?)->dn ops D t l=dn ops D' t l
 | [],t,_=>rfl
 | i::l,t,h=>by
  simp only [dn]
  rw [h i (by simp)]
  exact pY ops l _ fun k hk=>h k (by simp [hk])
def wA(D:List (AV×List Nat))(b:Nat):List (AV×List Nat):=D++[(.ptr b 0,[])]
theorem Ql(D:List (AV×List Nat))(b:Nat):(wA D b).map Prod.snd=D.map Prod.snd++[[]]:=by simp [wA]
theorem yP(D:List (AV×List Nat))(b:Nat):(wA D b).length=D.length+1:=by simp [wA]
theorem CM{D:List (AV×List Nat)}{b i:Nat}(h:i<D.length):(wA D b)[i]? = D[i]?:=List.getElem?_append_left h
theorem Nv(D:List (AV×List Nat))(b:Nat):(wA D b)[D.length]? = some (.ptr b 0,[]):=by simp [wA]
theorem Jl(ops:Array Oper)(D:List (AV×List Nat))(b:Nat)(t:List (Nat×AV)){j:Nat}(h:j<=D.length):dn ops (wA D b) t (List.range j)=dn ops D t (List.range j) :=
 pY ops _ _ fun i hi=>CM (by simp at hi;omega)
def StA(L:Nat->Nat)(n:Nat)(ops:Array Oper)(D:List (AV×List Nat))(t0:List (Nat×AV))(os:Sto)(cs:List AV)(B F0:Nat->Prop)(w0:World)(S:Nat->Bool)(a:Act)(w:World):Prop :=
 ∃ b os',((S D.length=false/\os'=os)\/(S D.length=true/\gq os b/\os'=(b,some cs)::os))/\Den L B F0 w0 ⟨n,dn ops (wA D b) t0 ((List.range (D.length+1)).filter S),os'⟩ a w
theorem PN{ops:Array Oper}{os:Sto}{t0:List (Nat×AV)}{D:List (AV×List Nat)}{K:AS->Prop}{B:Nat->Prop}{F0:Nat->Prop}{w0:World}{Q:Exit->Act->World->Prop}{oa:Oper}{ty':TypeId}{zs:List Value}(hF:jG ops (D.map Prod.snd++[[]]))
  (hoa:ops[D.length]? = some oa) (hga:oa.guard=none) (hop:oa.op=.alloc ty') (hda:cN n oa.dst=true) (hz:zer P ty'=some zs)
  (hst:∀ j o d,ops[j]? = some o->D[j]? = some d->sw L P ops n os (dn ops D t0 (List.range j)) o d.1 d.2)
  (htl:∀ b,gq os b->gK L P ops (List.range' (D.length+1) (ops.size - (D.length+1))) ⟨n,upd oa (.ptr b 0) [] (dn ops D t0 (List.range D.length)),(b,some (zs.map avz))::os⟩ K) (hQ:∀ s' a' w',K s'->Den L B F0 w0 s' a' w'->Q .normal a' w') :
  ∀ (fuel t:Nat) (listed:Array Bool) (acc:List Nat),listed.size=ops.size->oG ops (fun i=>listed.getD i false=true)->(∀ j,D.length+1<=j->listed.getD j false=false)->((List.range ops.size).filter fun i=>!listed.getD i false).length<=fuel ->
  ∃ rest,Region.linearise.go .any ops fuel t listed acc=acc.reverse++rest/\∀ a w,StA L n ops D t0 os (zs.map avz) B F0 w0 (fun i=>listed.getD i false) a w->wpOps P ops Q rest a w:=by
 intro fuel
 have EI:D.length+1<=ops.size:=by have:=hF.le;simpa using this
 have hend:∀ (listed:Array Bool),(∀ i,i<D.length+1->listed.getD i false=true)->∀ a w,StA L n ops D t0 os (zs.map avz) B F0 w0 (fun i=>listed.getD i false) a w->wpOps P ops Q (List.range' (D.length+1) (ops.size - (D.length+1))) a w:=by
  rintro listed hall a w ⟨b,os',hor,hd⟩
  rcases hor with ⟨h,_⟩|⟨_,hb,rfl⟩
  ·have h:listed.getD D.length false=false:=h
   rw [hall D.length (by omega)] at h;cases h
  have yu:(List.range (D.length+1)).filter (fun i=>listed.getD i false)=List.range (D.length+1):=by
   rw [List.filter_eq_self];intro i hi;exact hall i (by simpa using hi)
  rw [yu,List.range_succ,kZ,hoa,Nv,Jl ops D b t0 (Nat.le_refl _)] at hd
  exact htl b hb B F0 w0 a w Q hd hQ
 induction fuel with
 | zero =>
  intro t listed acc hs hS hno vk
  have hnil:(List.range ops.size).filter (fun i=>!listed.getD i false)=[]:=List.eq_nil_of_length_eq_zero (by omega)
  rw [List.filter_eq_nil_iff] at hnil
  have hall:∀ i,i<ops.size->listed.getD i false=true:=fun i hi=>by simpa using hnil i (by simpa using hi)
  have hD:D.length+1=ops.size:=by
   rcases Nat.lt_or_ge (D.length+1) ops.size with h|h
   ·have:=hall (D.length+1) h;rw [hno (D.length+1) (Nat.le_refl _)] at this;cases this
   ·omega
  refine ⟨[],by simp [Region.linearise.go],fun a w hd=>?_⟩
  have:=hend listed (fun i hi=>hall i (by omega)) a w hd
  rw [show ops.size - (D.length+1)=0 by omega] at this
  exact this
 | succ fuel ih =>
  intro t listed acc hs hS hno vk
  by_cases hall:∀ i,i<D.length+1->listed.getD i false=true
  ·refine ⟨List.range' (D.length+1) (ops.size - (D.length+1)),?_,hend listed hall⟩
   refine wC hF (fuel+1) t (D.length+1) acc listed (by simp) EI hs (fun i=>?_) ?_
   ·by_cases e:i<D.length+1
    ·rw [hall i e];simp [e]
    ·rw [hno i (by omega)];simp [e]
   ·refine Nat.le_trans ?_ vk
    have jW:List.range ops.size=List.range (D.length+1)++(List.range (ops.size - (D.length+1))).map (D.length+1+·):=by
     rw [<- List.range_add];congr 1;omega
    rw [jW,List.filter_append,List.length_append]
    have:((List.range (ops.size - (D.length+1))).map (D.length+1+·)).filter (fun i=>!listed.getD i false)=(List.range (ops.size - (D.length+1))).map (D.length+1+·):=by
     rw [List.filter_eq_self];intro i hi
     simp only [List.mem_map,List.mem_range] at hi
     obtain ⟨q,_,rfl⟩:=hi
     rw [hno _ (by omega)];rfl
    rw [this];simp
  ·have hex:∃ i,i<D.length+1/\listed.getD i false=false:=by
    rcases Classical.em (∃ i,i<D.length+1/\listed.getD i false=false) with h|h
    ·exact h
    ·exact absurd (fun i hi=>by
      rcases hb:listed.getD i false with _|_
      ·exact absurd ⟨i,hi,hb⟩ h
      ·rfl) hall
   have iN:=least hex
   obtain ⟨i0,⟨hi0,hl0⟩,iN⟩:=iN
   have hr0:ready ops listed i0=true:=by
    refine (iS hs (by omega)).2 ⟨hl0,fun e he=>?_⟩
    have hlt:=hF.edge i0 _ (Array.getElem?_eq_getElem (by omega)) e he
    rcases hb:listed.getD e.on false with _|_
    ·have:=iN e.on ⟨by omega,hb⟩;omega
    ·rfl
   have zC:i0∈(List.range ops.size).filter (ready ops listed):=List.mem_filter.2 ⟨by simp;omega,hr0⟩
   have hpos:0<((List.range ops.size).filter (ready ops listed)).length:=List.length_pos_of_mem zC
   have hlt:=Nat.mod_lt t hpos
   rw [go_succ,List.getElem?_eq_getElem hlt]
   have qI:((List.range ops.size).filter (ready ops listed))[t % ((List.range ops.size).filter (ready ops listed)).length]∈(List.range ops.size).filter (ready ops listed):=List.getElem_mem hlt
   generalize ((List.range ops.size).filter (ready ops listed))[t % ((List.range ops.size).filter (ready ops listed)).length]=j at qI
   obtain ⟨hjn,hrj⟩:=List.mem_filter.1 qI
   simp only [List.mem_range] at hjn
   obtain ⟨hlj,hej⟩:=(iS hs hjn).1 hrj
   have hoj:ops[j]? = some ops[j]:=Array.getElem?_eq_getElem hjn
   have hjD:j<D.length+1:=by
    rcases Nat.lt_or_ge j (D.length+1) with h|h
    ·exact h
    ·have hb:=hF.tail i0 j (by omega) hjn (by simpa using h)
     have:=jB hS hoj hb hej
     rw [hl0] at this;cases this
   have hS':∀ i,(listed.setIfInBounds j true).getD i false=(listed.getD i false || i == j):=sJ (by omega)
   obtain ⟨rest,hrest,hwp⟩:=ih (t / ((List.range ops.size).filter (ready ops listed)).length) (listed.setIfInBounds j true) (j::acc) (by simpa using hs) (by
    intro i o hi ho e he
    rw [hS'] at hi ⊢
    simp only [Bool.or_eq_true] at hi ⊢
    rcases hi with hi|hi
    ·exact .inl (hS i o hi ho e he)
    ·have:i=j:=by simpa using hi
     subst this
     rw [hoj] at ho;cases ho
     exact .inl (hej e he)) (by
    intro i hi
    rw [hS',hno i hi]
    have:(i == j)=false:=by simp;omega
    rw [this];rfl) (by
    have:=filter_lt (p:=fun i=>!listed.getD i false) (q:=fun i=>!(listed.setIfInBounds j true).getD i false) (fun i hi=>by
     rw [hS'] at hi;simp only [Bool.not_or,Bool.and_eq_true] at hi;exact hi.1) (List.range ops.size) ⟨j,by simpa using hjn,by rw [hlj];rfl,by rw [hS'];simp⟩
    omega)
   refine ⟨j::rest,by dsimp only;rw [hrest];simp,fun a w hd=>?_⟩
   obtain ⟨b,os',hor,hd⟩:=hd
   have hFb:∀ b,jG ops ((wA D b).map Prod.snd):=fun b=>by rw [Ql];exact hF
   rcases Nat.lt_or_ge j D.length with hjm|hjm
   ·
    have hdj:D[j]? = some D[j]:=List.getElem?_eq_getElem hjm
    have MP:(wA D b)[j]? = some D[j]:=by rw [CM hjm];exact hdj
    have hSt:=hst j ops[j] D[j] hoj hdj
    rw [<- Jl ops D b t0 (Nat.le_of_lt hjm)] at hSt
    have hSm:(listed.setIfInBounds j true).getD D.length false=listed.getD D.length false:=by
     rw [hS']
     have:(D.length == j)=false:=by simp;omega
     rw [this,Bool.or_false]
    have hmore:∀ c cells,O os c=some cells->O os' c=some cells:=by
     intro c cells hc
     rcases hor with ⟨_,rfl⟩|⟨_,hb,rfl⟩
     ·exact hc
     ·have:=hb c cells hc
      simp only [O]
      rw [if_neg (by simpa using fun e=>this e.symm)]
      exact hc
    have vf:∀ k,k∈slotsOf ops ops[j]->T (dn ops (wA D b) t0 ((List.range (D.length+1)).filter fun i=>listed.getD i false)) k=T (dn ops (wA D b) t0 (List.range j)) k:=fun k hk=>by
     have:=Aj (hFb b) hS hoj (by rw [yP];omega) hlj hej t0 hk
     rwa [yP] at this
    have bI:∀ a' w',Den L B F0 w0 ⟨n,upd ops[j] D[j].1 D[j].2 (dn ops (wA D b) t0 ((List.range (D.length+1)).filter fun i=>listed.getD i false)),os'⟩ a' w'->wpOps P ops Q rest a' w':=fun a' w' h'=>by
     refine hwp a' w' ⟨b,os',by show (_=false/\_)\/(_=true/\_);simp only [hSm];exact hor,?_⟩
     have:=step_eq (hFb b) hS hoj MP hlj hS' t0
     rw [yP] at this
     exact cD.congr h' this
    have EE:LOp L P ⟨n,eN (dn ops (wA D b) t0 (List.range j)) (slotsOf ops ops[j]),os⟩ ops[j] D[j].1 D[j].2->(ops[j]).wp P a w (wpOps P ops Q rest) Q:=fun hl =>
     ((hl.Ar vf hSt.sub).more hmore).opW hSt.dst (K:=fun s'=>s'=⟨n,upd ops[j] D[j].1 D[j].2 (dn ops (wA D b) t0 ((List.range (D.length+1)).filter fun i=>listed.getD i false)),os'⟩) rfl B F0 w0 a w _ Q hd fun s' a' w' e h'=>by
      subst e;exact bI a' w' h'
    rcases hSt.run with ⟨hg,hl⟩|⟨gi,want,oj,d,G,g,x0,hg,hgi,hgd,hgl,hT,hx,hC,h1⟩
    ·simp only [wpOps,hoj]
     rw [if_pos (by simp [Region.wanted,hg])]
     exact .inl (EE hl)
    ·have hk:d∈slotsOf ops ops[j]:=by simp [slotsOf,hg,hgi,hgd]
     have hy:=pd hd hgi hgd (by rw [vf d hk];exact hT) hgl
     simp only [wpOps,hoj,Region.wanted,hg,hy]
     cases hw:(G && (g == want)) with
     | true =>
      have hl:=(h1 hw).cnd
      rw [hw] at hx
      rw [<- hx,<- hC] at hl
      simp at hw
      obtain ⟨rfl,rfl⟩:=hw
      rw [if_pos (by simp)]
      exact .inl (EE hl)
     | false =>
      rw [if_neg (by cases G<;>simp_all)]
      refine bI _ _ ?_
      obtain ⟨F,own,fp,fs,h⟩:=hd
      have:=h.put (x:=.cnd false x0) (v:=undef) (fx:=[]) [] (ops[j]).dst hSt.dst (Kp.refl _ _) (fun _ h=>h) (fun _ h=>.inl h) (by simp [Rep]) (by simp) (by simp)
      rw [hx,hC,hw]
      exact this
   ·
    have hj:j=D.length:=by omega
    subst hj
    have he:ops[D.length]=oa:=by rw [hoj] at hoa;exact Option.some.inj hoa
    rcases hor with ⟨_,rfl⟩|⟨h,_⟩
    ·simp only [wpOps,hoj]
     rw [if_pos (by simp [Region.wanted,he,hga])]
     refine .inl ?_
     rw [he]
     refine vL (L:=L) hop hda hz B F0 w0 a w _ Q hd ?_
     rintro s' a' w' ⟨b',hb',rfl⟩ h'
     refine hwp a' w' ⟨b',_,.inr ⟨by simp only [hS'];simp,hb',rfl⟩,?_⟩
     have h2:=step_eq (hFb b') hS hoj (Nv D b') hlj hS' t0
     rw [yP,he] at h2
     refine cD.congr h' fun k=>?_
     rw [<- h2 k]
     congr 2
     refine pY ops _ _ fun i hi=>?_
     rw [List.mem_filter,List.mem_range] at hi
     have hne:i≠D.length:=fun e=>by rw [e,hlj] at hi;exact absurd hi.2 (by simp)
     rw [CM (by omega),CM (by omega)]
    ·simp only [hlj] at h;cases h
theorem AW.N7 [hM:ku P]{s:AS}{Q:Exit->AS->Prop}{id:Nat}{ops:Array Oper}
  (h:jF L P ops s.n s.o (fun t D=>∃ oa ty' zs,ops[D.length]? = some oa/\oa.guard=none/\oa.op=.alloc ty'/\cN s.n oa.dst=true/\zer P ty'=some zs/\gh ops (D.map Prod.snd++[[]])=true /\
   ∀ b,gq s.o b->gK L P ops (List.range' (D.length+1) (ops.size - (D.length+1))) ⟨s.n,upd oa (.ptr b 0) [] t,(b,some (zs.map avz))::s.o⟩ (fun s'=>Q .normal s')) 0 s.t []) :
  AW L P (.region id ops true) s Q:=by
 intro B F0 w0 a w hd
 obtain ⟨D,⟨oa,ty',zs,hoa,hga,hop,hda,hz,hok,htl⟩,hst⟩:=h.inv (t0:=s.t) rfl rfl (by simp)
 have hF:=qh hok
 refine wp_region_draw fun t=>?_
 have EC:Region.schedule (P.follows .mixedOrders) ops t=Region.linearise .any ops t:=by
  simp [Region.schedule,hM.h]
 rw [EC]
 have hre:∀ i,(Array.replicate ops.size false).getD i false=false:=by
  intro i
  rw [Array.getD_eq_getD_getElem?,Array.getElem?_replicate]
  split<;>rfl
 obtain ⟨rest,hrest,hwp⟩:=PN (Q:=fun e a' w'=>∃ s',Q e s'/\Den L B F0 w0 s' a' w') (B:=B) (F0:=F0) (w0:=w0) hF hoa hga hop hda hz hst htl (fun s' a' w' h1 h2=>⟨s',h1,h2⟩) ops.size t (Array.replicate ops.size false) [] (by simp) (by
  intro j o hj
  rw [hre] at hj;cases hj) (fun j _=>hre j) (by
  have:=List.length_filter_le (fun i=>!(Array.replicate ops.size false).getD i false) (List.range ops.size)
  simpa using this)
 unfold Region.linearise
 rw [hrest]
 simp only [List.reverse_nil,List.nil_append]
 refine hwp a _ ⟨0,s.o,.inl ⟨hre _,rfl⟩,?_⟩
 have:(List.range (D.length+1)).filter (fun i=>(Array.replicate ops.size false).getD i false)=[]:=by
  rw [List.filter_eq_nil_iff]
  intro i _
  rw [hre];simp
 rw [this]
 exact hd.drew
def wT(P:Program)(ops:Array Oper)(n:Nat)(o:Sto)(D:List (AV×List Nat))(t:List (Nat×AV))(R:List Nat->List (Nat×AV)->Sto->Prop):Prop :=
 match ops[D.length]? with
 | some oa=>match oa.op with
  | .alloc ty'=>match zer P ty' with
   | some zs=>oa.guard.isNone=true/\cN n oa.dst=true/\gh ops (D.map Prod.snd++[[]])=true /\
    ∀ b,nfO o b->R (List.range' (D.length+1) (ops.size - (D.length+1))) (upd oa (.ptr b 0) [] t) ((b,some (zs.map avz))::o)
   | none=>False
  | _=>False
 | none=>False
theorem wT.out{ops:Array Oper}{o:Sto}{D:List (AV×List Nat)}{t:List (Nat×AV)}{R:List Nat->List (Nat×AV)->Sto->Prop}(h:wT P ops n o D t R) :
  ∃ oa ty' zs,ops[D.length]? = some oa/\oa.guard=none/\oa.op=.alloc ty'/\cN n oa.dst=true/\zer P ty'=some zs/\gh ops (D.map Prod.snd++[[]])=true /\
   ∀ b,gq o b->R (List.range' (D.length+1) (ops.size - (D.length+1))) (upd oa (.ptr b 0) [] t) ((b,some (zs.map avz))::o):=by
 unfold wT at h
 split at h
 ·rename_i oa hoa
  split at h
  ·rename_i ty' hop
   split at h
   ·rename_i zs hz
    obtain ⟨h1,h2,h3,h4⟩:=h
    exact ⟨oa,ty',zs,hoa,by simpa using h1,hop,h2,hz,h3,fun b hb=>h4 b hb.nf⟩
   ·exact h.elim
  ·exact h.elim
 ·exact h.elim
section
variable {t : List (Nat × AV)} {o : Sto} {Q : Exit -> AS -> Prop} {id : Nat} {ops : Array Oper}
theorem AW.rB [ku P]{c:Code} (h:∀ K:List (Nat×AV)->List (AV×List Nat)->Prop,(∀ t D,wT P ops n o D t (fun l t o=>∀ K':List (Nat×AV)->Sto->Prop,(∀ t o,AW L P c ⟨n,t,o⟩ Q->K' t o)->Wn L P ops n K' l [] t o)->K t D) ->
   W L P ops [] n o (fun t D _=>K t D) (List.range' 0 ops.size) t []):AW L P (.seq (.region id ops true) c) ⟨n,t,o⟩ Q :=
 AW.seq (AW.N7 (W.draw _ 0 _ _ rfl (h _ (fun t D h=>by
  obtain ⟨oa,ty',zs,h1,h2,h3,h4,h5,h6,h7⟩:=h.out
  exact ⟨oa,ty',zs,h1,h2,h3,h4,h5,h6,fun b hb=>Wn.nU (K:=fun t o=>AW L P c ⟨n,t,o⟩ Q) (fun _ _ h=>h) _ _ _ (h7 b hb _ (fun _ _ h=>h))⟩))))
theorem AW.wH [ku P] (h:∀ K:List (Nat×AV)->List (AV×List Nat)->Prop,(∀ t D,wT P ops n o D t (fun l t o=>∀ K':List (Nat×AV)->Sto->Prop,(∀ t o,Q .normal ⟨n,t,o⟩->K' t o)->Wn L P ops n K' l [] t o)->K t D) ->
   W L P ops [] n o (fun t D _=>K t D) (List.range' 0 ops.size) t []):AW L P (.region id ops true) ⟨n,t,o⟩ Q :=
 AW.N7 (W.draw _ 0 _ _ rfl (h _ (fun t D h=>by
  obtain ⟨oa,ty',zs,h1,h2,h3,h4,h5,h6,h7⟩:=h.out
  exact ⟨oa,ty',zs,h1,h2,h3,h4,h5,h6,fun b hb=>Wn.nU (K:=fun t o=>Q .normal ⟨n,t,o⟩) (fun _ _ h=>h) _ _ _ (h7 b hb _ (fun _ _ h=>h))⟩)))
end
attribute [go_sem] wT
end
end Go.Ab
namespace Go.Ab
section
variable {L : Nat -> Nat} {n : Nat} {t : List (Nat × AV)} {o : Sto} {Q : AS -> Prop}
end
end Go.Ab
namespace Go.Ab
open Go.RowKit (Below)
theorem Ka{α:Type}(l:List α){i j:Nat}(hij:i<=j):l=l.take i++((l.take j).drop i++l.drop j):=by
 have h1:l.take i=(l.take j).take i:=by rw [List.take_take,Nat.min_eq_left hij]
 rw [<- List.append_assoc,h1,List.take_append_drop,List.take_append_drop]
def C2(P:Program)(f:FuncId)(sz:Nat):Prop :=
 ∀ (w:World) (b n cap i j:Nat) (c:Array Value) (Ty:TypeId),w.heap[b]? = some (.cells c Ty (0,0))->n<=cap->cap * sz<=c.size->n<=4611686018427387904->i<j->j<=n->(∀ (k:Nat) (v:Value),k<n * sz->c[k]? = some v->v.oneCell'=true) ->
  Calls P f #[.slice (some ⟨b,0,none⟩) n cap,.int .i64 i,.int .i64 j] w fun e w'=>e=.returned (.slice (some ⟨b,0,none⟩) (n - (j - i)) cap) /\
   ∃ c':Array Value,w'.heap[b]? = some (.cells c' Ty (0,0))/\c'.size=c.size/\(∀ k,k<i * sz->c'[k]? = c[k]?)/\(∀ k,k<(n - j) * sz->c'[i * sz+k]? = c[j * sz+k]?)/\Kp (fun k=>k<w.heap.size/\k≠b) w w'
theorem C2.ctr{L:Nat->Nat}{P:Program}{f:FuncId}{sz:Nat}(he:enters P f=true)(hf:C2 P f sz)(hL:L sz<=4611686018427387904){b i j:Nat}{l:List AV}(hel:∀ x,x∈l->x.elem sz=true)(hone:(l.flatMap AV.cells).all AV.one=true) :
  Ctr L P f [(b,some (l.flatMap AV.cells))] [.arr b 0 l.length sz,.v (.int .i64 i),.v (.int .i64 j)] (.sl true sz (l.take i++l.drop j)) [none] (i<j/\j<=l.length):=by
 refine ⟨he,?_⟩
 rintro ⟨hij,hj⟩ B F own fs w vs hS hr
 obtain ⟨hkey,hnd,hfo,c,Ty,vals,rst,hc,hcl,hl⟩:=hS.obj b _ (eQ b _ _)
 simp only [aq,Rep] at hr
 obtain ⟨y1,_,_,_,rfl,_,⟨_,cap,rfl,IC,hnL,gX⟩,y2,_,_,_,rfl,_,⟨rfl,_⟩,y3,_,_,_,rfl,_,⟨rfl,_⟩,rfl,_⟩:=hr
 obtain ⟨c0,Ty0,hc0,hcs⟩:=gX
 rw [hc] at hc0;cases hc0
 rw [Nat.zero_add] at hcs
 have hlen:=bH hel
 have hvl:=hl.len
 rw [hlen] at hvl
 have hget:∀ k,k<vals.length->c[k]? = vals[k]?:=fun k hk=>by
  rw [<- Array.getElem?_toList,hcl,List.getElem?_append_left hk]
 have e3:=Ka l (Nat.le_of_lt hij)
 have hl':=hl
 rw [e3,List.flatMap_append,List.flatMap_append] at hl'
 obtain ⟨v1,v23,f1,f23,hv,hfs,r1,r23⟩:=hl'.split
 obtain ⟨v2,v3,f2,f3,rfl,rfl,r2,r3⟩:=r23.split
 have EG:∀ x,x∈l.take i->x.elem sz=true:=fun x hx=>hel x (List.mem_of_mem_take hx)
 have oY:∀ x,x∈(l.take j).drop i->x.elem sz=true:=fun x hx=>hel x (List.mem_of_mem_take (List.mem_of_mem_drop hx))
 have RP:∀ x,x∈l.drop j->x.elem sz=true:=fun x hx=>hel x (List.mem_of_mem_drop hx)
 have n1:v1.length=i * sz:=by rw [r1.len,bH EG,List.length_take,Nat.min_eq_left (by omega)]
 have n2:v2.length=(j - i) * sz:=by rw [r2.len,bH oY,List.length_drop,List.length_take,Nat.min_eq_left hj]
 have n3:v3.length=(l.length - j) * sz:=by rw [r3.len,bH RP,List.length_drop]
 have TZ:=hl.ones hone
 refine (hf w b l.length cap i j c Ty hc IC hcs (Nat.le_trans hnL hL) hij hj (fun k v hk hv'=>?_)).mono ?_
 ·rw [hget k (by omega)] at hv'
  exact TZ v (List.mem_of_getElem? hv')
 rintro e w' ⟨rfl,c',hc',hsz,h1,h2,hK⟩
 have hFS:∀ k,F k->F k/\(k<w.heap.size/\k≠b):=fun k hk=>⟨hk,(hS.fl k hk).2.1,fun e=>by have:=(hS.fl k hk).1;rw [e,hkey] at this;cases this⟩
 have hsub:∀ k,k∈f1\/k∈f3->k∈fs b:=fun k hk=>by rw [hfs];rcases hk with h|h<;>simp [h]
 have hin:∀ k,k∈f1\/k∈f3->k<w.heap.size/\k≠b:=fun k hk=>by
  have:=hfo k (hsub k hk)
  exact ⟨(hS.ol k (by rw [this];simp)).2,fun e=>by rw [e,hkey] at this;cases this⟩
 have cl:Ext (fun k=>k<w.heap.size/\k≠b) w w':=⟨hK.size,hK.block,hK.shape⟩
 have q1:=aq.ext cl hFS (fun k hk=>hin k (.inl hk)) r1
 have q3:=aq.ext cl hFS (fun k hk=>hin k (.inr hk)) r3
 have hbB:¬ B b:=(hS.ol b (by rw [hkey];simp)).1
 have hbw:b<w.heap.size:=(hS.ol b (by rw [hkey];simp)).2
 have MK:f1.Nodup/\f3.Nodup/\∀ a∈f1,∀ a'∈f3,a≠a':=by
  rw [hfs,List.nodup_append,List.nodup_append] at hnd
  exact ⟨hnd.1,hnd.2.1.2.1,fun a ha a' ha'=>hnd.2.2 a ha a' (by simp [ha'])⟩
 have hll:(l.take i++l.drop j).length=l.length - (j - i):=by
  rw [List.length_append,List.length_take,List.length_drop];omega
 have ho:∀ k,k∈b::(f1++f3)->¬ B k/\k<w.heap.size/\¬ F k:=fun k hk=>by
  have:own k≠.none:=by
   rcases List.mem_cons.1 hk with rfl|hk
   ·rw [hkey];simp
   ·rw [hfo k (hsub k (List.mem_append.1 hk))];simp
  exact ⟨(hS.ol k this).1,(hS.ol k this).2,fun hF=>this (hS.fl k hF).1⟩
 classical
 refine ⟨_,_,[(b,none)],F,fun k=>if k∈b::(f1++f3) then .slot 0 else .none,fun _=>[],b::(f1++f3),rfl,⟨rfl,rfl⟩,{ below:=hK.mono fun k hk=>⟨hS.hB k hk,fun e=>hbB (e ▸ hk)⟩,hB:=fun k hk=>Nat.lt_of_lt_of_le (hS.hB k hk) hK.size,tb:=hS.tb,f0:=hS.f0,fl:=fun k hk=>⟨?_,Nat.lt_of_lt_of_le (hS.fl k hk).2.1 hK.size,(hS.fl k hk).2.2⟩,ol:=fun k hk=>?_,obj:=?_ },?_,?_,fun k hk=>if_pos hk⟩
 ·rw [if_neg fun hm=>(ho k hm).2.2 hk]
 ·by_cases hm:k∈b::(f1++f3)
  ·exact ⟨(ho k hm).1,Nat.lt_of_lt_of_le (ho k hm).2.1 hK.size⟩
  ·rw [if_neg hm] at hk;exact absurd rfl hk
 ·intro q cs hq
  simp only [O] at hq
  split at hq<;>cases hq
 ·simp only [Rep]
  refine .inr ⟨b,0,cap,v1++v3,f1++f3,by rw [hll],by rw [hll];omega,by rw [hll];omega,⟨c',Ty,_,hc',fun k hk=>?_⟩,aq.kX (fun x hx=>?_) ?_,.inl ⟨by trivial,rfl,rfl,c',Ty,hc',by omega⟩⟩
  ·rw [Nat.zero_add]
   rw [List.length_append,n1,n3] at hk
   by_cases hk1:k<i * sz
   ·rw [h1 k hk1,List.getElem?_append_left (by omega),hget k (by rw [hv];simp only [List.length_append];omega),hv,List.getElem?_append_left (by omega)]
   ·have e4:=h2 (k - i * sz) (by omega)
    rw [show i * sz+(k - i * sz)=k by omega] at e4
    have hjj:j * sz=i * sz+(j - i) * sz:=by rw [<- Nat.add_mul];congr 1;omega
    rw [e4,List.getElem?_append_right (by omega),hget _ (by rw [hv];simp only [List.length_append];omega),hv,List.getElem?_append_right (by omega),List.getElem?_append_right (by omega)]
    congr 1
    omega
  ·rcases List.mem_append.1 hx with hx|hx
   ·exact EG x hx
   ·exact RP x hx
  ·rw [List.flatMap_append];exact q1.join q3
 ·rw [List.nodup_cons,List.nodup_append]
  refine ⟨fun hm=>?_,MK.1,MK.2.1,MK.2.2⟩
  exact (hin b (List.mem_append.1 hm)).2 rfl
theorem Ak{P:Program}(w:World)(t e ty:TypeId)(i:TypeInfo)(z:Value)(ht:P.underlying t=some (.slice e))(hi:P.info? e=some i)(hz:i.zero=some z)(b o n c:Nat)(hn:0<n)(cur:Array Value)(Ty:TypeId)
  (hg:w.heap[b]? = some (.cells cur Ty (0,0))) (hfit:o+n * z.cells.size<=cur.size) (h1:∀ v∈(Builtin.zeroCells z.cells n).toList,v.oneCell'=true) :
  (Builtin.clear_ #[t] ty #[.slice (some ⟨b,o,none⟩) n c]).run P w=.ok (.tuple #[]) (w.setRow b (cur.toList.take o++(Builtin.zeroCells z.cells n).toList++cur.toList.drop (o+n * z.cells.size)).toArray):=by
 have hl:(Builtin.zeroCells z.cells n).toList.length=n * z.cells.size:=by simp [Builtin.zeroCells]
 have hst:=run_storeCells_at P b o Ty (Builtin.zeroCells z.cells n).toList 0 cur w hg (by rw [hl];simpa using hfit) h1
 simp only [Nat.add_zero,hl] at hst
 obtain ⟨m,rfl⟩:∃ m,n=m+1:=⟨n - 1,by omega⟩
 simp [Builtin.clear_,run_underlying ht,zeroValue,typeInfo,hi,hz,hst]
theorem Dp{P:Program}{ops:Array Oper}{o:Oper}{a:Act}{w:World}{K:Act->World->Prop}{Q:Exit->Act->World->Prop}{E:Prop}
  (hg:o.guard=none) (s x:Operand) (t:TypeId) (hop:o.op=Op.call { callee:=Callee.builtin Builtin.append,args:=#[s,x],argTypes:=#[t,t] })
  (e:TypeId) (i:TypeInfo) (size:Nat) (h1:P.underlying t=some (.slice e)) (h2:P.info? e=some i) (h4:i.size=size)
  (b n cap:Nat) (hs:a.eval s=.slice (some ⟨b,0,none⟩) n cap) (ad:Addr) (m c:Nat) (news:List Value) (hx:a.eval x=.slice (some ad) m c) (hn:news.length=m * size) (hc:∀ j u,news[j]? = some u->w.cell? (ad.add j)=some u) (h1c:∀ u∈news,u.oneCell'=true)
  (hroom:n+m<=cap) (k:Nat) (hk:n+m=k) (cur:Array Value) (Ty:TypeId) (hrow:w.heap[b]? = some (.cells cur Ty (0,0))) (hfit:n * size+news.length<=cur.size)
  (hK:K (a.put o.dst (.slice (some ⟨b,0,none⟩) k cap)) (w.setRow b (cur.toList.take (n * size)++news++cur.toList.drop (n * size+news.length)).toArray)) :
  if Region.wanted o (yielded ops a.tmps)=true then Oper.wp P o a w K Q else E:=by
 have hw:Region.wanted o (yielded ops a.tmps)=true:=by simp [Region.wanted,hg]
 rw [if_pos hw]
 subst h4 hk
 have hrun:=tQ (tyr:=o.type) h1 h2 (u:=t) (x:=.slice (some ad) m c) (n:=m) (news:=news) (w:=w) ⟨.inl ⟨e,h1⟩,fun w'=>by simp [Builtin.lenOf],fun w' hw'=>run_firstCells_some (P:=P) w' i.size m ad m c news hn fun j v hj=>by
  have:=hc j v hj
  simpa [World.cell?,hw'] using this⟩ b n cap cur Ty hrow h1c hroom hfit
 unfold Oper.wp
 simp [execOp,hop,resolve,invoke,builtin,hs,hx,hrun,Result.andThen,-List.append_assoc]
 exact hK
end Go.Ab
namespace Go.Proofs
open Go.Ab Go.RowKit
set_option maxRecDepth 1000000 in
set_option maxHeartbeats 4000000 in
theorem K8:C2 Tryz.prog 199 3:=by
 intro w b n cap i j c Ty hc IC hcs WR hij hj hone
 obtain ⟨i0,hi0,hz0,hz1,hz2⟩:=info_parts (P:=Tryz.prog) (e:=99) (z:=.agg #[.string "".toUTF8,.string "".toUTF8,.slice none 0 0]) (size:=3) (bytes:=56) (by kernel_rfl)
 have ht:(Tryz.prog).underlying 37=some (.slice 99):=by kernel_rfl
 obtain ⟨news,hnews⟩:∃ news,news=(c.toList.drop (j * 3)).take ((n - j) * 3):=⟨_,rfl⟩
 have hns:n * 3<=c.size:=Nat.le_trans (Nat.mul_le_mul_right _ IC) hcs
 have hlen:news.length=(n - j) * 3:=by rw [hnews];simp;omega
 have hget:∀ t,t<(n - j) * 3->news[t]? = c[j * 3+t]?:=fun t h=>by rw [hnews,List.getElem?_take_of_lt h,List.getElem?_drop,Array.getElem?_toList]
 have hcell:∀ (k:Nat) (u:Value),c[k]? = some u->w.drew.cell? ⟨b,k,none⟩=some u:=fun k u h=>by
  have h2:w.drew.heap[b]? = some (.cells c Ty (0,0)):=hc
  simp [World.cell?,h2,h]
 obtain ⟨A,hA,hsrc⟩:∃ A:Addr,(if cap=j then some (⟨b,0,none⟩:Addr) else some ⟨b,j * 3,none⟩)=some A/\Hid (∀ t u,news[t]? = some u->w.drew.cell? (A.add t)=some u):=by
  by_cases h:cap=j
  ·refine ⟨⟨b,0,none⟩,by simp [h],fun t u hu=>?_⟩
   have h0:news.length=0:=by rw [hlen];omega
   rw [List.length_eq_zero_iff.1 h0] at hu
   simp at hu
  ·refine ⟨⟨b,j * 3,none⟩,by simp [h],fun t u hu=>?_⟩
   have ht':t<(n - j) * 3:=by
    have:=(List.getElem?_eq_some_iff.1 hu).1
    rwa [hlen] at this
   rw [hget t ht'] at hu
   rw [Addr.add_lit]
   exact hcell _ _ hu
 have s2:Hid (∀ u∈news,u.oneCell'=true):=by
  intro u hu
  obtain ⟨t,ht',rfl⟩:=List.getElem_of_mem hu
  have h3:=List.getElem?_eq_getElem ht'
  rw [hlen] at ht'
  rw [hget t ht'] at h3
  exact hone _ _ (by omega) h3
 have s1:Hid (news.length=(n - j) * 3):=hlen
 have s4:Hid (w.drew.heap[b]? = some (.cells c Ty (0,0))):=hc
 have s5:Hid (i * 3+news.length<=c.size):=by show _<=_;omega
 obtain ⟨c1,hc1⟩:∃ c1:Array Value,c1=(c.toList.take (i * 3)++news++c.toList.drop (i * 3+news.length)).toArray:=⟨_,rfl⟩
 have nN:c1.size=c.size:=by
  have:c.toList.length=c.size:=by simp
  rw [hc1];simp only [List.size_toArray,List.length_append,List.length_take,List.length_drop,hlen];omega
 obtain ⟨W1,hW1⟩:∃ W1,W1=w.drew.setRow b c1:=⟨_,rfl⟩
 have MY:W1.heap[b]? = some (.cells c1 Ty (0,0)):=by rw [hW1];exact dK w.drew b c1 c Ty _ hc
 have hW:Hid (W1=w.drew.setRow b (c.toList.take (i * 3)++news++c.toList.drop (i * 3+news.length)).toArray):=by show _=_;rw [hW1,hc1]
 obtain ⟨m,hm⟩:∃ m,i+(n - j)=m:=⟨_,rfl⟩
 obtain ⟨zs,hzs⟩:∃ zs,zs=(Builtin.zeroCells #[.string "".toUTF8,.string "".toUTF8,.slice none 0 0] (n - m)).toList:=⟨_,rfl⟩
 have hzl:zs.length=(n - m) * 3:=by rw [hzs];simp [Builtin.zeroCells]
 have RE:∀ v∈zs,v.oneCell'=true:=by
  rw [hzs]
  intro v hv
  simp only [Builtin.zeroCells,Array.toList_map,List.mem_map] at hv
  obtain ⟨k,_,rfl⟩:=hv
  have:k % 3<3:=Nat.mod_lt _ (by omega)
  have h4:k % 3=0\/k % 3=1\/k % 3=2:=by omega
  rcases h4 with h4|h4|h4<;>simp [h4]<;>rfl
 obtain ⟨c2,hc2⟩:∃ c2:Array Value,c2=(c1.toList.take (m * 3)++zs++c1.toList.drop (m * 3+(n - m) * 3)).toArray:=⟨_,rfl⟩
 have hcl:∀ ty,(Builtin.clear_ #[37] ty #[.slice (some ⟨b,m * 3,none⟩) (n - m) (cap - m)]).run Tryz.prog W1=.ok (.tuple #[]) (W1.setRow b c2):=fun ty=>by
  have:=Ak (P:=Tryz.prog) W1 37 99 ty i0 _ ht hi0 hz0 b (m * 3) (n - m) (cap - m) (by omega) c1 Ty MY (by rw [nN];show _+_ * 3<=_;omega) (fun v hv=>RE v (by rw [hzs];exact hv))
  rw [hc2,hzs]
  exact this
 have hic:i<=cap:=by omega
 have hjc:j<=cap:=by omega
 have hin:i<=n:=by omega
 have hmn:m<n:=by omega
 have hcm:¬ cap=m:=by omega
 have hmc:n<=cap:=by omega
 have hm':Hid (i+(n - j)=m):=hm
 have X0:Aside (n * 3<=c.size/\cap * 3<=c.size):=⟨hns,hcs⟩
 have X:Aside (w.heap[b]? = some (.cells c Ty (0,0))/\W1=w.drew.setRow b c1/\W1.heap[b]? = some (.cells c1 Ty (0,0))/\c1=(c.toList.take (i * 3)++news++c.toList.drop (i * 3+news.length)).toArray/\c2=(c1.toList.take (m * 3)++zs++c1.toList.drop (m * 3+(n - m) * 3)).toArray/\zs.length=(n - m) * 3/\news.length=(n - j) * 3/\c1.size=c.size/\∀ t,t<(n - j) * 3->news[t]? = c[j * 3+t]?):=⟨hc,hW1,MY,hc1,hc2,hzl,hlen,nN,hget⟩
 clear hc hone hget hcell hlen hnews nN MY hzl RE hW1 hc1 hc2 hzs hns hcs WR hm
 go_enter Tryz.func199,Tryz.ntmps199
 go_wp2_with fail
 go_region_law (refine Dp rfl (.tmp 22) (.tmp 25) 37 rfl 99 i0 3 ht hi0 hz1 b i cap (by simp [Act.eval,Act.put]) A (n - j) (cap - j) news (by simp [Act.eval,Act.put]) s1.out hsrc.out s2.out (by omega) m hm'.out c Ty s4.out s5.out ?_;rw [<- hW.out])
 go_wp2
 go_ret
 obtain ⟨x1,x2,x3,x4,x5,x6,x7,x8,x9⟩:=X
 have hm:=hm'.out
 have ZW:c1.toList.length=c1.size:=by simp
 have yw:c.toList.length=c.size:=by simp
 have hns:n * 3<=c.size:=X0.1
 have e1:∀ k,k<m * 3->c2[k]? = c1[k]?:=fun k hk=>by
  rw [x5,<- Array.getElem?_toList,<- Array.getElem?_toList,List.append_assoc,List.getElem?_append_left (by rw [List.length_take];omega),List.getElem?_take_of_lt hk]
 refine ⟨?_,c2,?_,?_,fun k hk=>?_,fun k hk=>?_,?_⟩
 ·have e0:n - (j - i)=m:=by omega
  rw [e0];rfl
 ·exact dK W1 b c2 c1 Ty _ x3
 ·rw [x5];simp only [List.size_toArray,List.length_append,List.length_take,List.length_drop,x6];omega
 ·rw [e1 k (by omega),x4,<- Array.getElem?_toList,<- Array.getElem?_toList,List.append_assoc,List.getElem?_append_left (by rw [List.length_take];omega),List.getElem?_take_of_lt hk]
 ·rw [e1 _ (by omega),x4,<- x9 k hk,<- Array.getElem?_toList,List.append_assoc,List.getElem?_append_right (by rw [List.length_take];omega),List.getElem?_append_left (by rw [List.length_take];omega)]
  congr 1
  rw [List.length_take];omega
 ·have k1:=Ext.setRow w.drew b c1 c Ty _ x1 x8
  have k2:=Ext.setRow W1 b c2 c1 Ty _ x3 (by rw [x5];simp only [List.size_toArray,List.length_append,List.length_take,List.length_drop,x6];omega)
  rw [x2] at k2 ⊢
  have hb:∀ k,(k<w.heap.size/\k≠b)->(k<w.heap.size/\k ∉ [b]):=fun k hk=>⟨hk.1,by simpa using hk.2⟩
  have WG:w.heap.size<=(w.drew.setRow b c1).heap.size:=k1.size
  refine ⟨rfl,rfl,rfl,Nat.le_trans k1.size k2.size,fun k hk=>(k2.same k ⟨Nat.lt_of_lt_of_le hk.1 WG,(hb k hk).2⟩).trans (k1.same k (hb k hk)),fun q cc T z hq=>?_⟩
  obtain ⟨c',h1,h2⟩:=k1.shape q cc T z hq
  obtain ⟨c'',h3,h4⟩:=k2.shape q c' T z h1
  exact ⟨c'',h3,h4.trans h2⟩
end Go.Proofs
