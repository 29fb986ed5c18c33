/- Part of a proof. -/
import Derived.Test.YtbiikafnjialjaaGreatDoorG23
set_option linter.all false
set_option maxRecDepth 20000
set_option maxHeartbeats 4000000
namespace Go.Ab
open Go.RowKit (Below)
section
variable {L : Nat -> Nat} {P : Program} {n : Nat}
theorem LOp.more{t:List (Nat×AV)}{os os':Sto}{o:Oper}{x:AV}{C:List Nat}(h:LOp L P ⟨n,t,os⟩ o x C)(ho:∀ c cells,O os c=some cells->O os' c=some cells):LOp L P ⟨n,t,os'⟩ o x C:=by
 intro B F0 w0 F own fp fs a w next Q hd bB
 exact h B F0 w0 F own fp fs a w next Q { hd with obj:=fun b cells hb=>hd.obj b cells (ho b cells hb) } bB
theorem uD{t:List (Nat×AV)}{os:Sto}{o:Oper}{ty':TypeId}{zs:List Value}(hop:o.op=.alloc ty')(hd:cK n o.dst=true)(hz:zer P ty'=some zs) :
  OpW L P o ⟨n,t,os⟩ (fun s'=>∃ b,fY os b/\s'=⟨n,upd o (.ptr b 0) [] t,(b,some (zs.map avz))::os⟩):=by
 intro B F0 w0 a w next Q bY bB
 have hfr:fY os w.heap.size:=by obtain ⟨F,own,fp,fs,hd'⟩:=bY;exact hd'.fresh
 obtain ⟨F,own,fp,fs,hD⟩:=bY
 obtain ⟨z,hzc,hzr⟩:=uJ hz
 have hrun:(execOp a.eval o).run P w=.ok (.value (.pointer (some ⟨w.heap.size,0,none⟩))) (w.alloc (.cells z.cells ty')):=by
  simp [execOp,hop,Instr.alloc,hzr,newVar,newRow]
 unfold Oper.wp
 rw [hrun]
 refine bB ⟨n,upd o (.ptr w.heap.size 0) [] t,(w.heap.size,some (zs.map avz))::os⟩ _ _ ⟨_,hfr,rfl⟩ ?_
 exact hD.renew [] [] w.heap.size (zs.map avz) [] o.dst hd ⟨rfl,rfl,rfl⟩ (Ext.alloc w _ []) (by simp) (.inr ⟨Nat.le_refl _,by simp⟩)
  ⟨z.cells,ty',zs,[],fL w _,by simp [hzc],aj.plain zs⟩ (by simp) (by simp) (by simp [Rep])
theorem o8(ops:Array Oper){D D':List (AV×List Nat)}:∀ (l:List Nat) (t:List (Nat×AV)),(∀ i,i∈l->D[i]? = D'[i]?)->db ops D t l=db ops D' t l
 | [],t,_=>rfl
 | i::l,t,h=>by
  simp only [db]
  rw [h i (by simp)]
  exact o8 ops l _ fun k hk=>h k (by simp [hk])
def wA(D:List (AV×List Nat))(b:Nat):List (AV×List Nat):=D++[(.ptr b 0,[])]
theorem Nq(D:List (AV×List Nat))(b:Nat):(wA D b).map Prod.snd=D.map Prod.snd++[[]]:=by simp [wA]
theorem xn(D:List (AV×List Nat))(b:Nat):(wA D b).length=D.length+1:=by simp [wA]
theorem Bt{D:List (AV×List Nat)}{b i:Nat}(h:i<D.length):(wA D b)[i]? = D[i]?:=List.getElem?_append_left h
theorem KI(D:List (AV×List Nat))(b:Nat):(wA D b)[D.length]? = some (.ptr b 0,[]):=by simp [wA]
theorem G8(ops:Array Oper)(D:List (AV×List Nat))(b:Nat)(t:List (Nat×AV)){j:Nat}(h:j<=D.length):db ops (wA D b) t (List.range j)=db ops D t (List.range j) :=
 o8 ops _ _ fun i hi=>Bt (by simp at hi;omega)
def StA(L:Nat->Nat)(n:Nat)(ops:Array Oper)(D:List (AV×List Nat))(t0:List (Nat×AV))(os:Sto)(cs:List AV)(B F0:Nat->Prop)(w0:World)(S:Nat->Bool)(a:Act)(w:World):Prop :=
 ∃ b os',((S D.length=false/\os'=os)\/(S D.length=true/\fY os b/\os'=(b,some cs)::os))/\Den L B F0 w0 ⟨n,db ops (wA D b) t0 ((List.range (D.length+1)).filter S),os'⟩ a w
theorem MA{ops:Array Oper}{os:Sto}{t0:List (Nat×AV)}{D:List (AV×List Nat)}{K:AS->Prop}{B:Nat->Prop}{F0:Nat->Prop}{w0:World}{Q:Exit->Act->World->Prop}{oa:Oper}{ty':TypeId}{zs:List Value}(hF:jt ops (D.map Prod.snd++[[]]))
  (hoa:ops[D.length]? = some oa) (hga:oa.guard=none) (hop:oa.op=.alloc ty') (hda:cK n oa.dst=true) (hz:zer P ty'=some zs)
  (hst:∀ j o d,ops[j]? = some o->D[j]? = some d->rF L P ops n os (db ops D t0 (List.range j)) o d.1 d.2)
  (htl:∀ b,fY os b->ma L P ops (List.range' (D.length+1) (ops.size - (D.length+1))) ⟨n,upd oa (.ptr b 0) [] (db ops D t0 (List.range D.length)),(b,some (zs.map avz))::os⟩ K) (hQ:∀ s' a' w',K s'->Den L B F0 w0 s' a' w'->Q .normal a' w') :
  ∀ (fuel t:Nat) (listed:Array Bool) (acc:List Nat),listed.size=ops.size->nV ops (fun i=>listed.getD i false=true)->(∀ j,D.length+1<=j->listed.getD j false=false)->((List.range ops.size).filter fun i=>!listed.getD i false).length<=fuel ->
  ∃ rest,Region.linearise.go .any ops fuel t listed acc=acc.reverse++rest/\∀ a w,StA L n ops D t0 os (zs.map avz) B F0 w0 (fun i=>listed.getD i false) a w->wpOps P ops Q rest a w:=by
 intro fuel
 have Dh:D.length+1<=ops.size:=by have:=hF.le;simpa using this
 have hend:∀ (listed:Array Bool),(∀ i,i<D.length+1->listed.getD i false=true)->∀ a w,StA L n ops D t0 os (zs.map avz) B F0 w0 (fun i=>listed.getD i false) a w->wpOps P ops Q (List.range' (D.length+1) (ops.size - (D.length+1))) a w:=by
  rintro listed hall a w ⟨b,os',hor,hd⟩
  rcases hor with ⟨h,_⟩|⟨_,hb,rfl⟩
  ·have h:listed.getD D.length false=false:=h
   rw [hall D.length (by omega)] at h;cases h
  have wV:(List.range (D.length+1)).filter (fun i=>listed.getD i false)=List.range (D.length+1):=by
   rw [List.filter_eq_self];intro i hi;exact hall i (by simpa using hi)
  rw [wV,List.range_succ,kG,hoa,KI,G8 ops D b t0 (Nat.le_refl _)] at hd
  exact htl b hb B F0 w0 a w Q hd hQ
 induction fuel with
 | zero =>
  intro t listed acc hs hS hno uk
  have hnil:(List.range ops.size).filter (fun i=>!listed.getD i false)=[]:=List.eq_nil_of_length_eq_zero (by omega)
  rw [List.filter_eq_nil_iff] at hnil
  have hall:∀ i,i<ops.size->listed.getD i false=true:=fun i hi=>by simpa using hnil i (by simpa using hi)
  have hD:D.length+1=ops.size:=by
   rcases Nat.lt_or_ge (D.length+1) ops.size with h|h
   ·have:=hall (D.length+1) h;rw [hno (D.length+1) (Nat.le_refl _)] at this;cases this
   ·omega
  refine ⟨[],by simp [Region.linearise.go],fun a w hd=>?_⟩
  have:=hend listed (fun i hi=>hall i (by omega)) a w hd
  rw [show ops.size - (D.length+1)=0 by omega] at this
  exact this
 | succ fuel ih =>
  intro t listed acc hs hS hno uk
  by_cases hall:∀ i,i<D.length+1->listed.getD i false=true
  ·refine ⟨List.range' (D.length+1) (ops.size - (D.length+1)),?_,hend listed hall⟩
   refine uT hF (fuel+1) t (D.length+1) acc listed (by simp) Dh hs (fun i=>?_) ?_
   ·by_cases e:i<D.length+1
    ·rw [hall i e];simp [e]
    ·rw [hno i (by omega)];simp [e]
   ·refine Nat.le_trans ?_ uk
    have kP:List.range ops.size=List.range (D.length+1)++(List.range (ops.size - (D.length+1))).map (D.length+1+·):=by
     rw [<- List.range_add];congr 1;omega
    rw [kP,List.filter_append,List.length_append]
    have:((List.range (ops.size - (D.length+1))).map (D.length+1+·)).filter (fun i=>!listed.getD i false)=(List.range (ops.size - (D.length+1))).map (D.length+1+·):=by
     rw [List.filter_eq_self];intro i hi
     simp only [List.mem_map,List.mem_range] at hi
     obtain ⟨q,_,rfl⟩:=hi
     rw [hno _ (by omega)];rfl
    rw [this];simp
  ·have hex:∃ i,i<D.length+1/\listed.getD i false=false:=by
    rcases Classical.em (∃ i,i<D.length+1/\listed.getD i false=false) with h|h
    ·exact h
    ·exact absurd (fun i hi=>by
      rcases hb:listed.getD i false with _|_
      ·exact absurd ⟨i,hi,hb⟩ h
      ·rfl) hall
   have ot:=least hex
   obtain ⟨i0,⟨hi0,hl0⟩,ot⟩:=ot
   have hr0:ready ops listed i0=true:=by
    refine (iG hs (by omega)).2 ⟨hl0,fun e he=>?_⟩
    have hlt:=hF.edge i0 _ (Array.getElem?_eq_getElem (by omega)) e he
    rcases hb:listed.getD e.on false with _|_
    ·have:=ot e.on ⟨by omega,hb⟩;omega
    ·rfl
   have yo:i0∈(List.range ops.size).filter (ready ops listed):=List.mem_filter.2 ⟨by simp;omega,hr0⟩
   have hpos:0<((List.range ops.size).filter (ready ops listed)).length:=List.length_pos_of_mem yo
   have hlt:=Nat.mod_lt t hpos
   rw [go_succ,List.getElem?_eq_getElem hlt]
   have qm:((List.range ops.size).filter (ready ops listed))[t % ((List.range ops.size).filter (ready ops listed)).length]∈(List.range ops.size).filter (ready ops listed):=List.getElem_mem hlt
   generalize ((List.range ops.size).filter (ready ops listed))[t % ((List.range ops.size).filter (ready ops listed)).length]=j at qm
   obtain ⟨hjn,hrj⟩:=List.mem_filter.1 qm
   simp only [List.mem_range] at hjn
   obtain ⟨hlj,hej⟩:=(iG hs hjn).1 hrj
   have hoj:ops[j]? = some ops[j]:=Array.getElem?_eq_getElem hjn
   have hjD:j<D.length+1:=by
    rcases Nat.lt_or_ge j (D.length+1) with h|h
    ·exact h
    ·have hb:=hF.tail i0 j (by omega) hjn (by simpa using h)
     have:=jl hS hoj hb hej
     rw [hl0] at this;cases this
   have hS':∀ i,(listed.setIfInBounds j true).getD i false=(listed.getD i false || i == j):=rV (by omega)
   obtain ⟨rest,hrest,hwp⟩:=ih (t / ((List.range ops.size).filter (ready ops listed)).length) (listed.setIfInBounds j true) (j::acc) (by simpa using hs) (by
    intro i o hi ho e he
    rw [hS'] at hi ⊢
    simp only [Bool.or_eq_true] at hi ⊢
    rcases hi with hi|hi
    ·exact .inl (hS i o hi ho e he)
    ·have:i=j:=by simpa using hi
     subst this
     rw [hoj] at ho;cases ho
     exact .inl (hej e he)) (by
    intro i hi
    rw [hS',hno i hi]
    have:(i == j)=false:=by simp;omega
    rw [this];rfl) (by
    have:=filter_lt (p:=fun i=>!listed.getD i false) (q:=fun i=>!(listed.setIfInBounds j true).getD i false) (fun i hi=>by
     rw [hS'] at hi;simp only [Bool.not_or,Bool.and_eq_true] at hi;exact hi.1) (List.range ops.size) ⟨j,by simpa using hjn,by rw [hlj];rfl,by rw [hS'];simp⟩
    omega)
   refine ⟨j::rest,by dsimp only;rw [hrest];simp,fun a w hd=>?_⟩
   obtain ⟨b,os',hor,hd⟩:=hd
   have hFb:∀ b,jt ops ((wA D b).map Prod.snd):=fun b=>by rw [Nq];exact hF
   rcases Nat.lt_or_ge j D.length with hjm|hjm
   ·
    have hdj:D[j]? = some D[j]:=List.getElem?_eq_getElem hjm
    have Kb:(wA D b)[j]? = some D[j]:=by rw [Bt hjm];exact hdj
    have hSt:=hst j ops[j] D[j] hoj hdj
    rw [<- G8 ops D b t0 (Nat.le_of_lt hjm)] at hSt
    have hSm:(listed.setIfInBounds j true).getD D.length false=listed.getD D.length false:=by
     rw [hS']
     have:(D.length == j)=false:=by simp;omega
     rw [this,Bool.or_false]
    have hmore:∀ c cells,O os c=some cells->O os' c=some cells:=by
     intro c cells hc
     rcases hor with ⟨_,rfl⟩|⟨_,hb,rfl⟩
     ·exact hc
     ·have:=hb c cells hc
      simp only [O]
      rw [if_neg (by simpa using fun e=>this e.symm)]
      exact hc
    have ui:∀ k,k∈slotsOf ops ops[j]->T (db ops (wA D b) t0 ((List.range (D.length+1)).filter fun i=>listed.getD i false)) k=T (db ops (wA D b) t0 (List.range j)) k:=fun k hk=>by
     have:=yT (hFb b) hS hoj (by rw [xn];omega) hlj hej t0 hk
     rwa [xn] at this
    have bB:∀ a' w',Den L B F0 w0 ⟨n,upd ops[j] D[j].1 D[j].2 (db ops (wA D b) t0 ((List.range (D.length+1)).filter fun i=>listed.getD i false)),os'⟩ a' w'->wpOps P ops Q rest a' w':=fun a' w' h'=>by
     refine hwp a' w' ⟨b,os',by show (_=false/\_)\/(_=true/\_);simp only [hSm];exact hor,?_⟩
     have:=step_eq (hFb b) hS hoj Kb hlj hS' t0
     rw [xn] at this
     exact cz.congr h' this
    have Db:LOp L P ⟨n,dX (db ops (wA D b) t0 (List.range j)) (slotsOf ops ops[j]),os⟩ ops[j] D[j].1 D[j].2->(ops[j]).wp P a w (wpOps P ops Q rest) Q:=fun hl =>
     ((hl.yZ ui hSt.sub).more hmore).opW hSt.dst (K:=fun s'=>s'=⟨n,upd ops[j] D[j].1 D[j].2 (db ops (wA D b) t0 ((List.range (D.length+1)).filter fun i=>listed.getD i false)),os'⟩) rfl B F0 w0 a w _ Q hd fun s' a' w' e h'=>by
      subst e;exact bB a' w' h'
    rcases hSt.run with ⟨hg,hl⟩|⟨gi,want,oj,d,G,g,x0,hg,hgi,hgd,hgl,hT,hx,hC,h1⟩
    ·simp only [wpOps,hoj]
     rw [if_pos (by simp [Region.wanted,hg])]
     exact .inl (Db hl)
    ·have hk:d∈slotsOf ops ops[j]:=by simp [slotsOf,hg,hgi,hgd]
     have hy:=oF hd hgi hgd (by rw [ui d hk];exact hT) hgl
     simp only [wpOps,hoj,Region.wanted,hg,hy]
     cases hw:(G && (g == want)) with
     | true =>
      have hl:=(h1 hw).cnd
      rw [hw] at hx
      rw [<- hx,<- hC] at hl
      simp at hw
      obtain ⟨rfl,rfl⟩:=hw
      rw [if_pos (by simp)]
      exact .inl (Db hl)
     | false =>
      rw [if_neg (by cases G<;>simp_all)]
      refine bB _ _ ?_
      obtain ⟨F,own,fp,fs,h⟩:=hd
      have:=h.put (x:=.cnd false x0) (v:=undef) (fx:=[]) [] (ops[j]).dst hSt.dst (Kp.refl _ _) (fun _ h=>h) (fun _ h=>.inl h) (by simp [Rep]) (by simp) (by simp)
      rw [hx,hC,hw]
      exact this
   ·
    have hj:j=D.length:=by omega
    subst hj
    have he:ops[D.length]=oa:=by rw [hoj] at hoa;exact Option.some.inj hoa
    rcases hor with ⟨_,rfl⟩|⟨h,_⟩
    ·simp only [wpOps,hoj]
     rw [if_pos (by simp [Region.wanted,he,hga])]
     refine .inl ?_
     rw [he]
     refine uD (L:=L) hop hda hz B F0 w0 a w _ Q hd ?_
     rintro s' a' w' ⟨b',hb',rfl⟩ h'
     refine hwp a' w' ⟨b',_,.inr ⟨by simp only [hS'];simp,hb',rfl⟩,?_⟩
     have h2:=step_eq (hFb b') hS hoj (KI D b') hlj hS' t0
     rw [xn,he] at h2
     refine cz.congr h' fun k=>?_
     rw [<- h2 k]
     congr 2
     refine o8 ops _ _ fun i hi=>?_
     rw [List.mem_filter,List.mem_range] at hi
     have hne:i≠D.length:=fun e=>by rw [e,hlj] at hi;exact absurd hi.2 (by simp)
     rw [Bt (by omega),Bt (by omega)]
    ·simp only [hlj] at h;cases h
theorem AW.K6 [hM:gH P]{s:AS}{Q:Exit->AS->Prop}{id:Nat}{ops:Array Oper}
  (h:jr L P ops s.n s.o (fun t D=>∃ oa ty' zs,ops[D.length]? = some oa/\oa.guard=none/\oa.op=.alloc ty'/\cK s.n oa.dst=true/\zer P ty'=some zs/\fT ops (D.map Prod.snd++[[]])=true /\
   ∀ b,fY s.o b->ma L P ops (List.range' (D.length+1) (ops.size - (D.length+1))) ⟨s.n,upd oa (.ptr b 0) [] t,(b,some (zs.map avz))::s.o⟩ (fun s'=>Q .normal s')) 0 s.t []) :
  AW L P (.region id ops true) s Q:=by
 intro B F0 w0 a w hd
 obtain ⟨D,⟨oa,ty',zs,hoa,hga,hop,hda,hz,hok,htl⟩,hst⟩:=h.inv (t0:=s.t) rfl rfl (by simp)
 have hF:=pO hok
 refine wp_region_draw fun t=>?_
 have C9:Region.schedule (P.follows .mixedOrders) ops t=Region.linearise .any ops t:=by
  simp [Region.schedule,hM.h]
 rw [C9]
 have hre:∀ i,(Array.replicate ops.size false).getD i false=false:=by
  intro i
  rw [Array.getD_eq_getD_getElem?,Array.getElem?_replicate]
  split<;>rfl
 obtain ⟨rest,hrest,hwp⟩:=MA (Q:=fun e a' w'=>∃ s',Q e s'/\Den L B F0 w0 s' a' w') (B:=B) (F0:=F0) (w0:=w0) hF hoa hga hop hda hz hst htl (fun s' a' w' h1 h2=>⟨s',h1,h2⟩) ops.size t (Array.replicate ops.size false) [] (by simp) (by
  intro j o hj
  rw [hre] at hj;cases hj) (fun j _=>hre j) (by
  have:=List.length_filter_le (fun i=>!(Array.replicate ops.size false).getD i false) (List.range ops.size)
  simpa using this)
 unfold Region.linearise
 rw [hrest]
 simp only [List.reverse_nil,List.nil_append]
 refine hwp a _ ⟨0,s.o,.inl ⟨hre _,rfl⟩,?_⟩
 have:(List.range (D.length+1)).filter (fun i=>(Array.replicate ops.size false).getD i false)=[]:=by
  rw [List.filter_eq_nil_iff]
  intro i _
  rw [hre];simp
 rw [this]
 exact hd.drew
def vo(P:Program)(ops:Array Oper)(n:Nat)(o:Sto)(D:List (AV×List Nat))(t:List (Nat×AV))(R:List Nat->List (Nat×AV)->Sto->Prop):Prop :=
 match ops[D.length]? with
 | some oa=>match oa.op with
  | .alloc ty'=>match zer P ty' with
   | some zs=>oa.guard.isNone=true/\cK n oa.dst=true/\fT ops (D.map Prod.snd++[[]])=true /\
    ∀ b,nfO o b->R (List.range' (D.length+1) (ops.size - (D.length+1))) (upd oa (.ptr b 0) [] t) ((b,some (zs.map avz))::o)
   | none=>False
  | _=>False
 | none=>False
theorem vo.out{ops:Array Oper}{o:Sto}{D:List (AV×List Nat)}{t:List (Nat×AV)}{R:List Nat->List (Nat×AV)->Sto->Prop}(h:vo P ops n o D t R) :
  ∃ oa ty' zs,ops[D.length]? = some oa/\oa.guard=none/\oa.op=.alloc ty'/\cK n oa.dst=true/\zer P ty'=some zs/\fT ops (D.map Prod.snd++[[]])=true /\
   ∀ b,fY o b->R (List.range' (D.length+1) (ops.size - (D.length+1))) (upd oa (.ptr b 0) [] t) ((b,some (zs.map avz))::o):=by
 unfold vo at h
 split at h
 ·rename_i oa hoa
  split at h
  ·rename_i ty' hop
   split at h
   ·rename_i zs hz
    obtain ⟨h1,h2,h3,h4⟩:=h
    exact ⟨oa,ty',zs,hoa,by simpa using h1,hop,h2,hz,h3,fun b hb=>h4 b hb.nf⟩
   ·exact h.elim
  ·exact h.elim
 ·exact h.elim
section
variable {t : List (Nat × AV)} {o : Sto} {Q : Exit -> AS -> Prop} {id : Nat} {ops : Array Oper}
theorem AW.NI [gH P]{c:Code} (h:∀ K:List (Nat×AV)->List (AV×List Nat)->Prop,(∀ t D,vo P ops n o D t (fun l t o=>∀ K':List (Nat×AV)->Sto->Prop,(∀ t o,AW L P c ⟨n,t,o⟩ Q->K' t o)->Wn L P ops n K' l [] t o)->K t D) ->
   W L P ops [] n o (fun t D _=>K t D) (List.range' 0 ops.size) t []):AW L P (.seq (.region id ops true) c) ⟨n,t,o⟩ Q :=
 AW.seq (AW.K6 (W.draw _ 0 _ _ rfl (h _ (fun t D h=>by
  obtain ⟨oa,ty',zs,h1,h2,h3,h4,h5,h6,h7⟩:=h.out
  exact ⟨oa,ty',zs,h1,h2,h3,h4,h5,h6,fun b hb=>Wn.pW (K:=fun t o=>AW L P c ⟨n,t,o⟩ Q) (fun _ _ h=>h) _ _ _ (h7 b hb _ (fun _ _ h=>h))⟩))))
theorem AW.Rs [gH P] (h:∀ K:List (Nat×AV)->List (AV×List Nat)->Prop,(∀ t D,vo P ops n o D t (fun l t o=>∀ K':List (Nat×AV)->Sto->Prop,(∀ t o,Q .normal ⟨n,t,o⟩->K' t o)->Wn L P ops n K' l [] t o)->K t D) ->
   W L P ops [] n o (fun t D _=>K t D) (List.range' 0 ops.size) t []):AW L P (.region id ops true) ⟨n,t,o⟩ Q :=
 AW.K6 (W.draw _ 0 _ _ rfl (h _ (fun t D h=>by
  obtain ⟨oa,ty',zs,h1,h2,h3,h4,h5,h6,h7⟩:=h.out
  exact ⟨oa,ty',zs,h1,h2,h3,h4,h5,h6,fun b hb=>Wn.pW (K:=fun t o=>Q .normal ⟨n,t,o⟩) (fun _ _ h=>h) _ _ _ (h7 b hb _ (fun _ _ h=>h))⟩)))
end
attribute [go_sem] vo
end
end Go.Ab
