/-
  Part of a proof: We2, Or0, Or1, Or2, We3p, Cu1, Cu3, We3, AbDb, AbDc, Dv0, MmD.
-/
import Derived.Test.YtmcjbaafmjlblaaGreatDoorG2
import Derived.Test.YtmcjbaafmjlblaaGreatDoorG21
import Derived.Test.YtmcjbaafmjlblaaGreatDoorG27
import Derived.Test.YtmcjbaafmjlblaaGreatDoorG30
import Derived.Test.YtmcjbaafmjlblaaGreatDoorG32
import Derived.Test.YtmcjbaafmjlblaaGreatDoorG34
import Derived.Test.YtmcjbaafmjlblaaGreatDoorG39
import Derived.Test.YtmcjbaafmjlblaaGreatDoorG40
import Derived.Test.YtmcjbaafmjlblaaGreatDoorG41
import Derived.Test.YtmcjbaafmjlblaaGreatDoorG42
import Derived.Test.YtmcjbaafmjlblaaGreatDoorG43
import Derived.Test.YtmcjbaafmjlblaaGreatDoorG44
import Derived.Test.YtmcjbaafmjlblaaGreatDoorG45
import Derived.Test.YtmcjbaafmjlblaaGreatDoorG46
import Derived.Test.YtmcjbaafmjlblaaGreatDoorG47
import Derived.Test.YtmcjbaafmjlblaaGreatDoorG48
set_option linter.unusedSimpArgs false
set_option linter.unusedVariables false
namespace Go.Proofs.YtmcjbaafmjlblaaGreatDoor
open Go.Ab Go.Dt
set_option maxRecDepth 20000
set_option maxHeartbeats 4000000
attribute [local go_sem] encEditS frzL_str encSchemaM_frz encNodeM_frz encEditM_frz encEditSM_frz edsAll edsOne ediAll ediOne dp_0 tk_0
end Go.Proofs.YtmcjbaafmjlblaaGreatDoor
namespace Go.Dt
open Go Go.Ab
end Go.Dt
namespace Go.Dt
open Go Go.Ab
end Go.Dt
namespace Go.Dt
open Go Go.Ab
section
variable {s : List GSchema} {x y : GNode} {a b l : List GNode}
end
end Go.Dt
namespace Go.Dt
open Go Go.Ab
def telB(s:List GSchema)(w:GWatcher)(a b:List GNode):Bool:=isTree s a && isTree s b && !smT (cutT s a w.fNames) (cutT s b w.fNames) && decide (w.fNotices.length<20)
def telN(s:List GSchema)(w:GWatcher)(a b:List GNode):List (List GEdit):=if telB s w a b=true then w.fNotices++[difT s (cutT s a w.fNames) (cutT s b w.fNames)] else w.fNotices
end Go.Dt
namespace Go.Proofs.YtmcjbaafmjlblaaGreatDoor
open Go.Ab Go.Dt
set_option maxRecDepth 20000
set_option maxHeartbeats 4000000
theorem strTail(cs:List Str):List.drop (Int.toNat 1) (List.take cs.length (cs.map AV.str))=(cs.drop 1).map AV.str:=by
 rw [List.take_of_length_le (by simp),List.map_drop];rfl
attribute [local go_sem] frzL_str encSchemaM_frz encNodeM_frz schAll schOne nms_idx schF nodF strTail
end Go.Proofs.YtmcjbaafmjlblaaGreatDoor
namespace Go.Proofs.YtmcjbaafmjlblaaGreatDoor
open Go.Ab Go.Dt
set_option maxRecDepth 20000
set_option maxHeartbeats 4000000
attribute [local go_sem] frzL_str encSchemaM_frz encNodeM_frz
end Go.Proofs.YtmcjbaafmjlblaaGreatDoor
namespace Go.Proofs.YtmcjbaafmjlblaaGreatDoor
open Go.Ab Go.Dt
set_option maxRecDepth 20000
set_option maxHeartbeats 4000000
theorem enEdit_c(x:GEdit):(encEdit true x).closed=true:=by
 rw [encEdit_eq]
 simp only [AV.closed,AV.closedL,closedL_mem x.fKids (fun y hy=>enEdit_c y),Bool.true_and,Bool.and_true]
termination_by SizeOf.sizeOf x
decreasing_by have:=List.sizeOf_lt_of_mem hy;cases x;simp [GEdit.fKids] at *;omega
theorem enEdit_cl(l:List GEdit):AV.closedL (l.map (encEdit true))=true:=closedL_mem l fun x _=>enEdit_c x
attribute [local go_sem] encEditS frzL_str encSchemaM_frz encNodeM_frz encEditM_frz edsAll edsOne ediAll ediOne enEdit_cl
end Go.Proofs.YtmcjbaafmjlblaaGreatDoor
namespace Go.Ab
open Go.RowKit (Below)
section
variable {L : Nat → Nat} {P : Program} {n : Nat}
theorem store_soundF{t:List (Nat×AV)}{os:Sto}{o:Oper}{ty2:TypeId}{d v b m:Nat}{g:Bool}{cs:List AV}(hop:o.op=.store ty2 (.tmp d) (.tmp v))(hd:o.dst=none)(ha:T t d=.ptr b 0)(ht:ty P ty2=some (g,m))(hl:cs.length=m)(hx:(T t v).elem m=true)(hone:(T t v).cells.all AV.one=true) :
  OpW L P o ⟨n,t,(b,some cs)::os⟩ (fun s'=>s'=⟨n,killL t (kills t [.tmp v]),(b,some (T t v).cells)::os⟩):=by
 intro B F0 w0 a w next Q hd' hnext
 refine opw_store (s:=⟨n,t,(b,some cs)::os⟩) (off:=0) (b:=b) (cells:=cs) (ad:=.tmp d) (x:=.tmp v) hop hd ha (by simp [O]) ht hx hone (by omega) (K:=fun s'=>s'=⟨n,killL t (kills t [.tmp v]),(b,some (cs.take 0++(T t v).cells++cs.drop (0+m)))::dropO ((b,some cs)::os) [b]⟩) rfl B F0 w0 a w next Q hd' ?_
 rintro s' a' w' rfl h'
 refine hnext _ _ _ rfl (h'.weaken rfl (fun _=>.inl rfl) ?_)
 intro q cells hq
 have hdr:cs.drop (0+m)=[]:=List.drop_eq_nil_of_le (by omega)
 simp only [O,dropO,List.take_zero,List.nil_append,hdr,List.append_nil] at hq ⊢
 split at hq
 ·rename_i e;rw [if_pos e];exact hq
 ·rename_i e;rw [if_neg e,if_neg e,if_neg e];exact hq
def wB(D:List (AV×List Nat))(C:List Nat)(b:Nat):List (AV×List Nat):=D++[(.ptr b 0,[]),(.dead,C)]
theorem wB_snd(D:List (AV×List Nat))(C:List Nat)(b:Nat):(wB D C b).map Prod.snd=D.map Prod.snd++[[],C]:=by simp [wB]
theorem wB_len(D:List (AV×List Nat))(C:List Nat)(b:Nat):(wB D C b).length=D.length+2:=by simp [wB]
theorem wB_lt{D:List (AV×List Nat)}{C:List Nat}{b i:Nat}(h:i<D.length):(wB D C b)[i]? = D[i]?:=List.getElem?_append_left h
theorem wB_at(D:List (AV×List Nat))(C:List Nat)(b:Nat):(wB D C b)[D.length]? = some (.ptr b 0,[]):=by simp [wB]
theorem wB_at1(D:List (AV×List Nat))(C:List Nat)(b:Nat):(wB D C b)[D.length+1]? = some (.dead,C):=by simp [wB,List.getElem?_append_right]
theorem wB_run(ops:Array Oper)(D:List (AV×List Nat))(C:List Nat)(b:Nat)(t:List (Nat×AV)){j:Nat}(h:j≤D.length):runD ops (wB D C b) t (List.range j)=runD ops D t (List.range j) :=
 runD_ext ops _ _ fun i hi=>wB_lt (by simp at hi;omega)
theorem wB_run1{ops:Array Oper}{D:List (AV×List Nat)}(C:List Nat)(b:Nat)(t:List (Nat×AV)){oa:Oper}(hoa:ops[D.length]? = some oa):runD ops (wB D C b) t (List.range (D.length+1))=upd oa (.ptr b 0) [] (runD ops D t (List.range D.length)):=by
 rw [List.range_succ,runD_snoc,hoa,wB_at,wB_run ops D C b t (Nat.le_refl _)]
theorem wB_run2{ops:Array Oper}{D:List (AV×List Nat)}(C:List Nat)(b:Nat)(t:List (Nat×AV)){oa ob:Oper}(hoa:ops[D.length]? = some oa)(hob:ops[D.length+1]? = some ob):runD ops (wB D C b) t (List.range (D.length+2))=upd ob .dead C (upd oa (.ptr b 0) [] (runD ops D t (List.range D.length))):=by
 rw [List.range_succ,runD_snoc,hob,wB_at1,wB_run1 C b t hoa]
def StB(L:Nat→Nat)(n:Nat)(ops:Array Oper)(D:List (AV×List Nat))(C:List Nat)(t0:List (Nat×AV))(os:Sto)(cs cs':List AV)(B F0:Nat→Prop)(w0:World)(S:Nat→Bool)(a:Act)(w:World):Prop :=
 ∃ b os',((S D.length=false∧S (D.length+1)=false∧os'=os)∨(S D.length=true∧S (D.length+1)=false∧Fresh os b∧os'=(b,some cs)::os)∨(S D.length=true∧S (D.length+1)=true∧Fresh os b∧os'=(b,some cs')::os))∧Den L B F0 w0 ⟨n,runD ops (wB D C b) t0 ((List.range (D.length+2)).filter S),os'⟩ a w
theorem go_allB{ops:Array Oper}{os:Sto}{t0:List (Nat×AV)}{D:List (AV×List Nat)}{K:AS→Prop}{B:Nat→Prop}{F0:Nat→Prop}{w0:World}{Q:Exit→Act→World→Prop}{oa ob:Oper}{ty' ty2:TypeId}{zs:List Value}{d v:Nat}{g:Bool}{tD:List (Nat×AV)}(htD:runD ops D t0 (List.range D.length)=tD)(hF:DrawFacts ops (D.map Prod.snd++[[],kills tD [.tmp v]]))
  (hoa:ops[D.length]? = some oa) (hga:oa.guard=none) (hop:oa.op=.alloc ty') (hda:dstOK n oa.dst=true) (hz:zer P ty'=some zs)
  (hob:ops[D.length+1]? = some ob) (hgb:ob.guard=none) (hopb:ob.op=.store ty2 (.tmp d) (.tmp v)) (hdb:ob.dst=none) (hd0:oa.dst=some d) (hvd:v≠d) (hty:ty P ty2=some (g,zs.length)) (hx:(T tD v).elem zs.length=true) (hone:(T tD v).cells.all AV.one=true)
  (hst:∀ j o d,ops[j]? = some o→D[j]? = some d→StepOK L P ops n os (runD ops D t0 (List.range j)) o d.1 d.2)
  (htl:∀ b,Fresh os b→OpsW L P ops (List.range' (D.length+2) (ops.size - (D.length+2))) ⟨n,upd ob .dead (kills tD [.tmp v]) (upd oa (.ptr b 0) [] tD),(b,some (T tD v).cells)::os⟩ K) (hQ:∀ s' a' w',K s'→Den L B F0 w0 s' a' w'→Q .normal a' w') :
  ∀ (fuel t:Nat) (listed:Array Bool) (acc:List Nat),listed.size=ops.size→Closed ops (fun i=>listed.getD i false=true)→(∀ j,D.length+2≤j→listed.getD j false=false)→((List.range ops.size).filter fun i=>!listed.getD i false).length≤fuel →
  ∃ rest,Region.linearise.go .any ops fuel t listed acc=acc.reverse++rest∧∀ a w,StB L n ops D (kills tD [.tmp v]) t0 os (zs.map avz) (T tD v).cells B F0 w0 (fun i=>listed.getD i false) a w→wpOps P ops Q rest a w:=by
 intro fuel
 generalize hC:kills tD [.tmp v]=C at *
 have hDle:D.length+2≤ops.size:=by have:=hF.le;simpa using this
 have hend:∀ (listed:Array Bool),(∀ i,i<D.length+2→listed.getD i false=true)→∀ a w,StB L n ops D C t0 os (zs.map avz) (T tD v).cells B F0 w0 (fun i=>listed.getD i false) a w→wpOps P ops Q (List.range' (D.length+2) (ops.size - (D.length+2))) a w:=by
  rintro listed hall a w ⟨b,os',hor,hd⟩
  have q0:=hall D.length (by omega)
  have q1:=hall (D.length+1) (by omega)
  rcases hor with ⟨h,_⟩|⟨_,h,_⟩|⟨_,_,hb,rfl⟩
  ·have h:listed.getD D.length false=false:=h
   rw [q0] at h;cases h
  ·have h:listed.getD (D.length+1) false=false:=h
   rw [q1] at h;cases h
  have hfil:(List.range (D.length+2)).filter (fun i=>listed.getD i false)=List.range (D.length+2):=by
   rw [List.filter_eq_self];intro i hi;exact hall i (by simpa using hi)
  rw [hfil,wB_run2 C b t0 hoa hob,htD] at hd
  exact htl b hb B F0 w0 a w Q hd hQ
 induction fuel with
 | zero =>
  intro t listed acc hs hS hno hcnt
  have hnil:(List.range ops.size).filter (fun i=>!listed.getD i false)=[]:=List.eq_nil_of_length_eq_zero (by omega)
  rw [List.filter_eq_nil_iff] at hnil
  have hall:∀ i,i<ops.size→listed.getD i false=true:=fun i hi=>by simpa using hnil i (by simpa using hi)
  have hD:D.length+2=ops.size:=by
   rcases Nat.lt_or_ge (D.length+2) ops.size with h|h
   ·have:=hall (D.length+2) h;rw [hno (D.length+2) (Nat.le_refl _)] at this;cases this
   ·omega
  refine ⟨[],by simp [Region.linearise.go],fun a w hd=>?_⟩
  have:=hend listed (fun i hi=>hall i (by omega)) a w hd
  rw [show ops.size - (D.length+2)=0 by omega] at this
  exact this
 | succ fuel ih =>
  intro t listed acc hs hS hno hcnt
  by_cases hall:∀ i,i<D.length+2→listed.getD i false=true
  ·refine ⟨List.range' (D.length+2) (ops.size - (D.length+2)),?_,hend listed hall⟩
   refine go_tail hF (fuel+1) t (D.length+2) acc listed (by simp) hDle hs (fun i=>?_) ?_
   ·by_cases e:i<D.length+2
    ·rw [hall i e];simp [e]
    ·rw [hno i (by omega)];simp [e]
   ·refine Nat.le_trans ?_ hcnt
    have hsplit:List.range ops.size=List.range (D.length+2)++(List.range (ops.size - (D.length+2))).map (D.length+2+·):=by
     rw [← List.range_add];congr 1;omega
    rw [hsplit,List.filter_append,List.length_append]
    have:((List.range (ops.size - (D.length+2))).map (D.length+2+·)).filter (fun i=>!listed.getD i false)=(List.range (ops.size - (D.length+2))).map (D.length+2+·):=by
     rw [List.filter_eq_self];intro i hi
     simp only [List.mem_map,List.mem_range] at hi
     obtain ⟨q,_,rfl⟩:=hi
     rw [hno _ (by omega)];rfl
    rw [this];simp
  ·have hex:∃ i,i<D.length+2∧listed.getD i false=false:=by
    rcases Classical.em (∃ i,i<D.length+2∧listed.getD i false=false) with h|h
    ·exact h
    ·exact absurd (fun i hi=>by
      rcases hb:listed.getD i false with _|_
      ·exact absurd ⟨i,hi,hb⟩ h
      ·rfl) hall
   have hmin:=least hex
   obtain ⟨i0,⟨hi0,hl0⟩,hmin⟩:=hmin
   have hr0:ready ops listed i0=true:=by
    refine (ready_iff hs (by omega)).2 ⟨hl0,fun e he=>?_⟩
    have hlt:=hF.edge i0 _ (Array.getElem?_eq_getElem (by omega)) e he
    rcases hb:listed.getD e.on false with _|_
    ·have:=hmin e.on ⟨by omega,hb⟩;omega
    ·rfl
   have hmem0:i0∈(List.range ops.size).filter (ready ops listed):=List.mem_filter.2 ⟨by simp;omega,hr0⟩
   have hpos:0<((List.range ops.size).filter (ready ops listed)).length:=List.length_pos_of_mem hmem0
   have hlt:=Nat.mod_lt t hpos
   rw [go_succ,List.getElem?_eq_getElem hlt]
   have hmemj:((List.range ops.size).filter (ready ops listed))[t % ((List.range ops.size).filter (ready ops listed)).length]∈(List.range ops.size).filter (ready ops listed):=List.getElem_mem hlt
   generalize ((List.range ops.size).filter (ready ops listed))[t % ((List.range ops.size).filter (ready ops listed)).length]=j at hmemj
   obtain ⟨hjn,hrj⟩:=List.mem_filter.1 hmemj
   simp only [List.mem_range] at hjn
   obtain ⟨hlj,hej⟩:=(ready_iff hs hjn).1 hrj
   have hoj:ops[j]? = some ops[j]:=Array.getElem?_eq_getElem hjn
   have hjD:j<D.length+2:=by
    rcases Nat.lt_or_ge j (D.length+2) with h|h
    ·exact h
    ·have hb:=hF.tail i0 j (by omega) hjn (by simpa using h)
     have:=before_mem hS hoj hb hej
     rw [hl0] at this;cases this
   have hS':∀ i,(listed.setIfInBounds j true).getD i false=(listed.getD i false || i == j):=set_getD (by omega)
   obtain ⟨rest,hrest,hwp⟩:=ih (t / ((List.range ops.size).filter (ready ops listed)).length) (listed.setIfInBounds j true) (j::acc) (by simpa using hs) (by
    intro i o hi ho e he
    rw [hS'] at hi ⊢
    simp only [Bool.or_eq_true] at hi ⊢
    rcases hi with hi|hi
    ·exact .inl (hS i o hi ho e he)
    ·have:i=j:=by simpa using hi
     subst this
     rw [hoj] at ho;cases ho
     exact .inl (hej e he)) (by
    intro i hi
    rw [hS',hno i hi]
    have:(i == j)=false:=by simp;omega
    rw [this];rfl) (by
    have:=filter_lt (p:=fun i=>!listed.getD i false) (q:=fun i=>!(listed.setIfInBounds j true).getD i false) (fun i hi=>by
     rw [hS'] at hi;simp only [Bool.not_or,Bool.and_eq_true] at hi;exact hi.1) (List.range ops.size) ⟨j,by simpa using hjn,by rw [hlj];rfl,by rw [hS'];simp⟩
    omega)
   refine ⟨j::rest,by dsimp only;rw [hrest];simp,fun a w hd=>?_⟩
   obtain ⟨b,os',hor,hd⟩:=hd
   have hFb:∀ b,DrawFacts ops ((wB D C b).map Prod.snd):=fun b=>by rw [wB_snd];exact hF
   have hsl:∀ k,k∈slotsOf ops ops[j]→T (runD ops (wB D C b) t0 ((List.range (D.length+2)).filter fun i=>listed.getD i false)) k=T (runD ops (wB D C b) t0 (List.range j)) k:=fun k hk=>by
    have:=slot_eq (hFb b) hS hoj (by rw [wB_len];omega) hlj hej t0 hk
    rwa [wB_len] at this
   rcases Nat.lt_or_ge j D.length with hjm|hjm
   ·
    have hdj:D[j]? = some D[j]:=List.getElem?_eq_getElem hjm
    have hdj':(wB D C b)[j]? = some D[j]:=by rw [wB_lt hjm];exact hdj
    have hSt:=hst j ops[j] D[j] hoj hdj
    rw [← wB_run ops D C b t0 (Nat.le_of_lt hjm)] at hSt
    have hSm:(listed.setIfInBounds j true).getD D.length false=listed.getD D.length false:=by
     rw [hS']
     have:(D.length == j)=false:=by simp;omega
     rw [this,Bool.or_false]
    have hSm1:(listed.setIfInBounds j true).getD (D.length+1) false=listed.getD (D.length+1) false:=by
     rw [hS']
     have:(D.length+1 == j)=false:=by simp;omega
     rw [this,Bool.or_false]
    have hmore:∀ c cells,O os c=some cells→O os' c=some cells:=by
     intro c cells hc
     rcases hor with ⟨_,_,rfl⟩|⟨_,_,hb,rfl⟩|⟨_,_,hb,rfl⟩
     ·exact hc
     ·have:=hb c cells hc
      simp only [O]
      rw [if_neg (by simpa using fun e=>this e.symm)]
      exact hc
     ·have:=hb c cells hc
      simp only [O]
      rw [if_neg (by simpa using fun e=>this e.symm)]
      exact hc
    have hnext:∀ a' w',Den L B F0 w0 ⟨n,upd ops[j] D[j].1 D[j].2 (runD ops (wB D C b) t0 ((List.range (D.length+2)).filter fun i=>listed.getD i false)),os'⟩ a' w'→wpOps P ops Q rest a' w':=fun a' w' h'=>by
     refine hwp a' w' ⟨b,os',by show (_=false∧_=false∧_)∨(_=true∧_=false∧_)∨(_=true∧_=true∧_);simp only [hSm,hSm1];exact hor,?_⟩
     have:=step_eq (hFb b) hS hoj hdj' hlj hS' t0
     rw [wB_len] at this
     exact DenAt.congr h' this
    have hop':LOp L P ⟨n,keepT (runD ops (wB D C b) t0 (List.range j)) (slotsOf ops ops[j]),os⟩ ops[j] D[j].1 D[j].2→(ops[j]).wp P a w (wpOps P ops Q rest) Q:=fun hl =>
     ((hl.of_keep hsl hSt.sub).more hmore).opW hSt.dst (K:=fun s'=>s'=⟨n,upd ops[j] D[j].1 D[j].2 (runD ops (wB D C b) t0 ((List.range (D.length+2)).filter fun i=>listed.getD i false)),os'⟩) rfl B F0 w0 a w _ Q hd fun s' a' w' e h'=>by
      subst e;exact hnext a' w' h'
    rcases hSt.run with ⟨hg,hl⟩|⟨gi,want,oj,d,G,g,x0,hg,hgi,hgd,hgl,hT,hx,hC,h1⟩
    ·simp only [wpOps,hoj]
     rw [if_pos (by simp [Region.wanted,hg])]
     exact .inl (hop' hl)
    ·have hk:d∈slotsOf ops ops[j]:=by simp [slotsOf,hg,hgi,hgd]
     have hy:=yielded_of hd hgi hgd (by rw [hsl d hk];exact hT) hgl
     simp only [wpOps,hoj,Region.wanted,hg,hy]
     cases hw:(G && (g == want)) with
     | true =>
      have hl:=(h1 hw).cnd
      rw [hw] at hx
      rw [← hx,← hC] at hl
      simp at hw
      obtain ⟨rfl,rfl⟩:=hw
      rw [if_pos (by simp)]
      exact .inl (hop' hl)
     | false =>
      rw [if_neg (by cases G<;>simp_all)]
      refine hnext _ _ ?_
      obtain ⟨F,own,fp,fs,h⟩:=hd
      have:=h.put (x:=.cnd false x0) (v:=undef) (fx:=[]) [] (ops[j]).dst hSt.dst (Kp.refl _ _) (fun _ h=>h) (fun _ h=>.inl h) (by simp [Rep]) (by simp) (by simp)
      rw [hx,hC,hw]
      exact this
   rcases Nat.eq_or_lt_of_le hjm with hj|hj
   ·
    subst hj
    have he:ops[D.length]=oa:=by rw [hoj] at hoa;exact Option.some.inj hoa
    rcases hor with ⟨_,h1,rfl⟩|⟨h,_⟩|⟨h,_⟩
    ·simp only [wpOps,hoj]
     rw [if_pos (by simp [Region.wanted,he,hga])]
     refine .inl ?_
     rw [he]
     refine alloc_soundF (L:=L) hop hda hz B F0 w0 a w _ Q hd ?_
     rintro s' a' w' ⟨b',hb',rfl⟩ h'
     refine hwp a' w' ⟨b',_,.inr (.inl ⟨by simp only [hS'];simp,by simp only [hS',h1];simp,hb',rfl⟩),?_⟩
     have h2:=step_eq (hFb b') hS hoj (wB_at D C b') hlj hS' t0
     rw [wB_len,he] at h2
     refine DenAt.congr h' fun k=>?_
     rw [← h2 k]
     congr 2
     refine runD_ext ops _ _ fun i hi=>?_
     rw [List.mem_filter,List.mem_range] at hi
     have hne:i≠D.length:=fun e=>by rw [e,hlj] at hi;exact absurd hi.2 (by simp)
     rcases Nat.lt_or_ge i D.length with h3|h3
     ·rw [wB_lt h3,wB_lt h3]
     ·have:i=D.length+1:=by omega
      rw [this,wB_at1,wB_at1]
    ·simp only [hlj] at h;cases h
    ·simp only [hlj] at h;cases h
   ·
    have hj:j=D.length+1:=by omega
    subst hj
    have he:ops[D.length+1]=ob:=by rw [hoj] at hob;exact Option.some.inj hob
    have kd:d∈slotsOf ops ops[D.length+1]:=by rw [he];simp [slotsOf,hopb,Op.operands]
    have kv:v∈slotsOf ops ops[D.length+1]:=by rw [he];simp [slotsOf,hopb,Op.operands]
    have hSm:listed.getD D.length false=true:=by
     refine before_mem hS hoj (hF.conf D.length (D.length+1) (by omega) (by simp) ?_) hej
     simp only [conf,Bool.or_eq_true]
     refine .inl (List.any_eq_true.2 ⟨d,?_,?_⟩)
     ·simp [wr,hoa,hd0]
     ·simp only [Bool.or_eq_true]
      refine .inl ?_
      simp only [rd,hoj]
      simpa using kd
    rcases hor with ⟨h,_⟩|⟨_,_,hb,rfl⟩|⟨_,h,_⟩
    ·have h:listed.getD D.length false=false:=h
     rw [hSm] at h;cases h
    ·have h1d:=hsl d kd
     have h1v:=hsl v kv
     rw [wB_run1 C b t0 hoa,htD,T_upd] at h1d h1v
     rw [hd0,if_pos rfl] at h1d
     rw [hd0,if_neg (by simpa using fun e=>hvd e.symm)] at h1v
     simp only [List.not_mem_nil,if_false] at h1v
     simp only [wpOps,hoj]
     rw [if_pos (by simp [Region.wanted,he,hgb])]
     refine .inl ?_
     rw [he]
     have hC':kills (runD ops (wB D C b) t0 ((List.range (D.length+2)).filter fun i=>listed.getD i false)) [.tmp v]=C:=by
      refine Eq.trans ?_ hC
      show (bif (T _ v).nown then kills _ [] else v::kills _ [])=(bif (T tD v).nown then kills tD [] else v::kills tD [])
      rw [h1v];rfl
     refine store_soundF (L:=L) hopb hdb h1d hty (by simp) (by rw [h1v];exact hx) (by rw [h1v];exact hone) B F0 w0 a w _ Q hd ?_
     rintro s' a' w' rfl h'
     rw [hC',h1v] at h'
     refine hwp a' w' ⟨b,_,.inr (.inr ⟨by simp only [hS',hSm];simp,by simp only [hS'];simp,hb,rfl⟩),?_⟩
     have h2:=step_eq (hFb b) hS hoj (wB_at1 D C b) hlj hS' t0
     rw [wB_len,he] at h2
     simp only [upd,hdb,put] at h2
     exact DenAt.congr h' h2
    ·simp only [hlj] at h;cases h
theorem AW.drawB [hM:MixOK P]{s:AS}{Q:Exit→AS→Prop}{id:Nat}{ops:Array Oper}
  (h:DrawG L P ops s.n s.o (fun t D=>∃ oa ob ty' ty2 zs d v g,ops[D.length]? = some oa∧oa.guard=none∧oa.op=.alloc ty'∧dstOK s.n oa.dst=true∧zer P ty'=some zs ∧
   ops[D.length+1]? = some ob∧ob.guard=none∧ob.op=.store ty2 (.tmp d) (.tmp v)∧ob.dst=none∧oa.dst=some d∧v≠d∧ty P ty2=some (g,zs.length)∧(T t v).elem zs.length=true∧(T t v).cells.all AV.one=true∧drawOK ops (D.map Prod.snd++[[],kills t [.tmp v]])=true ∧
   ∀ b,Fresh s.o b→OpsW L P ops (List.range' (D.length+2) (ops.size - (D.length+2))) ⟨s.n,upd ob .dead (kills t [.tmp v]) (upd oa (.ptr b 0) [] t),(b,some (T t v).cells)::s.o⟩ (fun s'=>Q .normal s')) 0 s.t []) :
  AW L P (.region id ops true) s Q:=by
 intro B F0 w0 a w hd
 obtain ⟨D,⟨oa,ob,ty',ty2,zs,d,v,g,hoa,hga,hop,hda,hz,hob,hgb,hopb,hdb,hd0,hvd,hty,hx,hone,hok,htl⟩,hst⟩:=h.inv (t0:=s.t) rfl rfl (by simp)
 have hF:=drawOK_facts hok
 refine wp_region_draw fun t=>?_
 have hsch:Region.schedule (P.follows .mixedOrders) ops t=Region.linearise .any ops t:=by
  simp [Region.schedule,hM.h]
 rw [hsch]
 have hre:∀ i,(Array.replicate ops.size false).getD i false=false:=by
  intro i
  rw [Array.getD_eq_getD_getElem?,Array.getElem?_replicate]
  split<;>rfl
 obtain ⟨rest,hrest,hwp⟩:=go_allB (Q:=fun e a' w'=>∃ s',Q e s'∧Den L B F0 w0 s' a' w') (B:=B) (F0:=F0) (w0:=w0) rfl hF hoa hga hop hda hz hob hgb hopb hdb hd0 hvd hty hx hone hst htl (fun s' a' w' h1 h2=>⟨s',h1,h2⟩) ops.size t (Array.replicate ops.size false) [] (by simp) (by
  intro j o hj
  rw [hre] at hj;cases hj) (fun j _=>hre j) (by
  have:=List.length_filter_le (fun i=>!(Array.replicate ops.size false).getD i false) (List.range ops.size)
  simpa using this)
 unfold Region.linearise
 rw [hrest]
 simp only [List.reverse_nil,List.nil_append]
 refine hwp a _ ⟨0,s.o,.inl ⟨hre _,hre _,rfl⟩,?_⟩
 have:(List.range (D.length+2)).filter (fun i=>(Array.replicate ops.size false).getD i false)=[]:=by
  rw [List.filter_eq_nil_iff]
  intro i _
  rw [hre];simp
 rw [this]
 exact hd.drew
end
end Go.Ab
namespace Go.Ab
section
variable {L : Nat → Nat} {P : Program} {n : Nat}
def TailC(P:Program)(ops:Array Oper)(n:Nat)(o:Sto)(D:List (AV×List Nat))(t:List (Nat×AV))(R:List Nat→List (Nat×AV)→Sto→Prop):Prop :=
 match ops[D.length]? with
 | some oa=>match oa.op with
  | .alloc ty'=>match oa.dst with
   | some d=>match ops[D.length+1]? with
    | some ob=>match ob.op with
     | .store ty2 (.tmp d') (.tmp v)=>match zer P ty' with
      | some zs=>match ty P ty2 with
       | some (_,m)=>(Nat.beq d' d=true∧Nat.beq v d=false∧Nat.beq m zs.length=true∧oa.guard.isNone=true∧ob.guard.isNone=true∧ob.dst.isNone=true∧dstOK n (some d)=true) ∧
        (T t v).elem m=true∧(T t v).cells.all AV.one=true∧drawOK ops (D.map Prod.snd++[[],kills t [.tmp v]])=true ∧
        ∀ b,nfO o b→R (List.range' (D.length+2) (ops.size - (D.length+2))) (killL (put t (some d) (.ptr b 0)) (kills t [.tmp v])) ((b,some (T t v).cells)::o)
       | none=>False
      | none=>False
     | _=>False
    | none=>False
   | none=>False
  | _=>drawOK ops (D.map Prod.snd)=true∧R (List.range' D.length (ops.size - D.length)) t o
 | none=>drawOK ops (D.map Prod.snd)=true∧R (List.range' D.length (ops.size - D.length)) t o
theorem TailC.out{ops:Array Oper}{o:Sto}{D:List (AV×List Nat)}{t:List (Nat×AV)}{R:List Nat→List (Nat×AV)→Sto→Prop}(h:TailC P ops n o D t R) :
  (drawOK ops (D.map Prod.snd)=true∧R (List.range' D.length (ops.size - D.length)) t o) ∨
  ∃ oa ob ty' ty2 zs d v g,ops[D.length]? = some oa∧oa.guard=none∧oa.op=.alloc ty'∧dstOK n oa.dst=true∧zer P ty'=some zs ∧
   ops[D.length+1]? = some ob∧ob.guard=none∧ob.op=.store ty2 (.tmp d) (.tmp v)∧ob.dst=none∧oa.dst=some d∧v≠d∧ty P ty2=some (g,zs.length)∧(T t v).elem zs.length=true∧(T t v).cells.all AV.one=true∧drawOK ops (D.map Prod.snd++[[],kills t [.tmp v]])=true ∧
   ∀ b,Fresh o b→R (List.range' (D.length+2) (ops.size - (D.length+2))) (upd ob .dead (kills t [.tmp v]) (upd oa (.ptr b 0) [] t)) ((b,some (T t v).cells)::o):=by
 unfold TailC at h
 split at h
 ·rename_i oa hoa
  split at h
  ·rename_i ty' hop
   split at h
   ·rename_i d hd
    split at h
    ·rename_i ob hob
     split at h
     ·rename_i ty2 d' v hopb
      split at h
      ·rename_i zs hz
       split at h
       ·rename_i g m ht
        obtain ⟨⟨h1,h2,h3,h4,h5,h6,h7⟩,h8,h9,h10,h11⟩:=h
        have e1:=Nat.eq_of_beq_eq_true h1
        have e3:=Nat.eq_of_beq_eq_true h3
        subst e1 e3
        have e6:ob.dst=none:=by simpa using h6
        refine .inr ⟨oa,ob,ty',ty2,zs,d',v,g,hoa,by simpa using h4,hop,by rw [hd];exact h7,hz,hob,by simpa using h5,hopb,e6,hd,Nat.ne_of_beq_eq_false h2,ht,h8,h9,h10,fun b hb=>?_⟩
        have:=h11 b hb.nf
        simp only [upd,killL,hd,e6] at this ⊢
        exact this
       ·exact h.elim
      ·exact h.elim
     ·exact h.elim
    ·exact h.elim
   ·exact h.elim
  ·exact .inl h
 ·exact .inl h
variable {t : List (Nat × AV)} {o : Sto} {Q : Exit → AS → Prop} {id : Nat} {ops : Array Oper}
theorem DrawG.or{A A':List (Nat×AV)→List (AV×List Nat)→Prop}{i:Nat}{D:List (AV×List Nat)}(h:DrawG L P ops n o (fun t D=>A t D∨A' t D) i t D):DrawG L P ops n o A i t D∨DrawG L P ops n o A' i t D:=by
 induction h with
 | done h=>exact h.imp .done .done
 | step o x C h1 h2 _ ih=>exact ih.imp (.step o x C h1 h2) (.step o x C h1 h2)
theorem DrawG.mono{A A':List (Nat×AV)→List (AV×List Nat)→Prop}{i:Nat}{D:List (AV×List Nat)}(h:DrawG L P ops n o A i t D)(hA:∀ t D,A t D→A' t D):DrawG L P ops n o A' i t D:=by
 induction h with
 | done h=>exact .done (hA _ _ h)
 | step o x C h1 h2 _ ih=>exact .step o x C h1 h2 ih
theorem AW.drawC [MixOK P]{K0:AS→Prop}(hQ:∀ s,K0 s→Q .normal s)
  (h:∀ K:List (Nat×AV)→List (AV×List Nat)→Prop,(∀ t D,TailC P ops n o D t (fun l t o=>OpsW L P ops l ⟨n,t,o⟩ K0)→K t D)→W L P ops [] n o (fun t D _=>K t D) (List.range' 0 ops.size) t []):AW L P (.region id ops true) ⟨n,t,o⟩ Q:=by
 have h':=W.draw (os:=o) (eff:=[]) _ 0 _ _ rfl (h _ (fun t D h=>h))
 have hm:∀ {l:List Nat} {s:AS},OpsW L P ops l s K0→OpsW L P ops l s (fun s'=>Q .normal s'):=fun h B F0 w0 a w Q' hd hq=>h B F0 w0 a w Q' hd fun s' a' w' hk=>hq s' a' w' (hQ _ hk)
 have h2:DrawG L P ops n o (fun t D=>(drawOK ops (D.map Prod.snd)=true∧OpsW L P ops (List.range' D.length (ops.size - D.length)) ⟨n,t,o⟩ (fun s'=>Q .normal s')) ∨
   ∃ oa ob ty' ty2 zs d v g,ops[D.length]? = some oa∧oa.guard=none∧oa.op=.alloc ty'∧dstOK n oa.dst=true∧zer P ty'=some zs ∧
   ops[D.length+1]? = some ob∧ob.guard=none∧ob.op=.store ty2 (.tmp d) (.tmp v)∧ob.dst=none∧oa.dst=some d∧v≠d∧ty P ty2=some (g,zs.length)∧(T t v).elem zs.length=true∧(T t v).cells.all AV.one=true∧drawOK ops (D.map Prod.snd++[[],kills t [.tmp v]])=true ∧
   ∀ b,Fresh o b→OpsW L P ops (List.range' (D.length+2) (ops.size - (D.length+2))) ⟨n,upd ob .dead (kills t [.tmp v]) (upd oa (.ptr b 0) [] t),(b,some (T t v).cells)::o⟩ (fun s'=>Q .normal s')) 0 t []:=by
  refine h'.mono fun t D h=>?_
  rcases h.out with h|⟨oa,ob,ty',ty2,zs,d,v,g,h1,h2,h3,h4,h5,h6,h7,h8,h9,h10,h11,h12,h13,h14,h15,h16⟩
  ·exact .inl ⟨h.1,hm h.2⟩
  ·exact .inr ⟨oa,ob,ty',ty2,zs,d,v,g,h1,h2,h3,h4,h5,h6,h7,h8,h9,h10,h11,h12,h13,h14,h15,fun b hb=>hm (h16 b hb)⟩
 rcases h2.or with h2|h2
 ·exact AW.draw h2
 ·exact AW.drawB h2
end
section
variable {L : Nat → Nat} {P : Program} {n : Nat} {t : List (Nat × AV)} {o : Sto} {Q : Exit → AS → Prop} {id : Nat} {ops : Array Oper}
theorem TailC.mono{D:List (AV×List Nat)}{R R':List Nat→List (Nat×AV)→Sto→Prop}(hR:∀ l t o,R l t o→R' l t o)(h:TailC P ops n o D t R):TailC P ops n o D t R':=by
 unfold TailC at h ⊢
 revert h
 repeat' split
 all_goals first
  | exact fun h=>h
  | exact fun h=>⟨h.1,hR _ _ _ h.2⟩
  | exact fun ⟨h1,h2,h3,h4,h5⟩=>⟨h1,h2,h3,h4,fun b hb=>hR _ _ _ (h5 b hb)⟩
theorem AW.drwnC [MixOK P] (h:∀ K:List (Nat×AV)→List (AV×List Nat)→Prop,(∀ t D,TailC P ops n o D t (fun l t o=>∀ K':List (Nat×AV)→Sto→Prop,(∀ t o,Q .normal ⟨n,t,o⟩→K' t o)→Wn L P ops n K' l [] t o)→K t D) →
   W L P ops [] n o (fun t D _=>K t D) (List.range' 0 ops.size) t []):AW L P (.region id ops true) ⟨n,t,o⟩ Q :=
 AW.drawC (K0:=fun s=>Q .normal s) (fun _ h=>h) fun K hK=>h K fun t D h=>hK t D (h.mono fun _ _ _ h=>Wn.toOps (K:=fun t o=>Q .normal ⟨n,t,o⟩) (fun _ _ h=>h) _ _ _ (h _ (fun _ _ h=>h)))
theorem AW.sdrwnC [MixOK P]{c:Code} (h:∀ K:List (Nat×AV)→List (AV×List Nat)→Prop,(∀ t D,TailC P ops n o D t (fun l t o=>∀ K':List (Nat×AV)→Sto→Prop,(∀ t o,AW L P c ⟨n,t,o⟩ Q→K' t o)→Wn L P ops n K' l [] t o)→K t D) →
   W L P ops [] n o (fun t D _=>K t D) (List.range' 0 ops.size) t []):AW L P (.seq (.region id ops true) c) ⟨n,t,o⟩ Q :=
 AW.seq (AW.drawC (K0:=fun s=>AW L P c s Q) (fun _ h=>h) fun K hK=>h K fun t D h=>hK t D (h.mono fun _ _ _ h=>Wn.toOps (K:=fun t o=>AW L P c ⟨n,t,o⟩ Q) (fun _ _ h=>h) _ _ _ (h _ (fun _ _ h=>h))))
instance (priority:=2000) zDrwnC [MixOK P]:Rz (AW L P (.region id ops true) ⟨n,t,o⟩ Q) (∀ K:List (Nat×AV)→List (AV×List Nat)→Prop,(∀ t D,TailC P ops n o D t (fun l t o=>∀ K':List (Nat×AV)→Sto→Prop,(∀ t o,Q .normal ⟨n,t,o⟩→K' t o)→Wn L P ops n K' l [] t o)→K t D) →
   W L P ops [] n o (fun t D _=>K t D) (List.range' 0 ops.size) t []):=⟨AW.drwnC⟩
instance (priority:=2000) zSdrwnC [MixOK P]{c:Code}:Rz (AW L P (.seq (.region id ops true) c) ⟨n,t,o⟩ Q) (∀ K:List (Nat×AV)→List (AV×List Nat)→Prop,(∀ t D,TailC P ops n o D t (fun l t o=>∀ K':List (Nat×AV)→Sto→Prop,(∀ t o,AW L P c ⟨n,t,o⟩ Q→K' t o)→Wn L P ops n K' l [] t o)→K t D) →
   W L P ops [] n o (fun t D _=>K t D) (List.range' 0 ops.size) t []):=⟨AW.sdrwnC⟩
attribute [go_sem] TailC
instance (priority:=2000) cPf{L:Nat→Nat}{P:Program}{os:Sto}{la:List AV}{f:FuncId}{args:List AV}{G:Bool}{K:AV→Prop}{res:AV}{cs:List (Option (List AV))}{pre:Prop}[h:Ctr L P f [] args res cs pre]:Rl (CallP L P os la G f args (K:=⟨K⟩)) (AV.nownL args=true∧(G=true→pre)∧K res.frz) :=
 ⟨fun q=>haveI:Ctr L P f [] args res.frz [] pre:=Ctr.of_pure h.en fun hp=>(h.pure hp).frz;CallP.ctr q.1 q.2.1 q.2.2⟩
end
end Go.Ab
namespace Go.Dt
open Go Go.Ab
theorem dev_fit{x:GDevice}{r:Int}(h0:0≤r)(h1:r≤1048576)(h:0≤szDevice x r):wtS x.fStore.fSchema≤1048576∧wt x.fStore.fRunning≤1048576:=by
 unfold szDevice at h
 obtain ⟨a,h⟩:=thn_get h
 obtain ⟨b,_⟩:=thn_get h
 have e2:=szStr_le x.fName r h0
 unfold szStore at b
 obtain ⟨c,b⟩:=thn_get b
 have e1:=wtS_fit a c
 obtain ⟨d,_⟩:=thn_get b
 have e3:=wt_fit c d
 have e4:=szSl_le szSchema szSchema_le x.fStore.fSchema _ a
 omega
end Go.Dt
namespace Go.Dt
open Go.Ab
def stVersion(x:GVersion)(k:Int):GVersion×Int:=(⟨(mkL stNode x.fTree k).1,(mkL stNode x.fTree k).2,(mkL stNode x.fTree k).2+1⟩,(mkL stNode x.fTree k).2+1+1)
theorem stVersion_ge(x:GVersion)(k:Int):k+1≤(stVersion x k).2:=by
 have g0:=mkL_up stNode_ge x.fTree k
 unfold stVersion;simp only;omega
def tpPending(x:GPending)(k:Int):GPending×Int:=(⟨x.fOn,x.fUntil,x.fBy,x.fName,(mkL stNode x.fBack k).1⟩,(mkL stNode x.fBack k).2)
def tpStore(x:GStore)(k:Int):GStore×Int:=(⟨(mkL stSchema x.fSchema k).1,(mkL stNode x.fRunning ((mkL stSchema x.fSchema k).2)).1,(mkL stNode x.fDraft ((mkL stNode x.fRunning ((mkL stSchema x.fSchema k).2)).2)).1,x.fOwner,(mkL stVersion x.fPast ((mkL stNode x.fDraft ((mkL stNode x.fRunning ((mkL stSchema x.fSchema k).2)).2)).2)).1,⟨x.fWait.fOn,x.fWait.fUntil,x.fWait.fBy,x.fWait.fName,(mkL stNode x.fWait.fBack ((mkL stVersion x.fPast ((mkL stNode x.fDraft ((mkL stNode x.fRunning ((mkL stSchema x.fSchema k).2)).2)).2)).2)).1⟩⟩,(mkL stNode x.fWait.fBack ((mkL stVersion x.fPast ((mkL stNode x.fDraft ((mkL stNode x.fRunning ((mkL stSchema x.fSchema k).2)).2)).2)).2)).2)
def tpDevice(x:GDevice)(k:Int):GDevice×Int:=(⟨x.fName,⟨(mkL stSchema x.fStore.fSchema k).1,(mkL stNode x.fStore.fRunning ((mkL stSchema x.fStore.fSchema k).2)).1,(mkL stNode x.fStore.fDraft ((mkL stNode x.fStore.fRunning ((mkL stSchema x.fStore.fSchema k).2)).2)).1,x.fStore.fOwner,(mkL stVersion x.fStore.fPast ((mkL stNode x.fStore.fDraft ((mkL stNode x.fStore.fRunning ((mkL stSchema x.fStore.fSchema k).2)).2)).2)).1,⟨x.fStore.fWait.fOn,x.fStore.fWait.fUntil,x.fStore.fWait.fBy,x.fStore.fWait.fName,(mkL stNode x.fStore.fWait.fBack ((mkL stVersion x.fStore.fPast ((mkL stNode x.fStore.fDraft ((mkL stNode x.fStore.fRunning ((mkL stSchema x.fStore.fSchema k).2)).2)).2)).2)).1⟩⟩,(mkL stNode x.fBase ((mkL stNode x.fStore.fWait.fBack ((mkL stVersion x.fStore.fPast ((mkL stNode x.fStore.fDraft ((mkL stNode x.fStore.fRunning ((mkL stSchema x.fStore.fSchema k).2)).2)).2)).2)).2)).1,x.fUp,x.fWeak,x.fHeld⟩,(mkL stNode x.fBase ((mkL stNode x.fStore.fWait.fBack ((mkL stVersion x.fStore.fPast ((mkL stNode x.fStore.fDraft ((mkL stNode x.fStore.fRunning ((mkL stSchema x.fStore.fSchema k).2)).2)).2)).2)).2)).2)
theorem tpDevice_ge(x:GDevice)(k:Int):k≤(tpDevice x k).2:=by
 have g0:=mkL_up stSchema_ge x.fStore.fSchema k
 have g1:=mkL_up stNode_ge x.fStore.fRunning ((mkL stSchema x.fStore.fSchema k).2)
 have g2:=mkL_up stNode_ge x.fStore.fDraft ((mkL stNode x.fStore.fRunning ((mkL stSchema x.fStore.fSchema k).2)).2)
 have g3:=mkL_up stVersion_ge x.fStore.fPast ((mkL stNode x.fStore.fDraft ((mkL stNode x.fStore.fRunning ((mkL stSchema x.fStore.fSchema k).2)).2)).2)
 have g4:=mkL_up stNode_ge x.fStore.fWait.fBack ((mkL stVersion x.fStore.fPast ((mkL stNode x.fStore.fDraft ((mkL stNode x.fStore.fRunning ((mkL stSchema x.fStore.fSchema k).2)).2)).2)).2)
 have g5:=mkL_up stNode_ge x.fBase ((mkL stNode x.fStore.fWait.fBack ((mkL stVersion x.fStore.fPast ((mkL stNode x.fStore.fDraft ((mkL stNode x.fStore.fRunning ((mkL stSchema x.fStore.fSchema k).2)).2)).2)).2)).2)
 unfold tpDevice;simp only;omega
end Go.Dt
