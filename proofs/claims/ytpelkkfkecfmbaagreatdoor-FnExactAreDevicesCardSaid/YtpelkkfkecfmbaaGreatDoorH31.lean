/- Part of a proof. -/
import Derived.Test.YtpelkkfkecfmbaaGreatDoorH27
set_option linter.all false
namespace Go.Ab
open Go.RowKit (Below)
attribute [go_sem] Array.empty_append
section
variable {L : Nat -> Nat} {n : Nat} {t : List (Nat × AV)} {o : Sto} {Q : AS -> Prop}
def Imp.vpO(i:Nat){b off:Nat}{cells:List AV}(hT:T t i=.ptr b off)(hO:O o b=some cells)(hn:AV.nownL cells=true)(h:Q ⟨n,(i,.vp (cells.drop off))::t,(b,none)::o⟩):Imp L ⟨n,t,o⟩ Q:=by
 intro B F0 w0 a w hd;refine ⟨_,h,?_⟩;obtain ⟨F,own,fp,fs,hd⟩:=hd;obtain ⟨hkey,_,_,c0,Ty0,mF,U6,hc0,wU,hl0⟩:=hd.obj b _ hO;rw [au.dX hn hl0] at hl0
 classical
 let F':Nat->Prop:=fun k=>F k\/k=b
 let own':Nat->Own:=fun k=>if k=b then .none else own k
 have hid:Ext (fun _=>True) w w:=⟨Nat.le_refl _,fun _ _=>rfl,fun b c T z hc=>⟨c,hc,rfl⟩⟩
 have hb:=hd.ol b (by rw [hkey];simp)
 have hnot:∀ k,k≠b->own' k=own k:=fun k hk=>by simp only [own',if_neg hk]
 have hrow:fP w b 0 mF:=by
  refine ⟨c0,Ty0,(0,0),hc0,fun j hj=>?_⟩;have:c0.toList[j]? = mF[j]?:=by rw [wU,List.getElem?_append_left hj]
  rw [Nat.zero_add,<- this,Array.getElem?_toList]
 refine ⟨F',own',fp,fs,{ below:=hd.below,hB:=hd.hB,tb:=hd.tb,f0:=fun b hb=>.inl (hd.f0 b hb),fl:=?_,ol:=?_,defers:=hd.defers,size:=hd.size,slots:=?_,sn:=hd.sn,so:=?_,obj:=?_ }⟩
 ·rintro k (hk|rfl)
  ·have:=hd.fl k hk;exact ⟨by simp only [own'];split<;>simp [this.1],this.2⟩
  ·exact ⟨by simp only [own',if_true],hb.2,.inr hb.1⟩
 ·intro k hk;simp only [own'] at hk;split at hk
  ·exact absurd rfl hk
  ·exact hd.ol k hk
 ·intro j;rw [fE];by_cases e:i=j
  ·subst e;simp only [if_true];have hr:=hd.slots i;rw [hT] at hr;simp only [Rep] at hr ⊢;refine ⟨hr.2,b,off,mF.drop off,hr.1,.inr rfl,?_,?_⟩
   ·have:=hrow.cut off mF.length;rw [List.take_of_length_le QC,Nat.zero_add] at this;exact this
   ·obtain ⟨f',h1,h2⟩:=(au.ext (F':=F') hid (fun b hb=>⟨.inl hb,trivial⟩) (fun _ _=>trivial) hl0).cut off (cells.length+mF.length);rw [List.take_of_length_le (by simp;omega),List.take_of_length_le (by simp;omega)] at h1;have:f'=[]:=List.eq_nil_iff_forall_not_mem.2 fun b hb=>by simpa using h2 b hb
    rw [this] at h1;exact h1
  ·simp only [if_neg e];exact Rep.ext hid (fun b hb=>⟨.inl hb,trivial⟩) (fun _ _=>trivial) (hd.slots j)
 ·intro j k hk;have:=hd.so j k hk;rw [hnot k (fun e=>by rw [e,hkey] at this;cases this)];exact this
 ·intro q cs hq;simp only [O] at hq;split at hq
  ·cases hq
  ·rename_i hne;have PT:q≠b:=fun e=>hne e.symm;obtain ⟨g1,g2,g3,c,Ty,vals,rst,g4,g5,g6⟩:=hd.obj q cs hq;refine ⟨by rw [hnot q PT];exact g1,g2,fun k hk=>by rw [hnot k (fun e=>by have:=g3 k hk;rw [e,hkey] at this;cases this)];exact g3 k hk,c,Ty,vals,rst,g4,g5,?_⟩;exact au.ext hid (fun b hb=>⟨.inl hb,trivial⟩) (fun _ _=>trivial) g6
end
end Go.Ab
namespace Go.Ab
end Go.Ab
namespace Go.Ab
open Go.RowKit (Below)
section
variable {L : Nat -> Nat} {P : Program} {n : Nat}
def Ff{t:daa}{os:Sto}{o:Oper}{ty2:TypeId}{d v b m:Nat}{g:Bool}{cs:List AV}(hop:o.op=.store ty2 (.tmp d) (.tmp v))(hd:o.dst=none)(ha:T t d=.ptr b 0)(ht:ty P ty2=some (g,m))(hl:cs.length=m)(hx:(T t v).elem m=true)(hone:(T t v).cells.all AV.one=true) :
  OpW L P o ⟨n,t,(b,some cs)::os⟩ (fun s'=>s'=⟨n,killL t (kills t [.tmp v]),(b,some (T t v).cells)::os⟩):=by
 intro B F0 w0 a w next Q hd' bF
 refine Du (s:=⟨n,t,(b,some cs)::os⟩) (off:=0) (b:=b) (cells:=cs) (ad:=.tmp d) (x:=.tmp v) hop hd ha (by simp [O]) ht hx hone Ir (K:=fun s'=>s'=⟨n,killL t (kills t [.tmp v]),(b,some (cs.take 0++(T t v).cells++cs.drop (0+m)))::jg ((b,some cs)::os) [b]⟩) rfl B F0 w0 a w next Q hd' ?_
 rintro s' a' w' rfl h';refine bF _ _ _ rfl (h'.weaken rfl (fun _=>.inl rfl) ?_);intro q cells hq;have hdr:cs.drop (0+m)=[]:=List.drop_eq_nil_of_le Ir;simp only [O,jg,List.take_zero,List.nil_append,hdr,List.append_nil] at hq ⊢;split at hq
 ·rename_i e;rw [if_pos e];exact hq
 ·rename_i e;rw [if_neg e,if_neg e,if_neg e];exact hq
def wB(D:List (AV×List Nat))(C:List Nat)(b:Nat):List (AV×List Nat):=D++[(.ptr b 0,[]),(.dead,C)]
def Uq(D:List (AV×List Nat))(C:List Nat)(b:Nat):(wB D C b).map Prod.snd=D.map Prod.snd++[[],C]:=by simp [wB]
def vM(D:List (AV×List Nat))(C:List Nat)(b:Nat):(wB D C b).length=D.length+2:=by simp [wB]
def Ek{D:List (AV×List Nat)}{C:List Nat}{b i:Nat}(h:i<D.length):(wB D C b)[i]? = D[i]?:=List.getElem?_append_left h
def QF(D:List (AV×List Nat))(C:List Nat)(b:Nat):(wB D C b)[D.length]? = some (.ptr b 0,[]):=by simp [wB]
def Ad(D:List (AV×List Nat))(C:List Nat)(b:Nat):(wB D C b)[D.length+1]? = some (.dead,C):=by simp [wB,List.getElem?_append_right]
def LV(ops:Array Oper)(D:List (AV×List Nat))(C:List Nat)(b:Nat)(t:daa){j:Nat}(h:j<=D.length):cV ops (wB D C b) t (List.range j)=cV ops D t (List.range j) :=
 qz ops _ _ fun i hi=>Ek (by simp at hi;omega)
def Iu{ops:Array Oper}{D:List (AV×List Nat)}(C:List Nat)(b:Nat)(t:daa){oa:Oper}(hoa:ops[D.length]? = some oa):cV ops (wB D C b) t (List.range (D.length+1))=upd oa (.ptr b 0) [] (cV ops D t (List.range D.length)):=by rw [List.range_succ,lA,hoa,QF,LV ops D C b t (Nat.le_refl _)]
def Ro{ops:Array Oper}{D:List (AV×List Nat)}(C:List Nat)(b:Nat)(t:daa){oa ob:Oper}(hoa:ops[D.length]? = some oa)(hob:ops[D.length+1]? = some ob):cV ops (wB D C b) t (List.range (D.length+2))=upd ob .dead C (upd oa (.ptr b 0) [] (cV ops D t (List.range D.length))):=by rw [List.range_succ,lA,hob,Ad,Iu C b t hoa]
def StB(L:eaa)(n:Nat)(ops:Array Oper)(D:List (AV×List Nat))(C:List Nat)(t0:daa)(os:Sto)(cs cs':List AV)(B F0:faa)(w0:World)(S:Nat->Bool)(a:Act)(w:World):Prop :=
 ∃ b os',((S D.length=false/\S (D.length+1)=false/\os'=os)\/(S D.length=true/\S (D.length+1)=false/\fU os b/\os'=(b,some cs)::os)\/(S D.length=true/\S (D.length+1)=true/\fU os b/\os'=(b,some cs')::os))/\Den L B F0 w0 ⟨n,cV ops (wB D C b) t0 ((List.range (D.length+2)).filter S),os'⟩ a w
def Tk{ops:Array Oper}{os:Sto}{t0:daa}{D:List (AV×List Nat)}{K:AS->Prop}{B:faa}{F0:faa}{w0:World}{Q:Exit->Act->World->Prop}{oa ob:Oper}{ty' ty2:TypeId}{zs:List Value}{d v:Nat}{g:Bool}{tD:daa}(htD:cV ops D t0 (List.range D.length)=tD)(hF:jC ops (D.map Prod.snd++[[],kills tD [.tmp v]]))
  (hoa:ops[D.length]? = some oa) (hga:oa.guard=none) (hop:oa.op=.alloc ty') (hda:cz n oa.dst=true) (hz:zer P ty'=some zs)
  (hob:ops[D.length+1]? = some ob) (hgb:ob.guard=none) (zG:ob.op=.store ty2 (.tmp d) (.tmp v)) (hdb:ob.dst=none) (hd0:oa.dst=some d) (hvd:v≠d) (hty:ty P ty2=some (g,zs.length)) (hx:(T tD v).elem zs.length=true) (hone:(T tD v).cells.all AV.one=true)
  (hst:∀ j o d,ops[j]? = some o->D[j]? = some d->ub L P ops n os (cV ops D t0 (List.range j)) o d.1 d.2)
  (htl:∀ b,fU os b->lU L P ops (List.range' (D.length+2) (ops.size - (D.length+2))) ⟨n,upd ob .dead (kills tD [.tmp v]) (upd oa (.ptr b 0) [] tD),(b,some (T tD v).cells)::os⟩ K) (hQ:∀ s' a' w',K s'->Den L B F0 w0 s' a' w'->Q .normal a' w') :
  ∀ (fuel t:Nat) (listed:Array Bool) (acc:List Nat),listed.size=ops.size->o8 ops (fun i=>listed.getD i false=true)->(∀ j,D.length+2<=j->listed.getD j false=false)->((List.range ops.size).filter fun i=>!listed.getD i false).length<=fuel ->
  ∃ rest,Region.linearise.go .any ops fuel t listed acc=acc.reverse++rest/\∀ a w,StB L n ops D (kills tD [.tmp v]) t0 os (zs.map avz) (T tD v).cells B F0 w0 (fun i=>listed.getD i false) a w->wpOps P ops Q rest a w:=by
 intro fuel;generalize hC:kills tD [.tmp v]=C at *;have GH:D.length+2<=ops.size:=by have:=hF.le;simpa using this
 have hend:∀ (listed:Array Bool),(∀ i,i<D.length+2->listed.getD i false=true)->∀ a w,StB L n ops D C t0 os (zs.map avz) (T tD v).cells B F0 w0 (fun i=>listed.getD i false) a w->wpOps P ops Q (List.range' (D.length+2) (ops.size - (D.length+2))) a w:=by
  rintro listed hall a w ⟨b,os',hor,hd⟩;have q0:=hall D.length Ir
  have q1:=hall (D.length+1) Ir;rcases hor with ⟨h,_⟩|⟨_,h,_⟩|⟨_,_,hb,rfl⟩
  ·have h:listed.getD D.length false=false:=h;rw [q0] at h;cases h
  ·have h:listed.getD (D.length+1) false=false:=h;rw [q1] at h;cases h
  have zI:(List.range (D.length+2)).filter (fun i=>listed.getD i false)=List.range (D.length+2):=by
   rw [List.filter_eq_self];intro i hi;exact hall i (by simpa using hi)
  rw [zI,Ro C b t0 hoa hob,htD] at hd;exact htl b hb B F0 w0 a w Q hd hQ
 induction fuel with
 | zero =>
  intro t listed acc hs hS hno wT;have hnil:(List.range ops.size).filter (fun i=>!listed.getD i false)=[]:=List.eq_nil_of_length_eq_zero Ir;rw [List.filter_eq_nil_iff] at hnil;have hall:∀ i,i<ops.size->listed.getD i false=true:=fun i hi=>by simpa using hnil i (by simpa using hi)
  have hD:D.length+2=ops.size:=by
   rcases Nat.lt_or_ge (D.length+2) ops.size with h|h
   ·have:=hall (D.length+2) h;rw [hno (D.length+2) (Nat.le_refl _)] at this;cases this
   ·omega
  refine ⟨[],by simp [Region.linearise.go],fun a w hd=>?_⟩;have:=hend listed (fun i hi=>hall i Ir) a w hd;rw [show ops.size - (D.length+2)=0 by omega] at this;exact this
 | succ fuel ih =>
  intro t listed acc hs hS hno wT;by_cases hall:∀ i,i<D.length+2->listed.getD i false=true
  ·refine ⟨List.range' (D.length+2) (ops.size - (D.length+2)),?_,hend listed hall⟩;refine xU hF (fuel+1) t (D.length+2) acc listed QC GH hs (fun i=>?_) ?_
   ·by_cases e:i<D.length+2
    ·rw [hall i e];simp [e]
    ·rw [hno i Ir];simp [e]
   ·refine Nat.le_trans ?_ wT
    have lG:List.range ops.size=List.range (D.length+2)++(List.range (ops.size - (D.length+2))).map (D.length+2+·):=by
     rw [<- List.range_add];congr 1;omega
    rw [lG,List.filter_append,List.length_append]
    have:((List.range (ops.size - (D.length+2))).map (D.length+2+·)).filter (fun i=>!listed.getD i false)=(List.range (ops.size - (D.length+2))).map (D.length+2+·):=by
     rw [List.filter_eq_self];intro i hi;simp only [List.mem_map,List.mem_range] at hi;obtain ⟨q,_,rfl⟩:=hi;rw [hno _ Ir];rfl
    rw [this];simp
  ·have hex:∃ i,i<D.length+2/\listed.getD i false=false:=by
    rcases Classical.em (∃ i,i<D.length+2/\listed.getD i false=false) with h|h
    ·exact h
    ·exact absurd (fun i hi=>by
      rcases hb:listed.getD i false with _|_
      ·exact absurd ⟨i,hi,hb⟩ h
      ·rfl) hall
   have pJ:=least hex;obtain ⟨i0,⟨hi0,hl0⟩,pJ⟩:=pJ
   have hr0:ready ops listed i0=true:=by
    refine (iO hs Ir).2 ⟨hl0,fun e he=>?_⟩;have hlt:=hF.edge i0 _ (Array.getElem?_eq_getElem Ir) e he;rcases hb:listed.getD e.on false with _|_
    ·have:=pJ e.on ⟨Ir,hb⟩;omega
    ·rfl
   have Br:i0∈(List.range ops.size).filter (ready ops listed):=List.mem_filter.2 ⟨by simp;omega,hr0⟩
   have hpos:0<((List.range ops.size).filter (ready ops listed)).length:=List.length_pos_of_mem Br
   have hlt:=Nat.mod_lt t hpos;rw [go_succ,List.getElem?_eq_getElem hlt];have rM:((List.range ops.size).filter (ready ops listed))[t % ((List.range ops.size).filter (ready ops listed)).length]∈(List.range ops.size).filter (ready ops listed):=List.getElem_mem hlt;generalize ((List.range ops.size).filter (ready ops listed))[t % ((List.range ops.size).filter (ready ops listed)).length]=j at rM;obtain ⟨hjn,hrj⟩:=List.mem_filter.1 rM;simp only [List.mem_range] at hjn;obtain ⟨hlj,hej⟩:=(iO hs hjn).1 hrj;have hoj:ops[j]? = some ops[j]:=Array.getElem?_eq_getElem hjn
   have hjD:j<D.length+2:=by
    rcases Nat.lt_or_ge j (D.length+2) with h|h
    ·exact h
    ·have hb:=hF.tail i0 j Ir hjn (by simpa using h)
     have:=jy hS hoj hb hej;rw [hl0] at this;cases this
   have hS':∀ i,(listed.setIfInBounds j true).getD i false=(listed.getD i false || i == j):=uj Ir
   obtain ⟨rest,hrest,hwp⟩:=ih (t / ((List.range ops.size).filter (ready ops listed)).length) (listed.setIfInBounds j true) (j::acc) (by simpa using hs) (by
    intro i o hi ho e he;rw [hS'] at hi ⊢;simp only [Bool.or_eq_true] at hi ⊢;rcases hi with hi|hi
    ·exact .inl (hS i o hi ho e he)
    ·have:i=j:=by simpa using hi
     subst this;rw [hoj] at ho;cases ho
     exact .inl (hej e he)) (by
    intro i hi;rw [hS',hno i hi];have:(i == j)=false:=by simp;omega
    rw [this];rfl) (by
    have:=filter_lt (p:=fun i=>!listed.getD i false) (q:=fun i=>!(listed.setIfInBounds j true).getD i false) (fun i hi=>by
     rw [hS'] at hi;simp only [Bool.not_or,Bool.and_eq_true] at hi;exact hi.1) (List.range ops.size) ⟨j,by simpa using hjn,by rw [hlj];rfl,by rw [hS'];simp⟩
    omega)
   refine ⟨j::rest,by dsimp only;rw [hrest];simp,fun a w hd=>?_⟩;obtain ⟨b,os',hor,hd⟩:=hd;have hFb:∀ b,jC ops ((wB D C b).map Prod.snd):=fun b=>by rw [Uq];exact hF
   have hsl:∀ k,k∈slotsOf ops ops[j]->T (cV ops (wB D C b) t0 ((List.range (D.length+2)).filter fun i=>listed.getD i false)) k=T (cV ops (wB D C b) t0 (List.range j)) k:=fun k hk=>by
    have:=BR (hFb b) hS hoj (by rw [vM];omega) hlj hej t0 hk
    rwa [vM] at this
   rcases Nat.lt_or_ge j D.length with hjm|hjm
   ·
    have hdj:D[j]? = some D[j]:=List.getElem?_eq_getElem hjm
    have PW:(wB D C b)[j]? = some D[j]:=by rw [Ek hjm];exact hdj
    have hSt:=hst j ops[j] D[j] hoj hdj;rw [<- LV ops D C b t0 (Nat.le_of_lt hjm)] at hSt
    have hSm:(listed.setIfInBounds j true).getD D.length false=listed.getD D.length false:=by
     rw [hS'];have:(D.length == j)=false:=by simp;omega
     rw [this,Bool.or_false]
    have abF:(listed.setIfInBounds j true).getD (D.length+1) false=listed.getD (D.length+1) false:=by
     rw [hS'];have:(D.length+1 == j)=false:=by simp;omega
     rw [this,Bool.or_false]
    have hmore:∀ c cells,O os c=some cells->O os' c=some cells:=by
     intro c cells hc;rcases hor with ⟨_,_,rfl⟩|⟨_,_,hb,rfl⟩|⟨_,_,hb,rfl⟩
     ·exact hc
     ·have:=hb c cells hc;simp only [O];rw [if_neg (by simpa using fun e=>this e.symm)];exact hc
     ·have:=hb c cells hc;simp only [O];rw [if_neg (by simpa using fun e=>this e.symm)];exact hc
    have bF:∀ a' w',Den L B F0 w0 ⟨n,upd ops[j] D[j].1 D[j].2 (cV ops (wB D C b) t0 ((List.range (D.length+2)).filter fun i=>listed.getD i false)),os'⟩ a' w'->wpOps P ops Q rest a' w':=fun a' w' h'=>by
     refine hwp a' w' ⟨b,os',by show (_=false/\_=false/\_)\/(_=true/\_=false/\_)\/(_=true/\_=true/\_);simp only [hSm,abF];exact hor,?_⟩;have:=step_eq (hFb b) hS hoj PW hlj hS' t0;rw [vM] at this;exact cv.congr h' this
    have Gz:LOp L P ⟨n,dP (cV ops (wB D C b) t0 (List.range j)) (slotsOf ops ops[j]),os⟩ ops[j] D[j].1 D[j].2->(ops[j]).wp P a w (wpOps P ops Q rest) Q:=fun hl =>
     ((hl.Cb hsl hSt.sub).more hmore).opW hSt.dst (K:=fun s'=>s'=⟨n,upd ops[j] D[j].1 D[j].2 (cV ops (wB D C b) t0 ((List.range (D.length+2)).filter fun i=>listed.getD i false)),os'⟩) rfl B F0 w0 a w _ Q hd fun s' a' w' e h'=>by
      subst e;exact bF a' w' h'
    rcases hSt.run with ⟨hg,hl⟩|⟨gi,want,oj,d,G,g,x0,hg,hgi,hgd,hgl,hT,hx,hC,h1⟩
    ·simp only [wpOps,hoj];rw [if_pos (by simp [Region.wanted,hg])];exact .inl (Gz hl)
    ·have hk:d∈slotsOf ops ops[j]:=by simp [slotsOf,hg,hgi,hgd]
     have hy:=pW hd hgi hgd (by rw [hsl d hk];exact hT) hgl;simp only [wpOps,hoj,Region.wanted,hg,hy]
     cases hw:(G && (g == want)) with
     | true =>
      have hl:=(h1 hw).cnd;rw [hw] at hx;rw [<- hx,<- hC] at hl;simp at hw;obtain ⟨rfl,rfl⟩:=hw;rw [if_pos QC];exact .inl (Gz hl)
     | false =>
      rw [if_neg (by cases G<;>simp_all)];refine bF _ _ ?_;obtain ⟨F,own,fp,fs,h⟩:=hd;have:=h.put (x:=.cnd false x0) (v:=undef) (fx:=[]) [] (ops[j]).dst hSt.dst (Kp.refl _ _) (fun _ h=>h) (fun _ h=>.inl h) (by simp [Rep]) QC QC;rw [hx,hC,hw];exact this
   rcases Nat.eq_or_lt_of_le hjm with hj|hj
   ·
    subst hj;have he:ops[D.length]=oa:=by rw [hoj] at hoa;exact Option.some.inj hoa
    rcases hor with ⟨_,h1,rfl⟩|⟨h,_⟩|⟨h,_⟩
    ·simp only [wpOps,hoj];rw [if_pos (by simp [Region.wanted,he,hga])];refine .inl ?_;rw [he];refine xm (L:=L) hop hda hz B F0 w0 a w _ Q hd ?_;rintro s' a' w' ⟨b',hb',rfl⟩ h';refine hwp a' w' ⟨b',_,.inr (.inl ⟨by simp only [hS'];simp,by simp only [hS',h1];simp,hb',rfl⟩),?_⟩;have h2:=step_eq (hFb b') hS hoj (QF D C b') hlj hS' t0;rw [vM,he] at h2;refine cv.congr h' fun k=>?_;rw [<- h2 k]
     congr 2
     refine qz ops _ _ fun i hi=>?_;rw [List.mem_filter,List.mem_range] at hi;have hne:i≠D.length:=fun e=>by rw [e,hlj] at hi;exact absurd hi.2 QC
     rcases Nat.lt_or_ge i D.length with h3|h3
     ·rw [Ek h3,Ek h3]
     ·have:i=D.length+1:=by omega
      rw [this,Ad,Ad]
    ·simp only [hlj] at h;cases h
    ·simp only [hlj] at h;cases h
   ·
    have hj:j=D.length+1:=by omega
    subst hj;have he:ops[D.length+1]=ob:=by rw [hoj] at hob;exact Option.some.inj hob
    have kd:d∈slotsOf ops ops[D.length+1]:=by rw [he];simp [slotsOf,zG,Op.operands]
    have kv:v∈slotsOf ops ops[D.length+1]:=by rw [he];simp [slotsOf,zG,Op.operands]
    have hSm:listed.getD D.length false=true:=by
     refine jy hS hoj (hF.conf D.length (D.length+1) Ir QC ?_) hej;simp only [conf,Bool.or_eq_true];refine .inl (List.any_eq_true.2 ⟨d,?_,?_⟩)
     ·simp [wr,hoa,hd0]
     ·simp only [Bool.or_eq_true];refine .inl ?_;simp only [rd,hoj];simpa using kd
    rcases hor with ⟨h,_⟩|⟨_,_,hb,rfl⟩|⟨_,h,_⟩
    ·have h:listed.getD D.length false=false:=h;rw [hSm] at h;cases h
    ·have h1d:=hsl d kd
     have h1v:=hsl v kv;rw [Iu C b t0 hoa,htD,yo] at h1d h1v;rw [hd0,if_pos rfl] at h1d;rw [hd0,if_neg (by simpa using fun e=>hvd e.symm)] at h1v;simp only [List.not_mem_nil,if_false] at h1v;simp only [wpOps,hoj];rw [if_pos (by simp [Region.wanted,he,hgb])];refine .inl ?_;rw [he]
     have hC':kills (cV ops (wB D C b) t0 ((List.range (D.length+2)).filter fun i=>listed.getD i false)) [.tmp v]=C:=by
      refine Eq.trans ?_ hC;show (bif (T _ v).cW then kills _ [] else v::kills _ [])=(bif (T tD v).cW then kills tD [] else v::kills tD []);rw [h1v];rfl
     refine Ff (L:=L) zG hdb h1d hty QC (by rw [h1v];exact hx) (by rw [h1v];exact hone) B F0 w0 a w _ Q hd ?_;rintro s' a' w' rfl h';rw [hC',h1v] at h';refine hwp a' w' ⟨b,_,.inr (.inr ⟨by simp only [hS',hSm];simp,by simp only [hS'];simp,hb,rfl⟩),?_⟩;have h2:=step_eq (hFb b) hS hoj (Ad D C b) hlj hS' t0;rw [vM,he] at h2;simp only [upd,hdb,put] at h2;exact cv.congr h' h2
    ·simp only [hlj] at h;cases h
theorem AW.YB [hM:fQ P]{s:AS}{Q:Exit->AS->Prop}{id:Nat}{ops:Array Oper}
  (h:jB L P ops s.n s.o (fun t D=>∃ oa ob ty' ty2 zs d v g,ops[D.length]? = some oa/\oa.guard=none/\oa.op=.alloc ty'/\cz s.n oa.dst=true/\zer P ty'=some zs /\
   ops[D.length+1]? = some ob/\ob.guard=none/\ob.op=.store ty2 (.tmp d) (.tmp v)/\ob.dst=none/\oa.dst=some d/\v≠d/\ty P ty2=some (g,zs.length)/\(T t v).elem zs.length=true/\(T t v).cells.all AV.one=true/\drawOK ops (D.map Prod.snd++[[],kills t [.tmp v]])=true /\
   ∀ b,fU s.o b->lU L P ops (List.range' (D.length+2) (ops.size - (D.length+2))) ⟨s.n,upd ob .dead (kills t [.tmp v]) (upd oa (.ptr b 0) [] t),(b,some (T t v).cells)::s.o⟩ (fun s'=>Q .normal s')) 0 s.t []) :
  AW L P (.region id ops true) s Q:=by
 intro B F0 w0 a w hd;obtain ⟨D,⟨oa,ob,ty',ty2,zs,d,v,g,hoa,hga,hop,hda,hz,hob,hgb,zG,hdb,hd0,hvd,hty,hx,hone,hok,htl⟩,hst⟩:=h.inv (t0:=s.t) rfl rfl QC;have hF:=qY hok;refine wp_region_draw fun t=>?_
 have Gx:Region.schedule (P.follows .mixedOrders) ops t=Region.linearise .any ops t:=by
  simp [Region.schedule,hM.h]
 rw [Gx]
 have hre:∀ i,(Array.replicate ops.size false).getD i false=false:=by
  intro i;rw [Array.getD_eq_getD_getElem?,Array.getElem?_replicate];split<;>rfl
 obtain ⟨rest,hrest,hwp⟩:=Tk (Q:=fun e a' w'=>∃ s',Q e s'/\Den L B F0 w0 s' a' w') (B:=B) (F0:=F0) (w0:=w0) rfl hF hoa hga hop hda hz hob hgb zG hdb hd0 hvd hty hx hone hst htl (fun s' a' w' h1 h2=>⟨s',h1,h2⟩) ops.size t (Array.replicate ops.size false) [] QC (by
  intro j o hj
  rw [hre] at hj;cases hj) (fun j _=>hre j) (by
  have:=List.length_filter_le (fun i=>!(Array.replicate ops.size false).getD i false) (List.range ops.size)
  simpa using this)
 unfold Region.linearise;rw [hrest];simp only [List.reverse_nil,List.nil_append];refine hwp a _ ⟨0,s.o,.inl ⟨hre _,hre _,rfl⟩,?_⟩
 have:(List.range (D.length+2)).filter (fun i=>(Array.replicate ops.size false).getD i false)=[]:=by
  rw [List.filter_eq_nil_iff];intro i _;rw [hre];simp
 rw [this];exact hd.drew
end
end Go.Ab
