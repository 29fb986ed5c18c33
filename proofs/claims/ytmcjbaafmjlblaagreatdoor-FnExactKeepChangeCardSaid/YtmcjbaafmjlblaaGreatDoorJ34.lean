/- A part. -/
import Derived.Test.YtmcjbaafmjlblaaGreatDoorJ33
set_option linter.all false
set_option maxRecDepth 20000
set_option maxHeartbeats 4000000
namespace Go.Proofs
open Go.Ab Go.Dt
section
attribute [-instance] cz
attribute [local go_sem] ba aI aS cU cT dy fZ gH
theorem J3(l:List ah):(l.map (aj false)).all (AV.elem 3)=true:=by rw [List.all_eq_true];exact eU l
theorem J2(l:List ah):((l.map (aj false)).flatMap AV.cells).all AV.one=true:=xQ l
theorem VP(l:List AV):l.drop (Int.toNat 0)=l:=rfl
theorem VO(l:List ah):l.take l.length=l:=List.take_length
theorem svT(l:List ah)(k:Nat):(l.map (aj false)).take k=(l.take k).map (aj false):=List.map_take.symm
theorem svD(l:List ah)(k:Nat):(l.map (aj false)).drop k=(l.drop k).map (aj false):=List.map_drop.symm
theorem svA(l m:List ah):l.map (aj false)++m.map (aj false)=(l++m).map (aj false):=List.map_append.symm
theorem svX(x:ah):[AV.agg (cNo x)]=[x].map (aj false):=by rw [List.map_cons,List.map_nil,bR]
attribute [local go_sem] J3 J2 VP VO svT svD svA List.length_take List.length_drop
instance XT(l:List ah)(k:Int):Ctr lim Tryz.prog 186 [] [.sl false 3 ((l).map (aj false)),.v (.int .i64 k)] (.sl false 3 ((dl l k).map (aj false))) [] (k<l.length/\l.length<=4194304):=by
 refine Ctr.bd Tryz.func186 Tryz.ntmps186 rfl rfl fun hp=>?_
 have gOn:=bA.on
 obtain ⟨h1,h2⟩:=hp
 refine AW.fact 0 fun hf=>?_
 simp (disch:=omega) only [go_sem] at hf
 refine vO ?_;intros;refine AW.c (fun h=>?_) fun h=>?_
 ·(refine vU ?_;with_reducible repeat' first|exact Le.l|apply Sw|intro h)
  rw [dl,if_neg (by omega)]
 obtain ⟨j,rfl⟩:∃ j:Nat,k=j:=⟨k.toNat,by omega⟩
 clear h
 (refine vX ?_;with_reducible repeat' first|exact Le.l|apply Sw|intro h)
 refine AW.imp (Imp.frz 4 ?_)
 simp (maxSteps:=2000000) (disch:=omega) only [go_sem]
 (refine vU ?_;with_reducible repeat' first|exact Le.l|apply Sw|intro h)
 rw [dl,if_pos (by omega),rX];try rfl
attribute [local go_sem] List.length_append List.length_cons List.length_nil
instance Jv(s:List ag)(l:List ah)(x:ah):Ctr lim Tryz.prog 215 [] [.sl false 19 ((dk s).map (ak false)),.sl false 3 ((l).map (aj false)),.agg (cNo x)] (.tup [.sl false 3 ((ins s l x).map (aj false)),.v (.bool true)]) [] (0<=idx (nmP x.ae) (dk s)/\l.length<=4194304/\J s l/\kyB (nd s x.ae) x=true/\∀ y∈l,¬ same s x y):=by
 refine Ctr.bd Tryz.func215 Tryz.ntmps215 rfl rfl fun hp=>?_
 have gOn:=bA.on
 obtain ⟨h0,hl,hJ,hkx,hs⟩:=hp
 refine AW.fact 1 fun hf=>?_
 simp (disch:=omega) only [go_sem] at hf
 (refine vK ?_;with_reducible repeat' first|exact Le.l|apply Sw|intro h)
 refine AW.aA [8] [0,1,5] (fun m xs o=>∃ k:Nat,xs=[.v (.int .i64 k)]/\o=[]/\m=l.length - k/\k<=l.length/\∀ y∈l.take k,stP (dk s) x y=false) l.length [] trivial ⟨0,?_,rfl,rfl,?_,?_⟩ ?_
 ·rfl
 ·omega
 ·simp
 rintro m xs o ⟨k,rfl,rfl,rfl,hk,hR⟩
 have hj0:k<l.length->0<=idx (nmP (at_ l k).ae) (dk s):=fun q=>((mo.1 hJ).1 _ (at_mem q)).1
 have hj1:k<l.length->kyB (at_ (dk s) (idx (nmP (at_ l k).ae) (dk s)).toNat) (at_ l k)=true:=fun q=>((mo.1 hJ).1 _ (at_mem q)).2.1
 have ZR:kyB (at_ (dk s) (idx (nmP x.ae) (dk s)).toNat) x=true:=hkx
 have hst:k<l.length->gZ (dk s) (at_ l k) x=!stP (dk s) x (at_ l k):=fun q=>Sb h0 (hs _ (at_mem q))
 have hbk:k<l.length->gZ (dk s) (at_ l k) x=false->gZ (dk s) x (at_ l k)=true:=fun q=>Nl h0 (hs _ (at_mem q))
 (refine vK ?_;with_reducible repeat' first|exact Le.l|apply Sw|intro h)
 ·exact hj1 (by first|assumption|grind)
 refine AW.c (fun h=>?_) fun h=>?_
 ·have hlk:=h.1
  have hb:=h.2
  clear h
  (refine vU ?_;with_reducible repeat' first|exact Le.l|apply Sw|intro h)
  exact ⟨_,[_],_,by omega,⟨k+1,rfl,rfl,rfl,by omega,bJ hlk hR (by have:=hst hlk;rw [hb] at this;cases hz:stP (dk s) x (at_ l k) with|false=>rfl|true=>rw [hz] at this;cases this)⟩,rfl,by simp (maxSteps:=2000000) (disch:=omega) only [go_sem]⟩
 have hpos:pos (stP (dk s) x) l=k:=by
  by_cases hlk:k<l.length
  ·have hb:=h hlk
   refine pos_at hlk hR ?_
   have:=hst hlk
   rw [hb] at this
   cases hz:stP (dk s) x (at_ l k) with
   | true=>rfl
   | false=>rw [hz] at this;cases this
  ·rw [DB hlk hR];omega
 have hbb:¬ (k<l.length/\gZ (dk s) x (at_ l k)=false):=fun c=>by
  have:=hbk c.1 (h c.1)
  rw [this] at c;cases c.2
 clear h
 refine vO ?_;intros;refine AW.c (fun h=>?_) fun h=>?_
 ·exact absurd (by grind) hbb
 clear h
 (refine vX ?_;with_reducible repeat' first|exact Le.l|apply Sw|intro h)
 have em:List.map (aj false) (List.take k l)++AV.agg (cNo x)::List.map (aj false) (List.drop k l)=(l.take k++x::l.drop k).map (aj false):=by rw [List.map_append,List.map_cons,bR _ x]
 rw [em]
 clear em
 refine AW.imp (Imp.frz 6 ?_)
 simp (maxSteps:=2000000) (disch:=omega) only [go_sem]
 (refine vU ?_;with_reducible repeat' first|exact Le.l|apply Sw|intro h)
 rw [ins,hpos]
end
section
attribute [-instance] cz
attribute [local go_sem] ba aI aS cU cT dy fZ gH
def chC(n:ag)(e:au):Int:=if ¬ wrg n e=0 then wrg n e else if n.ai=2/\dE n e.af=false then 4 else 0
def chV(n:ag)(e:au):Str:=if chC n e=0/\(n.ai=4\/n.ai=3/\e.fOp<4) then cvS n.fType e.av else []
def chK(n:ag)(e:au):List Str:=if chC n e=0/\n.ai=2 then En n e.af else []
theorem oC{n:ag}{e:au}{c:Int}(h:chC n e=c)(h0:¬ c=0):chV n e=[]/\chK n e=[]:=by
 rw [chV,chK,if_neg (by rintro ⟨a,_⟩;omega),if_neg (by rintro ⟨a,_⟩;omega)];exact ⟨rfl,rfl⟩
theorem zR{n:ag}{e:au}(h:¬ wrg n e=0):chC n e=wrg n e:=by rw [chC,if_pos h]
instance V0(n:ag)(e:au):Ctr lim Tryz.prog 185 [] [.agg (cSc n),.agg (cEd e)] (.tup [.str (chV n e),.sl true 1 ((chK n e).map AV.str),.v (.int .i64 (chC n e))]) [] ((n.ai=2->KyS n)/\1<=n.ai/\n.ai<=4/\e.av.length<=1048576/\e.af.length<=1048576/\∀ x∈e.af,x.av.length<=1048576):=by
 refine Ctr.bd Tryz.func185 Tryz.ntmps185 rfl rfl fun hp=>?_
 have gOn:=bA.on
 obtain ⟨hp1,hp2,hp3,hp4,hp5,hp6⟩:=hp
 haveI hK:n.ai=2->Ctr lim Tryz.prog 213 [] [.agg (cSc n),.agg (cEd e)] (.tup [.sl true 1 ((AL n e.af).map AV.str),.v (.bool (dE n e.af))]) [] True:=fun h=>⟨(aM 213),fun _=>(QD n e).out ⟨hp1 h,hp5,hp6⟩⟩
 refine AW.kU 1 rfl (xs:=e.af.map (aH false)) (own:=false) (sz:=4) (by simp) fun hf=>?_
 simp (disch:=omega) only [go_sem] at hf
 have hk:e.af=[]↔¬ (0:Int)<e.af.length:=by
  cases e.af with
  | nil=>simp
  | cons x xs=>simp only [List.length_cons];constructor<;>intro h<;>first|cases h|(exfalso;omega)
 refine vO ?_;intros;refine AW.c (fun h=>?_) fun h=>?_
 ·have hw:wrg n e=2:=by unfold wrg;grind
  have hc:chC n e=2:=by rw [zR (by omega),hw]
  (refine vX ?_;with_reducible repeat' first|exact Le.l|apply Sw|intro h)
  refine AW.imp (Imp.fU 5 (x:=.v (.slice none 0 0)) (x':=.sl true 1 []) gO (fun _ _ _ _ r=>Rep.dY _ _ r) ?_)
  (refine vU ?_;with_reducible repeat' first|exact Le.l|apply Sw|intro h)
  rw [(oC hc (by omega)).1,(oC hc (by omega)).2,hc];try rfl
 have w1:¬ (((n.ai=1\/n.ai=2)/\¬ e.av=[])\/(¬ (n.ai=1\/n.ai=2)/\¬ e.af=[])):=by grind
 clear h
 refine vO ?_;intros;refine AW.c (fun h=>?_) fun h=>?_
 ·have hw:wrg n e=3:=by rw [wrg,if_neg w1,if_pos (by grind)]
  have hc:chC n e=3:=by rw [zR (by omega),hw]
  (refine vX ?_;with_reducible repeat' first|exact Le.l|apply Sw|intro h)
  refine AW.imp (Imp.fU 5 (x:=.v (.slice none 0 0)) (x':=.sl true 1 []) gO (fun _ _ _ _ r=>Rep.dY _ _ r) ?_)
  (refine vU ?_;with_reducible repeat' first|exact Le.l|apply Sw|intro h)
  rw [(oC hc (by omega)).1,(oC hc (by omega)).2,hc];try rfl
 have w2:¬ (e.fOp<1\/5<e.fOp):=by grind
 clear h
 refine vO ?_;intros;refine AW.c (fun h=>?_) fun h=>?_
 ·have hq:=h
  clear h
  refine vO ?_;intros;refine AW.c (fun h=>?_) fun h=>?_
  ·have hw:wrg n e=7:=by rw [wrg,if_neg w1,if_neg w2,if_pos ⟨by grind,h⟩]
   have hc:chC n e=7:=by rw [zR (by omega),hw]
   (refine vX ?_;with_reducible repeat' first|exact Le.l|apply Sw|intro h)
   refine AW.imp (Imp.fU 5 (x:=.v (.slice none 0 0)) (x':=.sl true 1 []) gO (fun _ _ _ _ r=>Rep.dY _ _ r) ?_)
   (refine vU ?_;with_reducible repeat' first|exact Le.l|apply Sw|intro h)
   rw [(oC hc (by omega)).1,(oC hc (by omega)).2,hc];try rfl
  have hw:wrg n e=0:=by rw [wrg,if_neg w1,if_neg w2,if_neg (by grind)]
  clear h
  have hc:chC n e=0:=by rw [chC,if_neg (by omega),if_neg (by rintro ⟨c,_⟩;omega)]
  (refine vK ?_;with_reducible repeat' first|exact Le.l|apply Sw|intro h)
  (refine AW.i rfl (fun h=>?_) (fun h=>?_)<;>try simp only [hC,reduceCtorEq] at h)
  rotate_left
  ·exfalso;omega
  (refine vX ?_;with_reducible repeat' first|exact Le.l|apply Sw|intro h)
  refine AW.imp (Imp.fU 5 (x:=.v (.slice none 0 0)) (x':=.sl true 1 []) gO (fun _ _ _ _ r=>Rep.dY _ _ r) ?_)
  (refine vU ?_;with_reducible repeat' first|exact Le.l|apply Sw|intro h)
  rw [chV,chK,hc,if_pos (by grind),if_neg (by rintro ⟨_,c⟩;omega)];try rfl
 ·have hw:wrg n e=0:=by rw [wrg,if_neg w1,if_neg w2,if_neg (by grind)]
  have hq:=h
  clear h
  refine vO ?_;intros;refine AW.c (fun h=>?_) fun h=>?_
  ·have hc:chC n e=0:=by rw [chC,if_neg (by omega),if_neg (by rintro ⟨c,_⟩;omega)]
   (refine vX ?_;with_reducible repeat' first|exact Le.l|apply Sw|intro h)
   refine AW.imp (Imp.fU 5 (x:=.v (.slice none 0 0)) (x':=.sl true 1 []) gO (fun _ _ _ _ r=>Rep.dY _ _ r) ?_)
   (refine vU ?_;with_reducible repeat' first|exact Le.l|apply Sw|intro h)
   rw [chV,chK,hc,if_neg (by grind),if_neg (by rintro ⟨_,c⟩;omega)];try rfl
  have h2:n.ai=2:=by omega
  clear h
  haveI:=hK h2
  refine vO ?_;intros;refine AW.c (fun h=>?_) fun h=>?_
  ·have hc:chC n e=4:=by rw [chC,if_neg (by omega),if_pos ⟨h2,h⟩]
   (refine vX ?_;with_reducible repeat' first|exact Le.l|apply Sw|intro h)
   refine AW.imp (Imp.fU 5 (x:=.v (.slice none 0 0)) (x':=.sl true 1 []) gO (fun _ _ _ _ r=>Rep.dY _ _ r) ?_)
   (refine vU ?_;with_reducible repeat' first|exact Le.l|apply Sw|intro h)
   rw [(oC hc (by omega)).1,(oC hc (by omega)).2,hc];try rfl
  ·have hc:chC n e=0:=by rw [chC,if_neg (by omega),if_neg (by rintro ⟨_,c⟩;rw [h] at c;cases c)]
   (refine vU ?_;with_reducible repeat' first|exact Le.l|apply Sw|intro h)
   rw [chV,chK,hc,if_neg (by rintro ⟨_,c⟩;omega),if_pos ⟨rfl,h2⟩,AL,if_pos h];try rfl
end
end Go.Proofs
namespace Go.Dt
open Go Go.Ab
section
variable {R : Rec} {s : List ag} {l : List ah} {e : au}
theorem LP(h0:0<=idx (nmP e.ae) (dk s))(hf:∀ y∈l,¬ same s (bQ (nd s e.ae) e) y)(c1:(nd s e.ae).ai=3\/(nd s e.ae).ai=4) :
  kyB (nd s (nd s e.ae).ae) (.mk (nd s e.ae).ae (cvS (nd s e.ae).fType e.av) [])=true/\∀ y∈wo s (nd s e.ae).ae l,¬ same s (.mk (nd s e.ae).ae (cvS (nd s e.ae).fType e.av) []) y:=by
 have hn:=(fI h0).1
 refine ⟨?_,fun y hy c=>hf y ((pW _ _ _).subset hy) (lH ?_ c)⟩
 ·have e2:nd s (nd s e.ae).ae=nd s e.ae:=by rw [hn]
  rw [e2]
  exact (gC (by omega)).2
 ·refine ⟨rfl,fun r=>?_⟩
  rw [iT,hn] at r ⊢
  rw [(gC (by omega)).1,(gC (by omega)).1]
  rcases c1 with c1|c1
  ·rw [c1] at r;exact absurd r (by decide)
  ·rw [sX c1];rfl
theorem LQ(hg:gdS s)(h0:0<=idx (nmP e.ae) (dk s))(hk:(nd s e.ae).ai=2->dE (nd s e.ae) e.af=true)(hf:∀ y∈l,¬ same s (bQ (nd s e.ae) e) y)(hR:ROk R (nd s e.ae).af e.af)(c1:¬ ((nd s e.ae).ai=3\/(nd s e.ae).ai=4))(hr:(R (nd s e.ae).af []).2=0) :
  kyB (nd s (nd s e.ae).ae) (.mk (nd s e.ae).ae [] (R (nd s e.ae).af []).1)=true/\∀ y∈wo s (nd s e.ae).ae l,¬ same s (.mk (nd s e.ae).ae [] (R (nd s e.ae).af []).1) y:=by
 have hn:=(fI h0).1
 obtain ⟨r1,r2⟩:=hR [] Aa hr
 generalize (R (nd s e.ae).af []).1=ks at r1 r2
 have hky:(nd s e.ae).ai=2->kyB (nd s e.ae) (.mk (nd s e.ae).ae [] ks)=true/\kyL (nd s e.ae) (.mk (nd s e.ae).ae [] ks)=kyL (nd s e.ae) (bQ (nd s e.ae) e):=fun h2=>by
  have:=xT hg h0 h2 (hk h2) r2 (x:=.mk (nd s e.ae).ae [] ks) rfl
  rw [uQ fun _=>hk h2] at this
  exact this
 refine ⟨?_,fun y hy c=>hf y ((pW _ _ _).subset hy) (lH ?_ c)⟩
 ·have e2:nd s (nd s e.ae).ae=nd s e.ae:=by rw [hn]
  rw [e2]
  by_cases h2:(nd s e.ae).ai=2
  ·exact (hky h2).1
  ·exact (gC h2).2
 ·refine ⟨rfl,fun r=>?_⟩
  rw [iT,hn] at r ⊢
  have h2:(nd s e.ae).ai=2:=by
   simp only [gu,Bool.or_eq_true,decide_eq_true_eq] at r;omega
  have:=(hky h2).2
  rw [hn] at this
  exact this.symm
theorem rok(es:List au){s:List ag}(hg:gdS s):ROk (mdE es) s es:=fun l hJ hr=>D2 es s l hg hJ hr
end
end Go.Dt
