/- A part. -/
import Derived.Test.YtmcjbaafmjlblaaGreatDoorJ22
import Derived.Test.YtmcjbaafmjlblaaGreatDoorJ25
import Derived.Test.YtmcjbaafmjlblaaGreatDoorJ29
import Derived.Test.YtmcjbaafmjlblaaGreatDoorJ30
set_option linter.all false
set_option maxRecDepth 20000
set_option maxHeartbeats 4000000
namespace Go.Proofs
open Go.Ab Go.Dt
section
theorem aO.zu{x y:aO}(h:y∈x.af):SizeOf.sizeOf y<SizeOf.sizeOf x:=by
 have:=List.sizeOf_lt_of_mem h
 cases x;simp [aO.af] at *;omega
theorem xb:∀ (n:Nat) (x:aO),Ctr lim Tryz.prog 194 [] [.agg [.v (.int .i64 x.fOp),.v (.int .i64 x.fD),.str x.cg,.v (.bool x.aE.cH),.v (.int .i64 x.aE.dq),.sl false 2 (x.aE.aN.map (aU false)),.sl false 7 (x.af.map (aK false))]] (.agg [.v (.int .i64 x.fOp),.v (.int .i64 x.fD),.str x.cg,.v (.bool x.aE.cH),.v (.int .i64 x.aE.dq),.sl true 2 (x.aE.aN.map (aU true)),.sl true 7 (x.af.map (aK true))]) [] (SizeOf.sizeOf x<n)
 | 0,x=>⟨(aM 194),fun h=>absurd h (Nat.not_lt_zero _)⟩
 | n+1,x=>by
  have ih:=xb n
  refine Ctr.bd Tryz.func194 Tryz.ntmps194 rfl rfl fun hp=>?_
  refine AW.fact 0 fun hf=>?_
  simp (disch:=omega) only [go_sem] at hf
  (refine Z ?_;refine fun (K:_->_->Prop) hK=>?_;simp (maxSteps:=2000000) (disch:=omega) only [go_sem])
  (refine vN ?_;with_reducible repeat' first|exact Le.l|apply Sw|intro h)
  first|refine AW.rB ?_|refine AW.wH ?_
  (refine vU ?_;with_reducible repeat' first|exact Le.l|apply Sw|intro h)
  rename_i b2 b3
  refine AW.imp (Imp.nZ (b:=b3) 7 [_,_,_,_,_,_] [] (eQ _ _ _) ?_)
  simp (maxSteps:=2000000) (disch:=omega) only [go_sem]
  refine AW.iA [4] [1,2,3] (fun m xs o=>∃ k:Nat,xs=[.v (.int .i64 k)]/\o=[(b3,some [.v (.int .i64 x.fOp),.v (.int .i64 x.fD),.str x.cg,.v (.bool x.aE.cH),.v (.int .i64 x.aE.dq),.sl true 2 (x.aE.aN.map (aU true)),.sl true 7 ((x.af.take k).map (aK true))]),(b2,some [.v (.int .i64 0),.v (.int .i64 0),.str [],.v (.bool false),.v (.int .i64 0),.v (.slice none 0 0),.v (.slice none 0 0)])]/\m=x.af.length - k/\k<=x.af.length) x.af.length [(b3,some [.v (.int .i64 x.fOp),.v (.int .i64 x.fD),.str x.cg,.v (.bool x.aE.cH),.v (.int .i64 x.aE.dq),.sl true 2 (x.aE.aN.map (aU true)),.sl true 7 ((x.af.take 0).map (aK true))]),(b2,some [.v (.int .i64 0),.v (.int .i64 0),.str [],.v (.bool false),.v (.int .i64 0),.v (.slice none 0 0),.v (.slice none 0 0)])] gO ⟨0,rfl,rfl,rfl,by omega⟩ ?_
  rintro m xs o ⟨k,rfl,rfl,rfl,hk⟩
  have hlt:(x.af.take k).length=k:=by rw [List.length_take];omega
  have hkk:k<x.af.length->SizeOf.sizeOf (at_ x.af k)<n:=fun h=>by have:=aO.zu (at_mem h);omega
  refine vO ?_;intros;refine AW.c (fun h=>?_) fun h=>?_
  ·refine AW.imp (Imp.iZ (b0:=b3) (k:=6) (sz:=7) (l:=(x.af.take k).map (aK true)) (eQ _ _ _) rfl (bB (fun x=>by rw [cM];rfl) _) (fun b hb=>?_) (fun hnil=>?_))
   ·have hb1:=hb.nf
    simp only [go_sem] at hb1
    simp only [List.set_cons_zero,List.set_cons_succ,List.length_map]
    (refine vU ?_;with_reducible repeat' first|exact Le.l|apply Sw|intro h)
    ·rw [bH (sz:=7) (bB (fun x=>by rw [cM];rfl) _),List.length_map]
    rename_i g
    refine Imp.tq (b0:=b3) (k:=6) (b:=g) (sz:=7) (cells0:=[.v (.int .i64 x.fOp),.v (.int .i64 x.fD),.str x.cg,.v (.bool x.aE.cH),.v (.int .i64 x.aE.dq),.sl true 2 (x.aE.aN.map (aU true)),.arr g 0 ((x.af.take k).length+1) 7]) (l:=(x.af.take k).map (aK true)) (aK true (at_ x.af k)) gO (by rw [List.length_map];rfl) (by simp (maxSteps:=2000000) (disch:=omega) only [go_sem];try rfl) (by omega) (bB (fun x=>by rw [cM];rfl) _) (by rw [cM];rfl) ?_
    simp only [List.set_cons_zero,List.set_cons_succ]
    exact ⟨trivial,_,[_],_,by omega,⟨k+1,rfl,rfl,rfl,by omega⟩,rfl,by rw [db (by assumption),List.map_append];simp (maxSteps:=2000000) (disch:=omega) only [go_sem];try rfl⟩
   ·simp only [List.set_cons_zero,List.set_cons_succ,hnil]
    (refine vU ?_;with_reducible repeat' first|exact Le.l|apply Sw|intro h)
    have hk0:k=0:=by rw [List.map_eq_nil_iff] at hnil;rw [hnil] at hlt;exact hlt.symm
    subst hk0
    refine Imp.id ?_
    simp (maxSteps:=2000000) (disch:=omega) only [go_sem]
    exact ⟨_,[_],_,by omega,⟨1,rfl,rfl,rfl,by omega⟩,rfl,by rw [db (by assumption)];simp (maxSteps:=2000000) (disch:=omega) only [go_sem];try rfl⟩
  ·rw [show k=x.af.length by omega,List.take_length]
   all_goals exact uU
instance SG(x:aO):Ctr lim Tryz.prog 194 [] [.agg [.v (.int .i64 x.fOp),.v (.int .i64 x.fD),.str x.cg,.v (.bool x.aE.cH),.v (.int .i64 x.aE.dq),.sl false 2 (x.aE.aN.map (aU false)),.sl false 7 (x.af.map (aK false))]] (.agg [.v (.int .i64 x.fOp),.v (.int .i64 x.fD),.str x.cg,.v (.bool x.aE.cH),.v (.int .i64 x.aE.dq),.sl true 2 (x.aE.aN.map (aU true)),.sl true 7 (x.af.map (aK true))]) [] True:=⟨(aM 194),fun _=>(xb (SizeOf.sizeOf x+1) x).out (Nat.lt_succ_self _)⟩
end
section
theorem tW(n:Nat)(ih:∀ l:List ag,Ctr lim Tryz.prog 195 [] [.sl false 19 (l.map (ak false))] (.sl true 19 (l.map (ak true))) [] (SizeOf.sizeOf l<n))(x:ag):Ctr lim Tryz.prog 167 [] [.agg (cSc x)] (.agg [.v (.int .i64 x.ai),.str x.ae,.v (.int .i64 x.fType.ai),.sl true 2 (x.fType.aB.map (aR true)),.sl true 1 (x.fType.ax.map AV.str),.str x.fType.aW,.str x.fType.aE,.sl true 1 (x.aw.map AV.str),.sl true 1 (x.aD.map AV.str),.str x.bh,.v (.bool x.cm),.v (.bool x.cC),.v (.bool x.bF),.v (.bool x.dF),.v (.int .i64 x.gF),.v (.int .i64 x.gG),.sl true 7 (x.bz.map (aK true)),.sl true 7 (x.bY.map (aK true)),.sl true 19 (x.af.map (ak true))]) [] (SizeOf.sizeOf x.af<n):=by
 refine Ctr.bd Tryz.func167 Tryz.ntmps167 rfl rfl fun hp=>?_
 refine AW.fact 0 fun hf=>?_
 simp (disch:=omega) only [go_sem] at hf
 (refine vU ?_;with_reducible repeat' first|exact Le.l|apply Sw|intro h)
 rename_i b2 b3
 refine AW.imp (Imp.nZ (b:=b3) 7 [_,_,_,_,_,_,_,_,_,_,_,_,_,_,_,_] [_,_] (eQ _ _ _) ?_)
 simp (maxSteps:=2000000) (disch:=omega) only [go_sem]
 refine AW.iA [4] [1,2,3] (fun m xs o=>∃ k:Nat,xs=[.v (.int .i64 k)]/\o=[(b3,some [.v (.int .i64 x.ai),.str x.ae,.v (.int .i64 x.fType.ai),.sl true 2 (x.fType.aB.map (aR true)),.sl true 1 (x.fType.ax.map AV.str),.str x.fType.aW,.str x.fType.aE,.sl true 1 (x.aw.map AV.str),.sl true 1 (x.aD.map AV.str),.str x.bh,.v (.bool x.cm),.v (.bool x.cC),.v (.bool x.bF),.v (.bool x.dF),.v (.int .i64 x.gF),.v (.int .i64 x.gG),.sl true 7 ((x.bz.take k).map (aK true)),.v (.slice none 0 0),.sl false 19 (x.af.map (ak false))]),(b2,some cZe)]/\m=x.bz.length - k/\k<=x.bz.length) x.bz.length [(b3,some [.v (.int .i64 x.ai),.str x.ae,.v (.int .i64 x.fType.ai),.sl true 2 (x.fType.aB.map (aR true)),.sl true 1 (x.fType.ax.map AV.str),.str x.fType.aW,.str x.fType.aE,.sl true 1 (x.aw.map AV.str),.sl true 1 (x.aD.map AV.str),.str x.bh,.v (.bool x.cm),.v (.bool x.cC),.v (.bool x.bF),.v (.bool x.dF),.v (.int .i64 x.gF),.v (.int .i64 x.gG),.sl true 7 ((x.bz.take 0).map (aK true)),.v (.slice none 0 0),.sl false 19 (x.af.map (ak false))]),(b2,some cZe)] gO ⟨0,rfl,rfl,rfl,by omega⟩ ?_
 rintro m xs o ⟨k,rfl,rfl,rfl,hk⟩
 have hlt:(x.bz.take k).length=k:=by rw [List.length_take];omega
 refine vO ?_;intros;refine AW.c (fun h=>?_) fun h=>?_
 ·refine AW.imp (Imp.iZ (b0:=b3) (k:=16) (sz:=7) (l:=(x.bz.take k).map (aK true)) (eQ _ _ _) rfl (bB (fun x=>by rw [cM];rfl) _) (fun b hb=>?_) (fun hnil=>?_))
  ·have hb1:=hb.nf
   simp only [go_sem] at hb1
   simp only [List.set_cons_zero,List.set_cons_succ,List.length_map]
   (refine vU ?_;with_reducible repeat' first|exact Le.l|apply Sw|intro h)
   ·rw [bH (sz:=7) (bB (fun x=>by rw [cM];rfl) _),List.length_map]
   rename_i g
   refine Imp.tq (b0:=b3) (k:=16) (b:=g) (sz:=7) (cells0:=[.v (.int .i64 x.ai),.str x.ae,.v (.int .i64 x.fType.ai),.sl true 2 (x.fType.aB.map (aR true)),.sl true 1 (x.fType.ax.map AV.str),.str x.fType.aW,.str x.fType.aE,.sl true 1 (x.aw.map AV.str),.sl true 1 (x.aD.map AV.str),.str x.bh,.v (.bool x.cm),.v (.bool x.cC),.v (.bool x.bF),.v (.bool x.dF),.v (.int .i64 x.gF),.v (.int .i64 x.gG),.arr g 0 ((x.bz.take k).length+1) 7,.v (.slice none 0 0),.sl false 19 (x.af.map (ak false))]) (l:=(x.bz.take k).map (aK true)) (aK true (at_ x.bz k)) gO (by rw [List.length_map];rfl) (by simp (maxSteps:=2000000) (disch:=omega) only [go_sem];try rfl) (by omega) (bB (fun x=>by rw [cM];rfl) _) (by rw [cM];rfl) ?_
   simp only [List.set_cons_zero,List.set_cons_succ]
   exact ⟨trivial,_,[_],_,by omega,⟨k+1,rfl,rfl,rfl,by omega⟩,rfl,by rw [db (by assumption),List.map_append];simp (maxSteps:=2000000) (disch:=omega) only [go_sem];try rfl⟩
  ·simp only [List.set_cons_zero,List.set_cons_succ,hnil]
   (refine vU ?_;with_reducible repeat' first|exact Le.l|apply Sw|intro h)
   have hk0:k=0:=by rw [List.map_eq_nil_iff] at hnil;rw [hnil] at hlt;exact hlt.symm
   subst hk0
   refine Imp.id ?_
   simp (maxSteps:=2000000) (disch:=omega) only [go_sem]
   exact ⟨_,[_],_,by omega,⟨1,rfl,rfl,rfl,by omega⟩,rfl,by rw [db (by assumption)];simp (maxSteps:=2000000) (disch:=omega) only [go_sem];try rfl⟩
 ·rw [show k=x.bz.length by omega,List.take_length]
  (refine vU ?_;with_reducible repeat' first|exact Le.l|apply Sw|intro h)
  refine AW.imp (Imp.nZ (b:=b3) 7 [_,_,_,_,_,_,_,_,_,_,_,_,_,_,_,_,_] [_] (eQ _ _ _) ?_)
  simp (maxSteps:=2000000) (disch:=omega) only [go_sem]
  refine AW.iA [5] [1,2,3] (fun m xs o=>∃ k:Nat,xs=[.v (.int .i64 k)]/\o=[(b3,some [.v (.int .i64 x.ai),.str x.ae,.v (.int .i64 x.fType.ai),.sl true 2 (x.fType.aB.map (aR true)),.sl true 1 (x.fType.ax.map AV.str),.str x.fType.aW,.str x.fType.aE,.sl true 1 (x.aw.map AV.str),.sl true 1 (x.aD.map AV.str),.str x.bh,.v (.bool x.cm),.v (.bool x.cC),.v (.bool x.bF),.v (.bool x.dF),.v (.int .i64 x.gF),.v (.int .i64 x.gG),.sl true 7 (x.bz.map (aK true)),.sl true 7 ((x.bY.take k).map (aK true)),.sl false 19 (x.af.map (ak false))]),(b2,some cZe)]/\m=x.bY.length - k/\k<=x.bY.length) x.bY.length [(b3,some [.v (.int .i64 x.ai),.str x.ae,.v (.int .i64 x.fType.ai),.sl true 2 (x.fType.aB.map (aR true)),.sl true 1 (x.fType.ax.map AV.str),.str x.fType.aW,.str x.fType.aE,.sl true 1 (x.aw.map AV.str),.sl true 1 (x.aD.map AV.str),.str x.bh,.v (.bool x.cm),.v (.bool x.cC),.v (.bool x.bF),.v (.bool x.dF),.v (.int .i64 x.gF),.v (.int .i64 x.gG),.sl true 7 (x.bz.map (aK true)),.sl true 7 ((x.bY.take 0).map (aK true)),.sl false 19 (x.af.map (ak false))]),(b2,some cZe)] gO ⟨0,rfl,rfl,rfl,by omega⟩ ?_
  rintro m xs o ⟨k,rfl,rfl,rfl,hk⟩
  have hlt:(x.bY.take k).length=k:=by rw [List.length_take];omega
  refine vO ?_;intros;refine AW.c (fun h=>?_) fun h=>?_
  ·refine AW.imp (Imp.iZ (b0:=b3) (k:=17) (sz:=7) (l:=(x.bY.take k).map (aK true)) (eQ _ _ _) rfl (bB (fun x=>by rw [cM];rfl) _) (fun b hb=>?_) (fun hnil=>?_))
   ·have hb1:=hb.nf
    simp only [go_sem] at hb1
    simp only [List.set_cons_zero,List.set_cons_succ,List.length_map]
    (refine vU ?_;with_reducible repeat' first|exact Le.l|apply Sw|intro h)
    ·rw [bH (sz:=7) (bB (fun x=>by rw [cM];rfl) _),List.length_map]
    rename_i g
    refine Imp.tq (b0:=b3) (k:=17) (b:=g) (sz:=7) (cells0:=[.v (.int .i64 x.ai),.str x.ae,.v (.int .i64 x.fType.ai),.sl true 2 (x.fType.aB.map (aR true)),.sl true 1 (x.fType.ax.map AV.str),.str x.fType.aW,.str x.fType.aE,.sl true 1 (x.aw.map AV.str),.sl true 1 (x.aD.map AV.str),.str x.bh,.v (.bool x.cm),.v (.bool x.cC),.v (.bool x.bF),.v (.bool x.dF),.v (.int .i64 x.gF),.v (.int .i64 x.gG),.sl true 7 (x.bz.map (aK true)),.arr g 0 ((x.bY.take k).length+1) 7,.sl false 19 (x.af.map (ak false))]) (l:=(x.bY.take k).map (aK true)) (aK true (at_ x.bY k)) gO (by rw [List.length_map];rfl) (by simp (maxSteps:=2000000) (disch:=omega) only [go_sem];try rfl) (by omega) (bB (fun x=>by rw [cM];rfl) _) (by rw [cM];rfl) ?_
    simp only [List.set_cons_zero,List.set_cons_succ]
    exact ⟨trivial,_,[_],_,by omega,⟨k+1,rfl,rfl,rfl,by omega⟩,rfl,by rw [db (by assumption),List.map_append];simp (maxSteps:=2000000) (disch:=omega) only [go_sem];try rfl⟩
   ·simp only [List.set_cons_zero,List.set_cons_succ,hnil]
    (refine vU ?_;with_reducible repeat' first|exact Le.l|apply Sw|intro h)
    have hk0:k=0:=by rw [List.map_eq_nil_iff] at hnil;rw [hnil] at hlt;exact hlt.symm
    subst hk0
    refine Imp.id ?_
    simp (maxSteps:=2000000) (disch:=omega) only [go_sem]
    exact ⟨_,[_],_,by omega,⟨1,rfl,rfl,rfl,by omega⟩,rfl,by rw [db (by assumption)];simp (maxSteps:=2000000) (disch:=omega) only [go_sem];try rfl⟩
  ·rw [show k=x.bY.length by omega,List.take_length]
   all_goals exact uU
theorem rC:∀ (n:Nat) (l:List ag),Ctr lim Tryz.prog 195 [] [.sl false 19 (l.map (ak false))] (.sl true 19 (l.map (ak true))) [] (SizeOf.sizeOf l<n)
 | 0,l=>⟨(aM 195),fun h=>absurd h (Nat.not_lt_zero _)⟩
 | n+1,l=>by
  have ih:=tW n (rC n)
  refine Ctr.bd Tryz.func195 Tryz.ntmps195 rfl rfl fun hp=>?_
  refine AW.fact 0 fun hf=>?_
  simp (disch:=omega) only [go_sem] at hf
  (refine vU ?_;with_reducible repeat' first|exact Le.l|apply Sw|intro h)
  refine AW.aA [3,4] [0] (fun m xs o=>∃ k:Nat,xs=[.sl true 19 ((l.take k).map (ak true)),.v (.int .i64 k)]/\o=[]/\m=l.length - k/\k<=l.length) l.length [] trivial ⟨0,?_,rfl,rfl,?_⟩ ?_
  ·rfl
  ·omega
  rintro m xs o ⟨k,rfl,rfl,rfl,hk⟩
  have hlt:(l.take k).length=k:=by rw [List.length_take];omega
  have hkk:k<l.length->SizeOf.sizeOf (at_ l k).af<n:=fun h=>by have:=ag.cd (at_mem h);omega
  (refine vU ?_;with_reducible repeat' first|exact Le.l|apply Sw|intro h)
  ·exact ⟨_,[_,_],[],by omega,⟨k+1,by rw [db (by assumption),List.map_append,List.map_cons,List.map_nil,cK],rfl,rfl,by omega⟩,rfl,trivial⟩
  ·rw [show k=l.length by omega,List.take_length]
instance P9(x:ag):Ctr lim Tryz.prog 167 [] [.agg (cSc x)] (.agg [.v (.int .i64 x.ai),.str x.ae,.v (.int .i64 x.fType.ai),.sl true 2 (x.fType.aB.map (aR true)),.sl true 1 (x.fType.ax.map AV.str),.str x.fType.aW,.str x.fType.aE,.sl true 1 (x.aw.map AV.str),.sl true 1 (x.aD.map AV.str),.str x.bh,.v (.bool x.cm),.v (.bool x.cC),.v (.bool x.bF),.v (.bool x.dF),.v (.int .i64 x.gF),.v (.int .i64 x.gG),.sl true 7 (x.bz.map (aK true)),.sl true 7 (x.bY.map (aK true)),.sl true 19 (x.af.map (ak true))]) [] True:=⟨(aM 167),fun _=>(tW (SizeOf.sizeOf x.af+1) (rC _) x).out (Nat.lt_succ_self _)⟩
end
section
theorem OL(l:List ag):(l.map (ak true)).all (AV.elem 19)=true:=cX (fun x=>by rw [cK];try rfl) l
theorem OK(l:List ag):((l.map (ak true)).flatMap AV.cells).all AV.one=true:=dw (fun x=>by rw [cK];try rfl) l
attribute [local go_sem] ba aI cU cT OL OK
theorem nW:∀ (n:Nat) (l:List ag),Ctr lim Tryz.prog 129 [] [.sl false 19 (l.map (ak false))] (.sl true 19 ((dk l).map (ak true))) [] (SizeOf.sizeOf l<n/\bE l<=1048576)
 | 0,l=>⟨(aM 129),fun h=>absurd h.1 (Nat.not_lt_zero _)⟩
 | n+1,l=>by
  have ih:=nW n
  refine Ctr.bd Tryz.func129 Tryz.ntmps129 rfl rfl fun hp=>?_
  have gOn:=bA.on
  obtain ⟨hs,hb⟩:=hp
  refine AW.fact 0 fun hf=>?_
  simp (disch:=omega) only [go_sem] at hf
  (refine vU ?_;with_reducible repeat' first|exact Le.l|apply Sw|intro h)
  refine AW.aA [3,4] [0] (fun m xs o=>∃ k:Nat,xs=[.sl true 19 ((dk (l.take k)).map (ak true)),.v (.int .i64 k)]/\o=[]/\m=l.length - k/\k<=l.length) l.length [] trivial ⟨0,?_,rfl,rfl,?_⟩ ?_
  ·rw [List.take_zero,dk];try rfl
  ·omega
  rintro m xs o ⟨k,rfl,rfl,rfl,hk⟩
  have h1:=nu (l.take k)
  have h3:=HA (l:=l) (k:=k)
  have h4:k<l.length->SizeOf.sizeOf (at_ l k).af<n/\bE (at_ l k).af<=1048576:=fun h=>by
   have:=qj (at_mem h);have:=ag.cd (at_mem h);omega
  have h6:=nu (at_ l k).af
  have h7:=nu (l.take (k+1))
  (refine vU ?_;with_reducible repeat' first|exact Le.l|apply Sw|intro h)
  ·rename_i hd
   rw [di] at hd;simp at hd;omega
  ·rename_i hk1 hd
   exact ⟨_,[_,_],[],by omega,⟨k+1,rfl,rfl,rfl,by omega⟩,by rw [pP hk1,if_pos hd,List.map_append,List.map_cons,List.map_nil,cK];try rfl,trivial⟩
  ·rename_i hk1 hd
   exact ⟨_,[_,_],[],by omega,⟨k+1,rfl,rfl,rfl,by omega⟩,by rw [pP hk1,if_neg (by rw [hd];simp),if_pos h,List.map_append];try rfl,trivial⟩
  ·rename_i hk1 hd
   exact ⟨_,[_,_],[],by omega,⟨k+1,rfl,rfl,rfl,by omega⟩,by rw [pP hk1,if_neg (by rw [hd];simp),if_neg (by omega),List.append_nil];try rfl,trivial⟩
  ·rw [List.take_of_length_le (by omega)]
instance Ts(l:List ag):vS lim Tryz.prog 129 [.sl false 19 (l.map (ak false))] (.sl false 19 ((dk l).map (ak false))) (bE l<=1048576) :=
 ⟨(aM 129),fun c=>by
  have:=((nW (SizeOf.sizeOf l+1) l).pure ⟨Nat.lt_succ_self _,c⟩).frz
  simpa only [AV.frz,AV.bZ,aI,cond_true] using this⟩
end
section
attribute [local go_sem] ba aI cU cT
theorem Rh{l:List ag}{k:Nat}(h:k<l.length)(e:¬ idx (nmP (at_ l k).ae) l=k)(kind:Int)(fr:Bool)(p:Nat):kT l kind fr p=false:=by
 rw [kT,JK h e];try rfl
theorem Rj{l:List ag}{k:Nat}(h:k<(dk l).length)(e:¬ idx (nmP (at_ (dk l) k).ae) (dk l)=k)(kind:Int)(fr:Bool)(p:Nat):kT l kind fr p=false:=by
 rw [kT,JK h e];simp
theorem AO{l:List ag}{k:Nat}{kind:Int}{fr:Bool}{p:Nat}(h:kS (l.drop k) kind fr p=false)(e:kS (l.drop k) kind fr p=kS l kind fr p):kT l kind fr p=false:=by
 rw [kT,<- e,h];simp
theorem Gz{l:List ag}(h:∀ k<l.length,idx (nmP (at_ l k).ae) l=k):cn (nmS l)=true:=by
 have:∀ n,n<=l.length->cO (fun j=>!cont ((nmS l).take j) (at_ (nmS l) j)) n=true:=by
  intro n
  induction n with
  | zero=>intro _;rfl
  | succ n ih =>
   intro hn
   exact dA (ih (by omega)) (by rw [(Gy (by omega)).1 (h n (by omega))];try rfl)
 rw [cn,nmS,List.length_map,<- nmS]
 exact this _ (Nat.le_refl _)
theorem Ri{l:List ag}{kind:Int}{fr:Bool}{p:Nat}(h1:∀ k<l.length,idx (nmP (at_ l k).ae) l=k)(h2:∀ k<(dk l).length,idx (nmP (at_ (dk l) k).ae) (dk l)=k)(h3:kS l kind fr p=true):kT l kind fr p=(decide (p<=8) || l.isEmpty):=by
 rw [kT,Gz h1,Gz h2,h3];simp
theorem DK{P:Nat->Prop}{k:Nat}(h:∀ j<k,P j)(e:P k):∀ j<k+1,P j:=fun j hj=>by
 rcases Nat.lt_or_ge j k with q|q
 ·exact h j q
 ·rw [show j=k by omega];exact e
theorem Gm:∀ (n:Nat) (l:List ag) (kind:Int) (fr:Bool) (p:Nat),Ctr lim Tryz.prog 163 [] [.sl false 19 (l.map (ak false)),.v (.int .i64 kind),.v (.bool fr),.v (.int .i64 p)] (.v (.bool (kT l kind fr p))) [] (SizeOf.sizeOf l<n/\wtS l<=1048576/\p+ep l<=2097152)
 | 0,l,_,_,_=>⟨(aM 163),fun h=>absurd h.1 (Nat.not_lt_zero _)⟩
 | n+1,l,kind,fr,p=>by
  have ih:=Gm n
  refine Ctr.bd Tryz.func163 Tryz.ntmps163 rfl rfl fun hp=>?_
  have gOn:=bA.on
  obtain ⟨hs,hb,hq⟩:=hp
  have hc:=gM l
  have hdl:=nu l
  refine AW.fact 0 fun hf=>?_
  simp (disch:=omega) only [go_sem] at hf
  (refine vU ?_;with_reducible repeat' first|exact Le.l|apply Sw|intro h)
  refine AW.aA [10] [0,1,2,3,9] (fun m xs o=>∃ k:Nat,xs=[.v (.int .i64 k)]/\o=[]/\m=l.length - k/\k<=l.length/\(∀ j<k,idx (nmP (at_ l j).ae) l=j)/\kS (l.drop k) kind fr p=kS l kind fr p) l.length [] trivial ⟨0,?_,rfl,rfl,?_,?_,rfl⟩ ?_
  ·rfl
  ·omega
  ·intro j hj;omega
  rintro m xs o ⟨k,rfl,rfl,rfl,hk,hW,hR⟩
  have hi:=ou (nmP (at_ l k).ae) l
  have hj:=gJ (p:=nmP (at_ l k).ae) l
  refine vO ?_;intros;refine AW.c (fun h=>?_) fun h=>?_
  ·have hw:=Ac (at_mem h)
   have hsz:=ag.cd (at_mem h)
   have hS:=TK h kind fr p
   have hdp:=yE (at_mem h)
   (refine vU ?_;with_reducible repeat' first|exact Le.l|apply Sw|intro h)
   ·simp only [jv] at h
    simp only [bne,iX] at h
    rcases h with ((h|h)|h)|h
    ·rw [Rh (by assumption) h]
    ·rw [AO (k:=k) (by rw [hS];grind) hR]
    ·rw [AO (k:=k) (by rw [hS,h];simp) hR]
    ·rw [AO (k:=k) (by rw [hS,h];simp) hR]
   ·simp only [jv] at h
    simp only [bne,iX] at h
    refine ⟨_,[_],[],by omega,⟨k+1,rfl,rfl,rfl,by omega,DK hW h.1.1.1,?_⟩,rfl,trivial⟩
    rw [<- hR,hS];grind
  ·(refine vU ?_;with_reducible repeat' first|exact Le.l|apply Sw|intro h)
   refine AW.aA [12] [0,3,9] (fun m xs o=>∃ k:Nat,xs=[.v (.int .i64 k)]/\o=[]/\m=(dk l).length - k/\k<=(dk l).length/\(∀ j<k,idx (nmP (at_ (dk l) j).ae) (dk l)=j)) (dk l).length [] trivial ⟨0,?_,rfl,rfl,?_,?_⟩ ?_
   ·rfl
   ·omega
   ·intro j hj;omega
   rintro m xs o ⟨i,rfl,rfl,rfl,hi,hV⟩
   (refine vU ?_;with_reducible repeat' first|exact Le.l|apply Sw|intro h)
   ·rw [Rj (by assumption) h]
   ·exact ⟨_,[_],[],by omega,⟨i+1,rfl,rfl,rfl,by omega,DK hV h⟩,rfl,trivial⟩
   ·rw [Ri (fun j hj=>hW j (by omega)) (fun j hj=>hV j (by omega)) (by rw [<- hR,dh (by assumption),kS]),jv,show decide ((p:Int)<=8)=decide (p<=8) from decide_eq_decide.2 (by omega)]
end
section
instance Ye(l:List ag)(kind:Int)(bd:Bool):Ctr lim Tryz.prog 171 [] [.sl false 19 (l.map (ak false)),.v (.int .i64 kind),.v (.bool bd)] (.v (.bool (kR l kind bd))) [] (wtS l<=1048576):=⟨(aM 171),fun h=>(G4 (SizeOf.sizeOf l+1) l kind bd).out ⟨Nat.lt_succ_self _,h⟩⟩
instance XO(l:List ag)(kind:Int)(fr:Bool):Ctr lim Tryz.prog 163 [] [.sl false 19 (l.map (ak false)),.v (.int .i64 kind),.v (.bool fr),.v (.int .i64 1)] (.v (.bool (kT l kind fr 1))) [] (wtS l<=1048576):=⟨(aM 163),fun h=>(Gm (SizeOf.sizeOf l+1) l kind fr 1).out ⟨Nat.lt_succ_self _,h,by have:=wJ l;omega⟩⟩
instance SR(l:List ag):Ctr lim Tryz.prog 131 [] [.sl false 19 (l.map (ak false))] (.v (.bool (lf l))) [] (wtS l<=1048576):=by
 refine Ctr.bd Tryz.func131 Tryz.ntmps131 rfl rfl fun hp=>?_
 have gOn:=bA.on
 have h1:=gM l
 have h2:=wJ l
 (refine vU ?_;with_reducible repeat' first|exact Le.l|apply Sw|intro h)
 refine congrArg (fun b=>AV.v (.bool b)) ?_
 rw [lf,show decide ((bE l:Int)<=60)=decide (bE l<=60) from decide_eq_decide.2 (by omega),show decide ((ep l:Int)<=8)=decide (ep l<=8) from decide_eq_decide.2 (by omega)]
instance SC(l:List ag):Ctr lim Tryz.prog 126 [] [.sl false 19 (l.map (ak false))] (.v (.bool (lf l))) [] (wtS l<=1048576):=by
 refine Ctr.bd Tryz.func126 Tryz.ntmps126 rfl rfl fun hp=>?_
 have gOn:=bA.on
 have h1:=gM l
 (refine vU ?_;with_reducible repeat' first|exact Le.l|apply Sw|intro h)
 rw [CC]
end
section
attribute [-instance] cz
attribute [local go_sem] ba aI aS cU cT dy fZ gH
theorem KF(n:Nat)(ih:∀ (s:List ag) (l:List ah),Ctr lim Tryz.prog 133 [] [.sl false 19 (s.map (ak false)),.sl false 3 (l.map (aj false))] (.v (.bool (okL (dk s) none l))) [] (SizeOf.sizeOf l<n/\wtS s<=1048576/\wt l<=1048576))(c:ag)(x:ah):Ctr lim Tryz.prog 172 [] [.agg (cSc c),.agg (cNo x)] (.v (.bool (okN c x))) [] (di c.ai=true/\SizeOf.sizeOf x.af<n/\wtS c.af<=1048576/\wt x.af<=1048576/\x.av.length<=1048576):=by
 refine Ctr.bd Tryz.func172 Tryz.ntmps172 rfl rfl fun hp=>?_
 have gOn:=bA.on
 obtain ⟨h1,h2,h3,h4,h5⟩:=hp
 (refine vU ?_;with_reducible repeat' first|exact Le.l|apply Sw|intro h)
 all_goals refine congrArg (fun b=>AV.v (.bool b)) ?_
 ·rw [okN,if_pos (by omega),jv]
 ·rw [okN,if_pos (by omega),jv]
 ·rw [okN,if_neg (by omega),if_neg (by omega),qi,py,kK,Bool.and_right_comm]
 ·have:c.ai=2:=by rw [di] at h1;simp at h1;omega
  rw [okN,if_neg (by omega),if_pos this,kK]
theorem Ew:∀ (n:Nat) (s:List ag) (l:List ah),Ctr lim Tryz.prog 133 [] [.sl false 19 (s.map (ak false)),.sl false 3 (l.map (aj false))] (.v (.bool (okL (dk s) none l))) [] (SizeOf.sizeOf l<n/\wtS s<=1048576/\wt l<=1048576)
 | 0,_,l=>⟨(aM 133),fun h=>absurd h.1 (Nat.not_lt_zero _)⟩
 | n+1,s,l=>by
  have ih:=KF n (Ew n)
  refine Ctr.bd Tryz.func133 Tryz.ntmps133 rfl rfl fun hp=>?_
  have gOn:=bA.on
  obtain ⟨hs,hb,hv⟩:=hp
  have hc:=gM s
  refine AW.fact 1 fun hf=>?_
  simp (disch:=omega) only [go_sem] at hf
  (refine vU ?_;with_reducible repeat' first|exact Le.l|apply Sw|intro h)
  refine AW.aA [7,18] [1,5,6,16,17] (fun m xs o=>∃ k:Nat,xs=[.v (.int .i64 (iB (dk s) l k)),.v (.int .i64 k)]/\o=[]/\m=l.length - k/\k<=l.length/\okL (dk s) (prv l k) (l.drop k)=okL (dk s) none l) l.length [] trivial ⟨0,?_,rfl,rfl,?_,rfl⟩ ?_
  ·rfl
  ·omega
  rintro m xs o ⟨k,rfl,rfl,rfl,hk,hR⟩
  refine vO ?_;intros;refine AW.c (fun h=>?_) fun h=>?_
  ·have hw:=og (l:=l) h
   have hsz:=ah.cd (at_mem h)
   have hkx:=fun hq=>wI _ _ (fK (p:=nmP (at_ l k).ae) (l:=dk s) hq).2.2
   have hkv:=fun hq=>nr _ _ (fK (p:=nmP (at_ l k).ae) (l:=dk s) hq).2.2
   have hkz:=gJ (p:=nmP (at_ l k).ae) (dk s)
   have hl1:=Mn (d:=dk s) (l:=l) (k:=k)
   have hl2:=Mm (d:=dk s) (l:=l) (k:=k)
   have hl0:k=0->iB (dk s) l k = -1:=fun e=>by subst e;rfl
   (refine vU ?_;with_reducible repeat' first|exact Le.l|apply Sw|intro h)
   ·rw [<- hR,O8 (by assumption) h]
   ·rw [<- hR,L5 (by assumption) (by omega) h]
   ·exact ⟨_,[_,_],[],by omega,⟨k+1,rfl,rfl,rfl,by omega,by rw [<- hR,L3 (by assumption) (by omega) (by omega) h.1 h.2]⟩,rfl,by simp (maxSteps:=2000000) (disch:=omega) only [go_sem]⟩
  ·(refine vU ?_;with_reducible repeat' first|exact Le.l|apply Sw|intro h)
   rw [<- hR,dh h,okL]
end
section
attribute [local go_sem] ba aI aS cU cT dy
instance SE(l:List ag):Ctr lim Tryz.prog 129 [] [.sl false 19 (l.map (ak false))] (.sl false 19 ((dk l).map (ak false))) [] (bE l<=1048576) :=
 Ctr.lJ (aM 129) fun c=>by
  have:=((nW (SizeOf.sizeOf l+1) l).pure ⟨Nat.lt_succ_self _,c⟩).frz
  simpa only [AV.frz,AV.bZ,aI,cond_true] using this
theorem OM(n:Nat)(ih:∀ (d:List ag) (l:List ah),Ctr lim Tryz.prog 128 [] [.sl false 19 (d.map (ak false)),.sl false 3 (l.map (aj false))] (.v (.bool (okL d none l))) [] (SizeOf.sizeOf l<n/\(∀ y∈d,wtS y.af<=1048576)/\wt l<=1048576))(c:ag)(x:ah):Ctr lim Tryz.prog 164 [] [.agg (cSc c),.agg (cNo x)] (.v (.bool (okN c x))) [] (SizeOf.sizeOf x.af<n/\wtS c.af<=1048576/\wt x.af<=1048576/\x.av.length<=1048576):=by
 refine Ctr.bd Tryz.func164 Tryz.ntmps164 rfl rfl fun hp=>?_
 have gOn:=bA.on
 obtain ⟨h2,h3,h4,h5⟩:=hp
 have hc:=gM c.af
 have hd:∀ y∈dk c.af,wtS y.af<=1048576:=fun y hy=>by have:=nr _ y hy;omega
 cases hk:kyB c x
 ·haveI:=QC c x
  (refine vU ?_;with_reducible repeat' first|exact Le.l|apply Sw|intro h)
  all_goals try refine congrArg (fun b=>AV.v (.bool b)) ?_
  ·rw [okN,if_pos (by omega),jv]
  ·rw [okN,if_pos (by omega),jv]
  ·rw [okN,if_neg (by omega),if_pos h,hk];try rfl
  ·exact hd _ h
  ·rw [okN,if_neg (by omega),if_neg (by omega),qi,py,kK]
 ·haveI:=Jx c x
  (refine vU ?_;with_reducible repeat' first|exact Le.l|apply Sw|intro h)
  all_goals try refine congrArg (fun b=>AV.v (.bool b)) ?_
  ·rw [okN,if_pos (by omega),jv]
  ·rw [okN,if_pos (by omega),jv]
  ·exact hd _ h
  ·rw [okN,if_neg (by omega),if_pos h,hk,kK];try rfl
  ·exact hd _ h
  ·rw [okN,if_neg (by omega),if_neg (by omega),qi,py,kK]
theorem Dw:∀ (n:Nat) (d:List ag) (l:List ah),Ctr lim Tryz.prog 128 [] [.sl false 19 (d.map (ak false)),.sl false 3 (l.map (aj false))] (.v (.bool (okL d none l))) [] (SizeOf.sizeOf l<n/\(∀ y∈d,wtS y.af<=1048576)/\wt l<=1048576)
 | 0,_,l=>⟨(aM 128),fun h=>absurd h.1 (Nat.not_lt_zero _)⟩
 | n+1,d,l=>by
  have ih:=OM n (Dw n)
  refine Ctr.bd Tryz.func128 Tryz.ntmps128 rfl rfl fun hp=>?_
  have gOn:=bA.on
  obtain ⟨hs,hb,hv⟩:=hp
  refine AW.fact 1 fun hf=>?_
  simp (disch:=omega) only [go_sem] at hf
  (refine vU ?_;with_reducible repeat' first|exact Le.l|apply Sw|intro h)
  refine AW.aA [5] [0,1] (fun m xs o=>∃ k:Nat,xs=[.v (.int .i64 k)]/\o=[]/\m=l.length - k/\k<=l.length/\(∀ j<k,okX d (at_ l j))/\okL d (prv l k) (l.drop k)=okL d none l) l.length [] trivial ⟨0,?_,rfl,rfl,?_,?_,rfl⟩ ?_
  ·rfl
  ·omega
  ·intro j hj;omega
  rintro m xs o ⟨k,rfl,rfl,rfl,hk,hW,hR⟩
  refine vO ?_;intros;refine AW.c (fun h=>?_) fun h=>?_
  ·have hw:=og (l:=l) h
   have hkx:=fun hq=>hb _ (fK (p:=nmP (at_ l k).ae) (l:=d) hq).2.2
   have hky:=fun hq=>(fK (p:=nmP (at_ l k).ae) (l:=d) hq).1
   have hsz:=ah.cd (at_mem h)
   (refine vU ?_;with_reducible repeat' first|exact Le.l|apply Sw|intro h)
   ·exact (hW _ (by omega)).1
   ·exact kE (hW _ (by omega)).2
   ·rw [h];exact kE (by grind)
   ·rw [<- hR]
    rcases h with (h|h)|⟨h1,h2⟩
    ·rw [Q0 (by assumption) h]
    ·rw [O7 (by assumption) h]
    ·rw [O6 (by assumption) (by omega) (by rw [<- h2];congr 2;omega)]
   ·obtain ⟨⟨h1,h2⟩,h3⟩:=h
    refine ⟨_,[_],[],by omega,⟨k+1,rfl,rfl,rfl,by omega,fun j hj=>?_,?_⟩,rfl,trivial⟩
    ·rcases Nat.lt_or_ge j k with q|q
     ·exact hW j q
     ·rw [show j=k by omega];exact ⟨h1,h2⟩
    ·rw [<- hR,LZ (by assumption) h1 h2 fun q=>by rw [<- h3 (by omega)];congr 2;omega]
  ·(refine vU ?_;with_reducible repeat' first|exact Le.l|apply Sw|intro h)
   rw [<- hR,dh h,okL]
end
section
attribute [local go_sem] ba aI
instance Ws(s:List ag)(l:List ah):Ctr lim Tryz.prog 133 [] [.sl false 19 (s.map (ak false)),.sl false 3 (l.map (aj false))] (.v (.bool (okL (dk s) none l))) [] (wtS s<=1048576/\wt l<=1048576):=⟨(aM 133),fun h=>(Ew (SizeOf.sizeOf l+1) s l).out ⟨Nat.lt_succ_self _,h⟩⟩
instance VS(d:List ag)(l:List ah):Ctr lim Tryz.prog 128 [] [.sl false 19 (d.map (ak false)),.sl false 3 (l.map (aj false))] (.v (.bool (okL d none l))) [] ((∀ y∈d,wtS y.af<=1048576)/\wt l<=1048576):=⟨(aM 128),fun h=>(Dw (SizeOf.sizeOf l+1) d l).out ⟨Nat.lt_succ_self _,h⟩⟩
instance Vd(s:List ag)(l:List ah):Ctr lim Tryz.prog 84 [] [.sl false 19 (s.map (ak false)),.sl false 3 (l.map (aj false))] (.v (.bool (bp s l))) [] (wtS s<=1048576/\wt l<=1048576):=by
 refine Ctr.bd Tryz.func84 Tryz.ntmps84 rfl rfl fun hp=>?_
 have gOn:=bA.on
 obtain ⟨h1,h2⟩:=hp
 (refine vU ?_;with_reducible repeat' first|exact Le.l|apply Sw|intro h)
 refine congrArg (fun b=>AV.v (.bool b)) ?_
 rw [bp,show decide ((cnt l:Int)<=120)=decide (cnt l<=120) from decide_eq_decide.2 (by omega)]
instance UX(s:List ag)(l:List ah):Ctr lim Tryz.prog 81 [] [.sl false 19 (s.map (ak false)),.sl false 3 (l.map (aj false))] (.v (.bool (bp s l))) [] (wtS s<=1048576/\wt l<=1048576):=by
 refine Ctr.bd Tryz.func81 Tryz.ntmps81 rfl rfl fun hp=>?_
 have gOn:=bA.on
 obtain ⟨h1,h2⟩:=hp
 have hc:=gM s
 have hd:∀ y∈dk s,wtS y.af<=1048576:=fun y hy=>by have:=nr _ y hy;omega
 have e1:decide (0<=fe l (120 - l.length))=decide (cnt l<=120):=by
  apply decide_eq_decide.2
  unfold cnt
  rcases Int.lt_or_le (120 - (l.length:Int)) 0 with h|h
  ·rw [mr l h];omega
  ·have:=(wq l _ h).1;omega
 (refine vU ?_;with_reducible repeat' first|exact Le.l|apply Sw|intro h)
 ·exact hd _ h
 ·refine congrArg (fun b=>AV.v (.bool b)) ?_
  rw [bp,e1]
end
end Go.Proofs
namespace Go.Ab
section
theorem aq.Nw{L:Nat->Nat}{F:Nat->Prop}{w:World}:∀ {l:List AV} {vs:List Value} {fp:List Nat} {own:Bool} {sz:Nat} {xs:List AV},aq L F w l vs fp->.sl own sz xs∈l->xs.length<=L sz
 | [],_,_,_,_,_,_,h=>by cases h
 | x::xs,vs,fp,own,sz,ys,r,h=>by
  simp only [aq] at r
  obtain ⟨y,vs',f1,f2,_,_,hx,hxs⟩:=r
  rcases List.mem_cons.1 h with rfl|h
  ·simp only [Rep] at hx
   rcases hx with ⟨_,rfl,_⟩|⟨b,off,cap,vals,fp',_,_,h2,_⟩
   ·simp
   ·exact h2
  ·exact aq.Nw hxs h
theorem AW.kU{L:Nat->Nat}{P:Program}{c:Code}{n:Nat}{t:List (Nat×AV)}{o:List (Nat×Option (List AV))}{Q:Exit->AS->Prop}(i:Nat){l xs:List AV}{own:Bool}{sz:Nat}(hi:T t i=.agg l)(hm:.sl own sz xs∈l)(h:xs.length<=L sz->AW L P c ⟨n,t,o⟩ Q):AW L P c ⟨n,t,o⟩ Q:=by
 intro B F0 w0 a w hd
 refine h ?_ B F0 w0 a w hd
 obtain ⟨F,ow,fp,fs,h⟩:=hd
 have hr:=h.slots i
 simp only at hr
 rw [hi] at hr
 simp only [Rep] at hr
 obtain ⟨vs,_,hl⟩:=hr
 exact hl.Nw hm
end
section
theorem aq.Oh{L:Nat->Nat}{F:Nat->Prop}{w:World}{x x':AV}{xs xs':List AV}(h:∀ y fp,Rep L F w x y fp->Rep L F w x' y fp)(hs:∀ vs fp,aq L F w xs vs fp->aq L F w xs' vs fp):∀ vs fp,aq L F w (x::xs) vs fp->aq L F w (x'::xs') vs fp:=by
 intro vs fp r
 simp only [aq] at r ⊢
 obtain ⟨y,vs',f1,f2,e1,e2,hx,hxs⟩:=r
 exact ⟨y,vs',f1,f2,e1,e2,h _ _ hx,hs _ _ hxs⟩
theorem Rep.dY{L:Nat->Nat}{F:Nat->Prop}{w:World}{o:Bool}{sz:Nat}(y:Value)(fp:List Nat)(h:Rep L F w (.v (.slice none 0 0)) y fp):Rep L F w (.sl o sz []) y fp:=by
 simp only [Rep] at h ⊢
 exact .inl ⟨.inl h.1,trivial,h.2⟩
theorem Ctr.view{L:Nat->Nat}{P:Program}{f:FuncId}{args args':List AV}{res:AV}{cs:List (Option (List AV))}{pre:Prop}(h:Ctr L P f [] args res cs pre)(ha:∀ F w vs fp,aq L F w args' vs fp->aq L F w args vs fp):Ctr L P f [] args' res [] pre :=
 Ctr.lJ h.en fun hp w F vs a b r=>h.pure hp w F vs a b (ha _ _ _ _ r)
end
section
section
variable {L : Nat -> Nat} {F : Nat -> Prop} {w : World} {x x' : AV}
theorem bT.at{sz:Nat}(hx:∀ y fp,Rep L F w x y fp->Rep L F w x' y fp):∀ (l l2:List AV) (vs:List Value) (fp:List Nat),bT L F w sz (l++x::l2) vs fp->bT L F w sz (l++x'::l2) vs fp
 | [],l2,vs,fp,h=>by
  simp only [List.nil_append,bT] at h ⊢
  obtain ⟨y,vs',f1,f2,e1,e2,e3,h1,h2⟩:=h
  exact ⟨y,vs',f1,f2,e1,e2,e3,hx _ _ h1,h2⟩
 | z::l,l2,vs,fp,h=>by
  simp only [List.cons_append,bT] at h ⊢
  obtain ⟨y,vs',f1,f2,e1,e2,e3,h1,h2⟩:=h
  exact ⟨y,vs',f1,f2,e1,e2,e3,h1,bT.at hx l l2 _ _ h2⟩
theorem aq.at(hx:∀ y fp,Rep L F w x y fp->Rep L F w x' y fp):∀ (l l2:List AV) (vs:List Value) (fp:List Nat),aq L F w (l++x::l2) vs fp->aq L F w (l++x'::l2) vs fp
 | [],l2,vs,fp,h=>aq.Oh hx (fun _ _ h=>h) vs fp h
 | z::l,l2,vs,fp,h=>aq.Oh (fun _ _ h=>h) (aq.at hx l l2) vs fp h
theorem Rep.Qv{own:Bool}{sz:Nat}{l l2:List AV}(hx:∀ y fp,Rep L F w x y fp->Rep L F w x' y fp)(y:Value)(fp:List Nat)(h:Rep L F w (.sl own sz (l++x::l2)) y fp):Rep L F w (.sl own sz (l++x'::l2)) y fp:=by
 simp only [Rep] at h ⊢
 rcases h with ⟨_,h,_⟩|⟨b,off,cap,vals,fp',h1,h2,h3,h4,h5,h6⟩
 ·simp at h
 ·exact .inr ⟨b,off,cap,vals,fp',by simpa using h1,by simpa using h2,by simpa using h3,h4,bT.at hx l l2 _ _ h5,h6⟩
theorem Rep.Ol{l l2:List AV}(hx:∀ y fp,Rep L F w x y fp->Rep L F w x' y fp)(y:Value)(fp:List Nat)(h:Rep L F w (.agg (l++x::l2)) y fp):Rep L F w (.agg (l++x'::l2)) y fp:=by
 simp only [Rep] at h ⊢
 obtain ⟨vs,e,h⟩:=h
 exact ⟨vs,e,aq.at hx l l2 _ _ h⟩
end
theorem Imp.fU{L:Nat->Nat}{n:Nat}{t:List (Nat×AV)}{o:Sto}{Q:AS->Prop}(i:Nat){x x':AV}(hT:T t i=x)(hx:∀ F w y fp,Rep L F w x y fp->Rep L F w x' y fp)(h:Q ⟨n,(i,x')::t,o⟩):Imp L ⟨n,t,o⟩ Q:=by
 intro B F0 w0 a w hd
 refine ⟨_,h,?_⟩
 obtain ⟨F,own,fp,fs,hd⟩:=hd
 refine ⟨F,own,fp,fs,{ hd with slots:=fun j=>?_ }⟩
 have hj:=hd.slots j
 simp only [T] at hj ⊢
 by_cases e:i=j
 ·subst e
  simp only [beq_self_eq_true,cond_true]
  rw [hT] at hj
  exact hx _ _ _ _ hj
 ·rw [show (i == j)=false by simpa using e]
  exact hj
theorem Imp.zj{L:Nat->Nat}{n:Nat}{t:List (Nat×AV)}{o:Sto}{Q:AS->Prop}(i:Nat){own:Bool}{sz:Nat}{l:List AV}(pre post:List AV)(o':Bool)(z:Nat)(hT:T t i=.sl own sz (l++[.agg (pre++.v (.slice none 0 0)::post)]))(h:Q ⟨n,(i,.sl own sz (l++[.agg (pre++.sl o' z []::post)]))::t,o⟩):Imp L ⟨n,t,o⟩ Q :=
 Imp.fU i hT (fun _ _=>Rep.Qv (Rep.Ol Rep.dY)) h
end
end Go.Ab
namespace Go.Proofs
open Go.Ab Go.Dt
section
attribute [local go_sem] ba aI aS cU cT
theorem GZ:∀ (n:Nat) (a b:List ah),Ctr lim Tryz.prog 68 [] [.sl false 3 (a.map (aj false)),.sl false 3 (b.map (aj false))] (.v (.bool (smT a b))) [] (SizeOf.sizeOf a<n)
 | 0,a,_=>⟨(aM 68),fun h=>absurd h (Nat.not_lt_zero _)⟩
 | n+1,a,b=>by
  have ih:=GZ n
  refine Ctr.bd Tryz.func68 Tryz.ntmps68 rfl rfl fun hp=>?_
  have gOn:=bA.on
  refine AW.fact 0 fun hf=>?_
  simp (disch:=omega) only [go_sem] at hf
  refine vO ?_;intros;refine AW.c (fun h=>?_) fun h=>?_
  ·(refine vU ?_;with_reducible repeat' first|exact Le.l|apply Sw|intro h)
   rw [Gg h]
  have hle:a.length=b.length:=by omega
  clear h
  (refine vK ?_;with_reducible repeat' first|exact Le.l|apply Sw|intro h)
  refine AW.aA [13] [0,1,12] (fun m xs o=>∃ k:Nat,xs=[.v (.int .i64 k)]/\o=[]/\m=a.length - k/\k<=a.length/\smT (a.drop k) (b.drop k)=smT a b) a.length [] trivial ⟨0,?_,rfl,rfl,?_,rfl⟩ ?_
  ·rfl
  ·omega
  rintro m xs o ⟨k,rfl,rfl,rfl,hk,hR⟩
  have hkk:k<a.length->SizeOf.sizeOf (at_ a k).af<n:=fun h=>by have:=ah.cd (at_mem h);omega
  (refine vU ?_;with_reducible repeat' first|exact Le.l|apply Sw|intro h)
  ·rw [<- hR,yY (by assumption) (by omega)];grind
  ·exact ⟨_,[_],_,by omega,⟨k+1,rfl,rfl,rfl,by omega,by rw [<- hR,yY (k:=k) (by assumption) (by omega)];grind⟩,rfl,by simp (maxSteps:=2000000) (disch:=omega) only [go_sem]⟩
  ·rw [<- hR,Gh h (by omega)]
theorem Gj:∀ (n:Nat) (a b:List ah),Ctr lim Tryz.prog 100 [] [.sl false 3 (a.map (aj false)),.sl false 3 (b.map (aj false))] (.v (.bool (smT a b))) [] (SizeOf.sizeOf a<n)
 | 0,a,_=>⟨(aM 100),fun h=>absurd h (Nat.not_lt_zero _)⟩
 | n+1,a,b=>by
  have ih:=Gj n
  refine Ctr.bd Tryz.func100 Tryz.ntmps100 rfl rfl fun hp=>?_
  have gOn:=bA.on
  refine AW.fact 0 fun hf=>?_
  simp (disch:=omega) only [go_sem] at hf
  refine vO ?_;intros;refine AW.c (fun h=>?_) fun h=>?_
  ·(refine vU ?_;with_reducible repeat' first|exact Le.l|apply Sw|intro h)
   rw [Gg h]
  have hle:a.length=b.length:=by omega
  clear h
  (refine vK ?_;with_reducible repeat' first|exact Le.l|apply Sw|intro h)
  refine AW.aA [5] [0,1] (fun m xs o=>∃ k:Nat,xs=[.v (.int .i64 k)]/\o=[]/\m=a.length - k/\k<=a.length/\smT (a.drop k) (b.drop k)=smT a b) a.length [] trivial ⟨0,?_,rfl,rfl,?_,rfl⟩ ?_
  ·rfl
  ·omega
  rintro m xs o ⟨k,rfl,rfl,rfl,hk,hR⟩
  have hkk:k<a.length->SizeOf.sizeOf (at_ a k).af<n:=fun h=>by have:=ah.cd (at_mem h);omega
  (refine vU ?_;with_reducible repeat' first|exact Le.l|apply Sw|intro h)
  ·rw [<- hR,yY (by assumption) (by omega)];grind
  ·exact ⟨_,[_],_,by omega,⟨k+1,rfl,rfl,rfl,by omega,by rw [<- hR,yY (k:=k) (by assumption) (by omega)];grind⟩,rfl,by simp (maxSteps:=2000000) (disch:=omega) only [go_sem]⟩
  ·rw [<- hR,Gh h (by omega)]
end
section
attribute [local go_sem] ba aI aS cU cT
instance Ya(a b:List ah):Ctr lim Tryz.prog 68 [] [.sl false 3 (a.map (aj false)),.sl false 3 (b.map (aj false))] (.v (.bool (smT a b))) [] True:=⟨(aM 68),fun _=>(GZ (SizeOf.sizeOf a+1) a b).out (Nat.lt_succ_self _)⟩
instance XE(a b:List ah):Ctr lim Tryz.prog 100 [] [.sl false 3 (a.map (aj false)),.sl false 3 (b.map (aj false))] (.v (.bool (smT a b))) [] True:=⟨(aM 100),fun _=>(Gj (SizeOf.sizeOf a+1) a b).out (Nat.lt_succ_self _)⟩
instance YB(a b:List Str):Ctr lim Tryz.prog 181 [] [.sl false 1 (a.map AV.str),.sl false 1 (b.map AV.str)] (.v (.bool (a == b))) [] True:=by
 refine Ctr.bd Tryz.func181 Tryz.ntmps181 rfl rfl fun hp=>?_
 have gOn:=bA.on
 refine AW.fact 0 fun hf=>?_
 simp (disch:=omega) only [go_sem] at hf
 refine vO ?_;intros;refine AW.c (fun h=>?_) fun h=>?_
 ·(refine vU ?_;with_reducible repeat' first|exact Le.l|apply Sw|intro h)
  rw [show (a == b)=false by rw [beq_eq_false_iff_ne];intro e;rw [e] at h;exact h rfl]
 have hle:a.length=b.length:=by omega
 clear h
 (refine vK ?_;with_reducible repeat' first|exact Le.l|apply Sw|intro h)
 refine AW.aA [13] [0,1,12] (fun m xs o=>∃ k:Nat,xs=[.v (.int .i64 k)]/\o=[]/\m=a.length - k/\k<=a.length/\(a.drop k == b.drop k)=(a == b)) a.length [] trivial ⟨0,?_,rfl,rfl,?_,rfl⟩ ?_
 ·rfl
 ·omega
 rintro m xs o ⟨k,rfl,rfl,rfl,hk,hR⟩
 (refine vU ?_;with_reducible repeat' first|exact Le.l|apply Sw|intro h)
 ·rw [<- hR,da (by assumption),da (l:=b) (by omega)]
  have:(at_ a k == at_ b k)=false:=by simpa using h
  rw [List.cons_beq_cons,this];try rfl
 ·exact ⟨_,[_],_,by omega,⟨k+1,rfl,rfl,rfl,by omega,by rw [<- hR,da (l:=a) (k:=k) (by assumption),da (l:=b) (k:=k) (by omega),List.cons_beq_cons,h,beq_self_eq_true,Bool.true_and]⟩,rfl,by simp (maxSteps:=2000000) (disch:=omega) only [go_sem]⟩
 ·rw [<- hR,dh h,dh (by omega)];try rfl
instance TM(n:ag)(x y:ah):Ctr lim Tryz.prog 156 [] [.agg (cSc n),.agg (cNo x),.agg (cNo y)] (.v (.bool (skB n x y))) [] True:=by
 refine Ctr.bd Tryz.func156 Tryz.ntmps156 rfl rfl fun hp=>?_
 have gOn:=bA.on
 (refine vU ?_;with_reducible repeat' first|exact Le.l|apply Sw|intro h)
 ·rw [skB,show gu n.ai=false by rw [gu];simp;grind];try rfl
 ·rename_i h'
  rw [skB,show gu n.ai=true by rw [gu];simp;grind,h.1,h.2];try rfl
 ·exfalso;grind
 ·rename_i h' h2
  refine congrArg (fun b=>AV.v (.bool b)) ?_
  rw [skB,show gu n.ai=true by rw [gu];simp;grind]
  grind
instance Vj(n:ag)(l:List ah)(x:ah):Ctr lim Tryz.prog 119 [] [.agg (cSc n),.sl false 3 (l.map (aj false)),.agg (cNo x)] (.v (.int .i64 (fnd n l x))) [] True:=by
 refine Ctr.bd Tryz.func119 Tryz.ntmps119 rfl rfl fun hp=>?_
 have gOn:=bA.on
 refine AW.fact 1 fun hf=>?_
 simp (disch:=omega) only [go_sem] at hf
 (refine vK ?_;with_reducible repeat' first|exact Le.l|apply Sw|intro h)
 refine AW.aA [11] [3,5,9,10] (fun m xs o=>∃ k:Nat,xs=[.v (.int .i64 k)]/\o=[]/\m=l.length - k/\k<=l.length/\∀ y∈l.take k,fiP n x y=false) l.length [] trivial ⟨0,?_,rfl,rfl,?_,?_⟩ ?_
 ·rfl
 ·omega
 ·simp
 rintro m xs o ⟨k,rfl,rfl,rfl,hk,hR⟩
 (refine vU ?_;with_reducible repeat' first|exact Le.l|apply Sw|intro h)
 ·rw [fnd,kI (p:=fiP n x) (by assumption) hR (by rw [fiP];grind)]
 ·exact ⟨_,[_],_,by omega,⟨k+1,rfl,rfl,rfl,by omega,bJ (by assumption) hR (by rw [fiP];grind)⟩,rfl,by simp (maxSteps:=2000000) (disch:=omega) only [go_sem]⟩
 ·rw [fnd,nL h hR]
end
end Go.Proofs
namespace Go.Dt
open Go Go.Ab
section
section
variable {R : Rec} {s : List ag} {l : List ah} {e : au}
theorem JS(h:idx (nmP e.ae) (dk s)<0):one R s l e=([],2):=by rw [one,if_pos h]
theorem JQ(h1:¬ idx (nmP e.ae) (dk s)<0)(h2:¬ wrg (nd s e.ae) e=0):one R s l e=([],wrg (nd s e.ae) e):=by rw [one,if_neg h1,if_pos h2]
theorem JV(h1:¬ idx (nmP e.ae) (dk s)<0)(h2:wrg (nd s e.ae) e=0)(h3:(nd s e.ae).ai=2/\dE (nd s e.ae) e.af=false):one R s l e=([],4):=by rw [one,if_neg h1,if_neg (fun c=>c h2),if_pos h3]
section
variable (h1 : ¬ idx (nmP e.ae) (dk s) < 0) (h2 : wrg (nd s e.ae) e = 0) (h3 : ¬ ((nd s e.ae).ai = 2 /\ dE (nd s e.ae) e.af = false)) {k : Nat}
include h1 h2 h3
theorem JW(hf:fnd (nd s e.ae) l (bQ (nd s e.ae) e)=k)(ho:e.fOp=3):one R s l e=([],5):=by
 rw [one,if_neg h1,if_neg (fun c=>c h2),if_neg h3,if_pos (by omega)]
theorem JX(hf:fnd (nd s e.ae) l (bQ (nd s e.ae) e)=k)(ho:e.fOp=1):one R s l e=mrg R l k (nd s e.ae) e:=by
 rw [one,if_neg h1,if_neg (fun c=>c h2),if_neg h3,if_neg (by omega),if_neg (by omega),if_neg (by omega),if_pos (by omega),hf];rfl
theorem O5(hf:fnd (nd s e.ae) l (bQ (nd s e.ae) e)=k)(ho:e.fOp=4\/e.fOp=5):one R s l e=(l.eraseIdx k,0):=by
 rw [one,if_neg h1,if_neg (fun c=>c h2),if_neg h3,if_neg (by omega),if_neg (by omega),if_neg (by omega),if_neg (by omega),if_pos ho,dl,if_pos (by omega),hf];rfl
theorem QZ(hf:fnd (nd s e.ae) l (bQ (nd s e.ae) e)=k)(ho:e.fOp=2):one R s l e=crt R s (l.eraseIdx k) (nd s e.ae) e:=by
 rw [one,if_neg h1,if_neg (fun c=>c h2),if_neg h3,if_neg (by omega),if_neg (by omega),if_neg (by omega),if_neg (by omega),if_neg (by omega),dl,if_pos (by omega),hf];rfl
theorem JU(hf:fnd (nd s e.ae) l (bQ (nd s e.ae) e)<0)(ho:e.fOp=4):one R s l e=([],6):=by
 rw [one,if_neg h1,if_neg (fun c=>c h2),if_neg h3,if_neg (by omega),if_pos (by omega)]
theorem JT(hf:fnd (nd s e.ae) l (bQ (nd s e.ae) e)<0)(ho:e.fOp=5):one R s l e=(l,0):=by
 rw [one,if_neg h1,if_neg (fun c=>c h2),if_neg h3,if_neg (by omega),if_neg (by omega),if_pos (by omega)]
theorem NA(hf:fnd (nd s e.ae) l (bQ (nd s e.ae) e)<0)(h4:¬ e.fOp=4)(h5:¬ e.fOp=5):one R s l e=crt R s l (nd s e.ae) e:=by
 rw [one,if_neg h1,if_neg (fun c=>c h2),if_neg h3,if_neg (by omega),if_neg (by omega),if_neg (by omega),if_neg (by omega),if_neg (by omega),dl,if_neg (by omega)]
end
end
theorem Ef(l:List au):l.length<=cY l:=by
 induction l with
 | nil=>simp
 | cons x xs ih=>rw [gN,List.length_cons];omega
theorem D3{es:List au}{s:List ag}{l:List ah}{k:Nat}(h:k<es.length):mdE (es.drop k) s l=if ¬ (one (mdE (at_ es k).af) s l (at_ es k)).2=0 then ([],(one (mdE (at_ es k).af) s l (at_ es k)).2) else mdE (es.drop (k+1)) s (one (mdE (at_ es k).af) s l (at_ es k)).1:=by rw [da h,sS]
theorem Cj{es:List au}{k:Nat}(h:k<es.length):cY (es.drop k)=1+cY (at_ es k).af+cY (es.drop (k+1)):=by rw [da h,gN]
theorem Hb{l:List au}{x:au}(h:x∈l):SizeOf.sizeOf x.af<SizeOf.sizeOf l:=by
 have:=List.sizeOf_lt_of_mem h
 cases x;simp [au.af] at *;omega
end
section
theorem K9{l:List ah}{k:Nat}(h:k<l.length):1+cnt (at_ l k).af<=cnt l:=by
 have:=nz h
 have e:cnt l=cnt (l.take k++at_ l k::l.drop (k+1)):=by rw [<- this]
 rw [wK] at e;omega
theorem yn:∀ (l:List ah) (q:Int),-4611686018427387904<=q->cnt l<=4194304->-4611686018427387904<=fe l q
 | [],q,h,_=>by simpa [fe] using h
 | .mk n v ks::xs,q,h,hc=>by
  rw [gY] at hc
  simp only [ah.af] at hc
  have hl:ks.length<=cnt ks:=by unfold cnt;omega
  simp only [fe]
  split
  ·exact h
  ·exact yn xs _ (yn ks _ (by omega) (by omega)) (by omega)
theorem DX{s:List ag}{l:List ah}{es:List au}(h:bp s l=false):mdT s l es=(l,1):=by rw [mdT,if_pos h]
theorem D0{s:List ag}{l:List ah}{es:List au}(h:bp s l=true)(h2:¬ (mdE es s l).2=0):mdT s l es=(l,(mdE es s l).2):=by rw [mdT,if_neg (by rw [h];simp),if_pos h2]
theorem DY{s:List ag}{l:List ah}{es:List au}(h:bp s l=true)(h2:(mdE es s l).2=0)(h3:bp s (mdE es s l).1=false):mdT s l es=(l,8):=by rw [mdT,if_neg (by rw [h];simp),if_neg (fun c=>c h2),if_pos h3]
theorem DZ{s:List ag}{l:List ah}{es:List au}(h:bp s l=true)(h2:(mdE es s l).2=0)(h3:bp s (mdE es s l).1=true):mdT s l es=((mdE es s l).1,0):=by rw [mdT,if_neg (by rw [h];simp),if_neg (fun c=>c h2),if_neg (by rw [h3];simp)]
theorem De{s:List ag}{l:List ah}(h:bp s l=true):gdS s:=by
 simp only [bp,Bool.and_eq_true] at h;exact pK h.1.1
end
section
theorem Ep:∀ (l:List ag) (kind:Int) (bd:Bool),kA l kind bd=true->∀ n∈dk l,cn (nmS n.af)=true
 | [],_,_,_,n,h=>by simp [dk] at h
 | .mk k a b c d e f g h i j l m nn ks::xs,kind,bd,hA,n,hn=>by
  rw [dk,List.mem_append] at hn
  rw [kA] at hA
  simp only [Bool.and_eq_true] at hA
  rcases hn with hn|hn
  ·split at hn
   ·rw [List.mem_singleton] at hn
    subst hn
    have:=hA.1.2.1
    simp only [kg,Bool.and_eq_true] at this
    exact this.1
   ·split at hn
    ·exact Ep ks _ _ hA.1.2.2 n hn
    ·simp at hn
  ·exact Ep xs _ _ hA.2 n hn
theorem RW{s:List ag}(h:gdS s){n:ag}(hn:n∈dk s):cn (nmS n.af)=true:=by
 obtain ⟨_,kind,bd,hA⟩:=h
 exact Ep s kind bd hA n hn
def KyS(n:ag):Prop:=cn (nmS n.af)=true/\n.aw.length<=3/\∀ q∈n.aw,0<=idx (ed q) n.af
theorem Rb{n:ag}(h:KyS n){q:Str}(hq:q∈n.aw):0<=idx (nmP q) n.af/\(at_ n.af (idx (nmP q) n.af).toNat).fType=kt n q:=by
 have h1:=ye h.1 q
 have h2:=h.2.2 q hq
 exact ⟨(h1.1.1 h2).1,by rw [kt,h1.2 h2]⟩
def kvS(n:ag)(q:Str)(es:List au):List Str:=(kvF q es).map fun x=>cvS (kt n q) x.av
def En(n:ag)(es:List au):List Str:=n.aw.flatMap fun q=>kvS n q es
def AL(n:ag)(es:List au):List Str:=if dE n es=true then En n es else []
theorem Ms{q:Str}{es:List au}{j:Nat}(h:j<es.length)(hn:(at_ es j).ae=q):kvF q (es.take (j+1))=kvF q (es.take j)++[at_ es j]:=by
 rw [db h,kvF,List.filter_append]
 have:edP q (at_ es j)=true:=by simpa [edP] using hn
 simp [kvF,this]
theorem Mt{q:Str}{es:List au}{j:Nat}(h:j<es.length)(hn:¬ (at_ es j).ae=q):kvF q (es.take (j+1))=kvF q (es.take j):=by
 rw [db h,kvF,List.filter_append]
 have:edP q (at_ es j)=false:=by simpa [edP] using hn
 simp [kvF,this]
theorem Py(q:Str)(es:List au)(j:Nat):(kvF q (es.take j)).length<=j:=by
 have:=List.length_filter_le (edP q) (es.take j)
 rw [List.length_take] at this
 unfold kvF;omega
theorem GQ(n:ag)(q:Str)(es:List au):(kvS n q es).length=(kvF q es).length:=by rw [kvS,List.length_map]
theorem Kf(n:ag)(es:List au):∀ (Ks:List Str) (k:Nat),((Ks.take k).flatMap (fun q=>kvS n q es)).length<=k * es.length
 | [],k=>by simp
 | q::Ks,0=>by simp
 | q::Ks,k+1=>by
  rw [List.take_succ_cons,List.flatMap_cons,List.length_append,Nat.add_mul]
  have h1:=Kf n es Ks k
  have h2:(kvS n q es).length<=es.length:=by rw [GQ];exact List.length_filter_le _ _
  omega
theorem GS{n:ag}{es:List au}{k:Nat}(hk:k<n.aw.length)(h:(decide ((kvF (at_ n.aw k) es).length=1) && (kvF (at_ n.aw k) es).all (kvG n (at_ n.aw k)))=false):dE n es=false:=iL hk h
theorem Rd{n:ag}{q:Str}{es:List au}{j:Nat}(h:j<es.length)(hn:(at_ es j).ae=q)(hg:kvG n q (at_ es j)=false):(kvF q es).all (kvG n q)=false:=by
 rw [Bool.eq_false_iff]
 intro c
 have:at_ es j∈kvF q es:=List.mem_filter.2 ⟨at_mem h,by simpa [edP] using hn⟩
 rw [List.all_eq_true.1 c _ this] at hg;cases hg
theorem KT{α β:Type}{f:α->β}(l:List α):l.flatMap (fun x=>[f x])=l.map f:=by
 induction l with
 | nil=>rfl
 | cons x xs ih=>rw [List.flatMap_cons,ih];rfl
theorem Pz{n:ag}{e:au}(h2:n.ai=2)(h:dE n e.af=true):kyL n (bQ n e)=En n e.af:=by
 have hall:n.aw.all (j9 (bQ n e))=true:=List.all_eq_true.2 fun k hk=>by
  obtain ⟨e0,h3,_⟩:=sW h hk
  rw [rQ]
  show (F (if n.ai=2 then _ else []) k).isSome=true
  rw [if_pos h2,vR h3 hk];rfl
 rw [(lL h2 hall).1,En,<- KT]
 refine IP fun k hk=>?_
 obtain ⟨e0,h3,_⟩:=sW h hk
 have:=Ig (List.all_eq_true.1 hall k hk)
 have e2:F (bQ n e).af k=some (cvS (kt n k) e0.av):=by
  show F (if n.ai=2 then _ else []) k=_
  rw [if_pos h2,vR h3 hk]
 rw [e2] at this
 injection this with this
 rw [kvS,h3,<- this];rfl
theorem Mi(l:List ag):l.length<=bE l:=by
 induction l with
 | nil=>simp
 | cons x xs ih=>rw [lB,List.length_cons];omega
end
end Go.Dt
namespace Go.Proofs
open Go.Ab Go.Dt
attribute [local go_sem] ba aI cU cT dy fZ
attribute [-instance] cz
instance Yg(s:List ag)(nm:Str):Ctr lim Tryz.prog 118 [] [.sl false 19 (s.map (ak false)),.sl false 1 [.str nm]] (.tup [ak false (at_ (dk s) (idx (nmP nm) (dk s)).toNat),.v (.bool true)]) [] (0<=idx (nmP nm) (dk s)/\bE s<=1048576):=by
 refine Ctr.bd Tryz.func118 Tryz.ntmps118 rfl rfl fun hp=>?_
 have gOn:=bA.on
 obtain ⟨hi,hc⟩:=hp
 have hj:=gJ (p:=nmP nm) (dk s)
 refine AW.fact 0 fun hf=>?_
 simp (disch:=omega) only [go_sem] at hf
 (refine bU ?_;with_reducible repeat' first|exact Le.l|apply Sw|intro h)
 rename_i a b
 refine AW.aA [0,14] [1,4,5,6,12,13] (fun m xs o=>(xs=[.sl false 19 (s.map (ak false)),.v (.int .i64 0)]/\o=[(b,some cZe),(a,some cZe)]/\m=1)\/(xs=[.sl false 19 ((at_ (dk s) (idx (nmP nm) (dk s)).toNat).af.map (ak false)),.v (.int .i64 1)]/\o=[(b,some (cSc (at_ (dk s) (idx (nmP nm) (dk s)).toNat))),(a,some cZe)]/\m=0)) 1 [(b,some cZe),(a,some cZe)] gO (.inl ⟨rfl,rfl,rfl⟩) ?_
 rintro m xs o (⟨rfl,rfl,rfl⟩|⟨rfl,rfl,rfl⟩)
 ·(refine vU ?_;with_reducible repeat' first|exact Le.l|apply Sw|intro h)
  refine ⟨.str nm,fun _=>⟨by decide,rfl,rfl⟩,?_⟩
  (refine vU ?_;with_reducible repeat' first|exact Le.l|apply Sw|intro h)
  refine h _ _ ?_
  (refine vU ?_;with_reducible repeat' first|exact Le.l|apply Sw|intro h)
  exact ⟨_,_,_,Nat.zero_lt_one,.inr ⟨rfl,rfl,rfl⟩,rfl,by simp (maxSteps:=2000000) (disch:=omega) only [go_sem]⟩
 ·(refine vU ?_;with_reducible repeat' first|exact Le.l|apply Sw|intro h)
  rfl
end Go.Proofs
namespace Go.Ab
open Go.RowKit (Below)
def nrm(R:Act->World->Prop):Exit->Act->World->Prop:=fun e a w=>e=.normal/\R a w
def bP(L:Nat->Nat)(P:Program)(ops:Array Oper)(fuel:Nat)(listed:Array Bool)(s:AS)(K:AS->Prop):Prop :=
 ∀ B F0 w0 a w (R:Act->World->Prop),Den L B F0 w0 s a w->(∀ s' a' w',K s'->Den L B F0 w0 s' a' w'->R a' w')->wpAny P .any ops (nrm R) fuel listed a w
section
variable {L : Nat -> Nat} {P : Program} {ops : Array Oper} {n fuel : Nat} {listed : Array Bool} {t : List (Nat × AV)} {os : Sto} {K : AS -> Prop}
theorem bP.mi(live:List Nat)(o0:Sto)(hr:Region.ready .any ops listed=[])(ho:jS o0 os)(h:K ⟨n,eN t live,o0⟩):bP L P ops fuel listed ⟨n,t,os⟩ K :=
 fun B F0 w0 a w R hd hR=>wpAny_done hr ⟨rfl,hR _ _ _ h (hd.weaken rfl (Fx t live) fun _ _ hb=>ry ho hb)⟩ fuel
def eG(L:Nat->Nat)(P:Program)(ops:Array Oper)(n fuel:Nat)(listed:Array Bool)(t:List (Nat×AV))(os:Sto)(K:AS->Prop):List Nat->Prop
 | []=>True
 | i::rs=>(match ops[i]? with
  | some o=>(o.guard=none/\cN n o.dst=true)/\nvc L P os t o.dst o.op (fun t' os'=>bP L P ops fuel (listed.setIfInBounds i true) ⟨n,t',os'⟩ K)
  | none=>False)/\eG L P ops n fuel listed t os K rs
theorem Fv:∀ {rs:List Nat},eG L P ops n fuel listed t os K rs->∀ i,i∈rs->∃ o,ops[i]? = some o/\o.guard=none/\cN n o.dst=true/\nvc L P os t o.dst o.op (fun t' os'=>bP L P ops fuel (listed.setIfInBounds i true) ⟨n,t',os'⟩ K)
 | [],_,i,hi=>by simp at hi
 | j::rs,h,i,hi=>by
  simp only [eG] at h
  rcases List.mem_cons.1 hi with rfl|hi
  ·have h1:=h.1
   split at h1
   ·rename_i o ho
    exact ⟨o,ho,h1.1.1,h1.1.2,h1.2⟩
   ·exact h1.elim
  ·exact Fv h.2 i hi
theorem bP.step(rs:List Nat)(hr:Region.ready .any ops listed=rs)(hne:rs≠[])(h:eG L P ops n fuel listed t os K rs):bP L P ops (fuel+1) listed ⟨n,t,os⟩ K:=by
 intro B F0 w0 a w R hd hR
 refine wpAny_all hr hne fun i hi=>?_
 obtain ⟨o,ho,hg,nM,hn⟩:=Fv h i hi
 unfold wpOp
 simp only [ho]
 have hw:Region.wanted o (yielded ops a.tmps)=true:=by simp [Region.wanted,hg]
 rw [if_pos hw]
 refine .inl (BP nM hn B F0 w0 a w _ _ hd fun s' a' w' hs hd'=>?_)
 obtain ⟨hn',hK⟩:=hs
 obtain ⟨n',t',o'⟩:=s'
 simp only at hn' hK
 subst hn'
 exact hK B F0 w0 a' w' R hd' hR
def Z2(P:Program)(t:List (Nat×AV)):Op->Option (AV×Value)
 | .fieldAddr xt x k=>match ev t x,fld P xt k with
  | .ptr b o,some (off,_,m)=>bif Nat.blt 0 m then some (.ptr b (o+off),.pointer (some ⟨b,o+off,none⟩)) else none
  | _,_=>none
 | .move x=>match ev t x with
  | .v u=>some (.v u,u)
  | _=>none
 | _=>none
end
theorem AW.any{L:Nat->Nat}{P:Program}{ops:Array Oper}{n id:Nat}{t:List (Nat×AV)}{os:Sto}{Q:Exit->AS->Prop}(hm:P.follows .mixedOrders=true)
  (h:bP L P ops ops.size (Array.replicate ops.size false) ⟨n,t,os⟩ (fun s'=>Q .normal s')):AW L P (.region id ops true) ⟨n,t,os⟩ Q:=by
 intro B F0 w0 a w hd
 refine wp_mono (wp_region_any (id:=id) hm (h B F0 w0 a _ (fun a' w'=>∃ s',Q .normal s'/\Den L B F0 w0 s' a' w') hd.drew fun s' a' w' h1 h2=>⟨s',h1,h2⟩)) ?_
 rintro e a' w' ⟨rfl,h⟩
 exact h
theorem AW.yM{L:Nat->Nat}{P:Program}{ops:Array Oper}{n id:Nat}{t:List (Nat×AV)}{os:Sto}{Q:Exit->AS->Prop}(t0:List (Nat×AV))(o0:Sto)(hm:P.follows .mixedOrders=true)
  (h:∀ K:AS->Prop,K ⟨n,t0,o0⟩->bP L P ops ops.size (Array.replicate ops.size false) ⟨n,t,os⟩ K) (h2:Q .normal ⟨n,t0,o0⟩):AW L P (.region id ops true) ⟨n,t,os⟩ Q :=
 AW.any hm (h _ h2)
end Go.Ab
