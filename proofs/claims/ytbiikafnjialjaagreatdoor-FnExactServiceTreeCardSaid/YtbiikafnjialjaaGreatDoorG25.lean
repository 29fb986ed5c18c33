/- Part of a proof. -/
import Derived.Test.YtbiikafnjialjaaGreatDoorG24
import Derived.Test.YtbiikafnjialjaaGreatDoorG40
set_option linter.all false
set_option maxRecDepth 20000
set_option maxHeartbeats 4000000
namespace Go.Proofs
open Go.Ab Go.Dt
section
def plS(s:Dt.GStep):AV:=.agg [.str s.af,.v (.slice none 0 0)]
theorem LK(l:List Dt.GStep):(l.map plS).all (AV.elem 2)=true:=dx (fun _=>rfl) l
attribute [go_sem] plS LK
def W6(l:List Dt.GStep)(k:Nat):List AV:=((l.take k).map (aS true)).flatMap AV.cells++((l.drop k).map plS).flatMap AV.cells
end
section
instance R3(x:eJ):Ctr lim Tryz.prog 280 [] [.agg [.v (.bool x.cO),.v (.int .i64 x.dc),.sl false 2 (x.aK.map (aS false))]] (.agg [.v (.bool x.cO),.v (.int .i64 x.dc),.sl true 2 (x.aK.map (aS true))]) [] True:=by
 refine Ctr.bd Tryz.func280 Tryz.ntmps280 rfl rfl fun hp=>?_
 refine AW.fact 0 fun hf=>?_
 simp (disch:=omega) only [go_sem] at hf
 (refine vU ?_;with_reducible repeat' first|exact Le.l|apply Sw|intro h)
 rename_i b2 b3
 refine AW.imp (Imp.si (b:=b3) 2 [_,_] [] (eI _ _ _) ?_)
 simp (maxSteps:=2000000) (disch:=omega) only [go_sem]
 refine AW.mI [4] [1,2,3] (fun m xs o=>∃ k:Nat,xs=[.v (.int .i64 k)]/\o=[(b3,some [.v (.bool x.cO),.v (.int .i64 x.dc),.sl true 2 ((x.aK.take k).map (aS true))]),(b2,some [.v (.bool false),.v (.int .i64 0),.v (.slice none 0 0)])]/\m=x.aK.length - k/\k<=x.aK.length) x.aK.length [(b3,some [.v (.bool x.cO),.v (.int .i64 x.dc),.sl true 2 ((x.aK.take 0).map (aS true))]),(b2,some [.v (.bool false),.v (.int .i64 0),.v (.slice none 0 0)])] gO ⟨0,rfl,rfl,rfl,by omega⟩ ?_
 rintro m xs o ⟨k,rfl,rfl,rfl,hk⟩
 have hlt:(x.aK.take k).length=k:=by rw [List.length_take];omega
 refine vO ?_;intros;refine AW.c (fun h=>?_) fun h=>?_
 ·refine AW.Ri 12 rfl (x:=aS false (at_ x.aK k)) (List.mem_map_of_mem (at_mem h)) fun hfe=>?_
  simp (disch:=omega) only [go_sem] at hfe
  refine AW.imp (Imp.lV (b0:=b3) (k:=2) (sz:=2) (l:=(x.aK.take k).map (aS true)) (eI _ _ _) rfl (bO (fun _=>rfl) _) (fun b hb=>?_) (fun hnil=>?_))
  ·have hb1:=hb.nf
   simp only [go_sem] at hb1
   simp only [List.set_cons_zero,List.set_cons_succ,List.length_map]
   (refine vU ?_;with_reducible repeat' first|exact Le.l|apply Sw|intro h)
   ·rw [dU (sz:=2) (bO (fun _=>rfl) _),List.length_map]
   rename_i g
   refine Imp.BG (b0:=b3) (k:=2) (b:=g) (sz:=2) (cells0:=[.v (.bool x.cO),.v (.int .i64 x.dc),.arr g 0 ((x.aK.take k).length+1) 2]) (l:=(x.aK.take k).map (aS true)) (aS true (at_ x.aK k)) gO (by rw [List.length_map];rfl) (by simp (maxSteps:=2000000) (disch:=omega) only [go_sem];rfl) (by omega) (bO (fun _=>rfl) _) rfl ?_
   simp only [List.set_cons_zero,List.set_cons_succ]
   exact ⟨trivial,_,[_],_,by omega,⟨k+1,rfl,rfl,rfl,by omega⟩,rfl,by rw [jN (by assumption),List.map_append];simp (maxSteps:=2000000) (disch:=omega) only [go_sem]⟩
  ·simp only [List.set_cons_zero,List.set_cons_succ,hnil]
   (refine vU ?_;with_reducible repeat' first|exact Le.l|apply Sw|intro h)
   have hk0:k=0:=by rw [List.map_eq_nil_iff] at hnil;rw [hnil] at hlt;exact hlt.symm
   subst hk0
   refine Imp.id ?_
   simp (maxSteps:=2000000) (disch:=omega) only [go_sem]
   exact ⟨_,[_],_,by omega,⟨1,rfl,rfl,rfl,by omega⟩,rfl,by rw [jN (by assumption)];simp (maxSteps:=2000000) (disch:=omega) only [go_sem];rfl⟩
 ·rw [show k=x.aK.length by omega,List.take_length]
  all_goals exact uU
end
end Go.Proofs
namespace Go.Proofs
open Go.Ab Go.Dt
section
theorem aO.yf{x y:aO}(h:y∈x.ag):SizeOf.sizeOf y<SizeOf.sizeOf x:=by
 have:=List.sizeOf_lt_of_mem h
 cases x;simp [aO.ag] at *;omega
theorem vM:∀ (n:Nat) (x:aO),Ctr lim Tryz.prog 235 [] [.agg [.v (.int .i64 x.fOp),.v (.int .i64 x.fo),.str x.bW,.v (.bool x.aA.cO),.v (.int .i64 x.aA.dc),.sl false 2 (x.aA.aK.map (aS false)),.sl false 7 (x.ag.map (aG false))]] (.agg [.v (.int .i64 x.fOp),.v (.int .i64 x.fo),.str x.bW,.v (.bool x.aA.cO),.v (.int .i64 x.aA.dc),.sl true 2 (x.aA.aK.map (aS true)),.sl true 7 (x.ag.map (aG true))]) [] (SizeOf.sizeOf x<n)
 | 0,x=>⟨(aW 235),fun h=>absurd h (Nat.not_lt_zero _)⟩
 | n+1,x=>by
  have ih:=vM n
  refine Ctr.bd Tryz.func235 Tryz.ntmps235 rfl rfl fun hp=>?_
  refine AW.fact 0 fun hf=>?_
  simp (disch:=omega) only [go_sem] at hf
  (refine Z ?_;refine fun (K:_->_->Prop) hK=>?_;simp (maxSteps:=2000000) (disch:=omega) only [go_sem])
  (refine vN ?_;with_reducible repeat' first|exact Le.l|apply Sw|intro h)
  first|refine AW.NI ?_|refine AW.Rs ?_
  (refine vU ?_;with_reducible repeat' first|exact Le.l|apply Sw|intro h)
  rename_i b2 b3
  refine AW.imp (Imp.si (b:=b3) 7 [_,_,_,_,_,_] [] (eI _ _ _) ?_)
  simp (maxSteps:=2000000) (disch:=omega) only [go_sem]
  refine AW.mI [4] [1,2,3] (fun m xs o=>∃ k:Nat,xs=[.v (.int .i64 k)]/\o=[(b3,some [.v (.int .i64 x.fOp),.v (.int .i64 x.fo),.str x.bW,.v (.bool x.aA.cO),.v (.int .i64 x.aA.dc),.sl true 2 (x.aA.aK.map (aS true)),.sl true 7 ((x.ag.take k).map (aG true))]),(b2,some [.v (.int .i64 0),.v (.int .i64 0),.str [],.v (.bool false),.v (.int .i64 0),.v (.slice none 0 0),.v (.slice none 0 0)])]/\m=x.ag.length - k/\k<=x.ag.length) x.ag.length [(b3,some [.v (.int .i64 x.fOp),.v (.int .i64 x.fo),.str x.bW,.v (.bool x.aA.cO),.v (.int .i64 x.aA.dc),.sl true 2 (x.aA.aK.map (aS true)),.sl true 7 ((x.ag.take 0).map (aG true))]),(b2,some [.v (.int .i64 0),.v (.int .i64 0),.str [],.v (.bool false),.v (.int .i64 0),.v (.slice none 0 0),.v (.slice none 0 0)])] gO ⟨0,rfl,rfl,rfl,by omega⟩ ?_
  rintro m xs o ⟨k,rfl,rfl,rfl,hk⟩
  have hlt:(x.ag.take k).length=k:=by rw [List.length_take];omega
  have hkk:k<x.ag.length->SizeOf.sizeOf (at_ x.ag k)<n:=fun h=>by have:=aO.yf (at_mem h);omega
  refine vO ?_;intros;refine AW.c (fun h=>?_) fun h=>?_
  ·refine AW.imp (Imp.lV (b0:=b3) (k:=6) (sz:=7) (l:=(x.ag.take k).map (aG true)) (eI _ _ _) rfl (bO (fun x=>by rw [cV];rfl) _) (fun b hb=>?_) (fun hnil=>?_))
   ·have hb1:=hb.nf
    simp only [go_sem] at hb1
    simp only [List.set_cons_zero,List.set_cons_succ,List.length_map]
    (refine vU ?_;with_reducible repeat' first|exact Le.l|apply Sw|intro h)
    ·rw [dU (sz:=7) (bO (fun x=>by rw [cV];rfl) _),List.length_map]
    rename_i g
    refine Imp.BG (b0:=b3) (k:=6) (b:=g) (sz:=7) (cells0:=[.v (.int .i64 x.fOp),.v (.int .i64 x.fo),.str x.bW,.v (.bool x.aA.cO),.v (.int .i64 x.aA.dc),.sl true 2 (x.aA.aK.map (aS true)),.arr g 0 ((x.ag.take k).length+1) 7]) (l:=(x.ag.take k).map (aG true)) (aG true (at_ x.ag k)) gO (by rw [List.length_map];rfl) (by simp (maxSteps:=2000000) (disch:=omega) only [go_sem];try rfl) (by omega) (bO (fun x=>by rw [cV];rfl) _) (by rw [cV];rfl) ?_
    simp only [List.set_cons_zero,List.set_cons_succ]
    exact ⟨trivial,_,[_],_,by omega,⟨k+1,rfl,rfl,rfl,by omega⟩,rfl,by rw [jN (by assumption),List.map_append];simp (maxSteps:=2000000) (disch:=omega) only [go_sem];try rfl⟩
   ·simp only [List.set_cons_zero,List.set_cons_succ,hnil]
    (refine vU ?_;with_reducible repeat' first|exact Le.l|apply Sw|intro h)
    have hk0:k=0:=by rw [List.map_eq_nil_iff] at hnil;rw [hnil] at hlt;exact hlt.symm
    subst hk0
    refine Imp.id ?_
    simp (maxSteps:=2000000) (disch:=omega) only [go_sem]
    exact ⟨_,[_],_,by omega,⟨1,rfl,rfl,rfl,by omega⟩,rfl,by rw [jN (by assumption)];simp (maxSteps:=2000000) (disch:=omega) only [go_sem];try rfl⟩
  ·rw [show k=x.ag.length by omega,List.take_length]
   all_goals exact uU
instance PT(x:aO):Ctr lim Tryz.prog 235 [] [.agg [.v (.int .i64 x.fOp),.v (.int .i64 x.fo),.str x.bW,.v (.bool x.aA.cO),.v (.int .i64 x.aA.dc),.sl false 2 (x.aA.aK.map (aS false)),.sl false 7 (x.ag.map (aG false))]] (.agg [.v (.int .i64 x.fOp),.v (.int .i64 x.fo),.str x.bW,.v (.bool x.aA.cO),.v (.int .i64 x.aA.dc),.sl true 2 (x.aA.aK.map (aS true)),.sl true 7 (x.ag.map (aG true))]) [] True:=⟨(aW 235),fun _=>(vM (SizeOf.sizeOf x+1) x).out (Nat.lt_succ_self _)⟩
end
section
theorem sY(n:Nat)(ih:∀ l:List ae,Ctr lim Tryz.prog 236 [] [.sl false 19 (l.map (aq false))] (.sl true 19 (l.map (aq true))) [] (SizeOf.sizeOf l<n))(x:ae):Ctr lim Tryz.prog 180 [] [.agg (cSc x)] (.agg [.v (.int .i64 x.ai),.str x.af,.v (.int .i64 x.fType.ai),.sl true 2 (x.fType.av.map (aI true)),.sl true 1 (x.fType.ay.map AV.str),.str x.fType.aN,.str x.fType.aA,.sl true 1 (x.aD.map AV.str),.sl true 1 (x.aB.map AV.str),.str x.ba,.v (.bool x.cn),.v (.bool x.cy),.v (.bool x.bw),.v (.bool x.dC),.v (.int .i64 x.gr),.v (.int .i64 x.gu),.sl true 7 (x.bq.map (aG true)),.sl true 7 (x.bR.map (aG true)),.sl true 19 (x.ag.map (aq true))]) [] (SizeOf.sizeOf x.ag<n):=by
 refine Ctr.bd Tryz.func180 Tryz.ntmps180 rfl rfl fun hp=>?_
 refine AW.fact 0 fun hf=>?_
 simp (disch:=omega) only [go_sem] at hf
 (refine vU ?_;with_reducible repeat' first|exact Le.l|apply Sw|intro h)
 rename_i b2 b3
 refine AW.imp (Imp.si (b:=b3) 7 [_,_,_,_,_,_,_,_,_,_,_,_,_,_,_,_] [_,_] (eI _ _ _) ?_)
 simp (maxSteps:=2000000) (disch:=omega) only [go_sem]
 refine AW.mI [4] [1,2,3] (fun m xs o=>∃ k:Nat,xs=[.v (.int .i64 k)]/\o=[(b3,some [.v (.int .i64 x.ai),.str x.af,.v (.int .i64 x.fType.ai),.sl true 2 (x.fType.av.map (aI true)),.sl true 1 (x.fType.ay.map AV.str),.str x.fType.aN,.str x.fType.aA,.sl true 1 (x.aD.map AV.str),.sl true 1 (x.aB.map AV.str),.str x.ba,.v (.bool x.cn),.v (.bool x.cy),.v (.bool x.bw),.v (.bool x.dC),.v (.int .i64 x.gr),.v (.int .i64 x.gu),.sl true 7 ((x.bq.take k).map (aG true)),.v (.slice none 0 0),.sl false 19 (x.ag.map (aq false))]),(b2,some cZe)]/\m=x.bq.length - k/\k<=x.bq.length) x.bq.length [(b3,some [.v (.int .i64 x.ai),.str x.af,.v (.int .i64 x.fType.ai),.sl true 2 (x.fType.av.map (aI true)),.sl true 1 (x.fType.ay.map AV.str),.str x.fType.aN,.str x.fType.aA,.sl true 1 (x.aD.map AV.str),.sl true 1 (x.aB.map AV.str),.str x.ba,.v (.bool x.cn),.v (.bool x.cy),.v (.bool x.bw),.v (.bool x.dC),.v (.int .i64 x.gr),.v (.int .i64 x.gu),.sl true 7 ((x.bq.take 0).map (aG true)),.v (.slice none 0 0),.sl false 19 (x.ag.map (aq false))]),(b2,some cZe)] gO ⟨0,rfl,rfl,rfl,by omega⟩ ?_
 rintro m xs o ⟨k,rfl,rfl,rfl,hk⟩
 have hlt:(x.bq.take k).length=k:=by rw [List.length_take];omega
 refine vO ?_;intros;refine AW.c (fun h=>?_) fun h=>?_
 ·refine AW.imp (Imp.lV (b0:=b3) (k:=16) (sz:=7) (l:=(x.bq.take k).map (aG true)) (eI _ _ _) rfl (bO (fun x=>by rw [cV];rfl) _) (fun b hb=>?_) (fun hnil=>?_))
  ·have hb1:=hb.nf
   simp only [go_sem] at hb1
   simp only [List.set_cons_zero,List.set_cons_succ,List.length_map]
   (refine vU ?_;with_reducible repeat' first|exact Le.l|apply Sw|intro h)
   ·rw [dU (sz:=7) (bO (fun x=>by rw [cV];rfl) _),List.length_map]
   rename_i g
   refine Imp.BG (b0:=b3) (k:=16) (b:=g) (sz:=7) (cells0:=[.v (.int .i64 x.ai),.str x.af,.v (.int .i64 x.fType.ai),.sl true 2 (x.fType.av.map (aI true)),.sl true 1 (x.fType.ay.map AV.str),.str x.fType.aN,.str x.fType.aA,.sl true 1 (x.aD.map AV.str),.sl true 1 (x.aB.map AV.str),.str x.ba,.v (.bool x.cn),.v (.bool x.cy),.v (.bool x.bw),.v (.bool x.dC),.v (.int .i64 x.gr),.v (.int .i64 x.gu),.arr g 0 ((x.bq.take k).length+1) 7,.v (.slice none 0 0),.sl false 19 (x.ag.map (aq false))]) (l:=(x.bq.take k).map (aG true)) (aG true (at_ x.bq k)) gO (by rw [List.length_map];rfl) (by simp (maxSteps:=2000000) (disch:=omega) only [go_sem];try rfl) (by omega) (bO (fun x=>by rw [cV];rfl) _) (by rw [cV];rfl) ?_
   simp only [List.set_cons_zero,List.set_cons_succ]
   exact ⟨trivial,_,[_],_,by omega,⟨k+1,rfl,rfl,rfl,by omega⟩,rfl,by rw [jN (by assumption),List.map_append];simp (maxSteps:=2000000) (disch:=omega) only [go_sem];try rfl⟩
  ·simp only [List.set_cons_zero,List.set_cons_succ,hnil]
   (refine vU ?_;with_reducible repeat' first|exact Le.l|apply Sw|intro h)
   have hk0:k=0:=by rw [List.map_eq_nil_iff] at hnil;rw [hnil] at hlt;exact hlt.symm
   subst hk0
   refine Imp.id ?_
   simp (maxSteps:=2000000) (disch:=omega) only [go_sem]
   exact ⟨_,[_],_,by omega,⟨1,rfl,rfl,rfl,by omega⟩,rfl,by rw [jN (by assumption)];simp (maxSteps:=2000000) (disch:=omega) only [go_sem];try rfl⟩
 ·rw [show k=x.bq.length by omega,List.take_length]
  (refine vU ?_;with_reducible repeat' first|exact Le.l|apply Sw|intro h)
  refine AW.imp (Imp.si (b:=b3) 7 [_,_,_,_,_,_,_,_,_,_,_,_,_,_,_,_,_] [_] (eI _ _ _) ?_)
  simp (maxSteps:=2000000) (disch:=omega) only [go_sem]
  refine AW.mI [5] [1,2,3] (fun m xs o=>∃ k:Nat,xs=[.v (.int .i64 k)]/\o=[(b3,some [.v (.int .i64 x.ai),.str x.af,.v (.int .i64 x.fType.ai),.sl true 2 (x.fType.av.map (aI true)),.sl true 1 (x.fType.ay.map AV.str),.str x.fType.aN,.str x.fType.aA,.sl true 1 (x.aD.map AV.str),.sl true 1 (x.aB.map AV.str),.str x.ba,.v (.bool x.cn),.v (.bool x.cy),.v (.bool x.bw),.v (.bool x.dC),.v (.int .i64 x.gr),.v (.int .i64 x.gu),.sl true 7 (x.bq.map (aG true)),.sl true 7 ((x.bR.take k).map (aG true)),.sl false 19 (x.ag.map (aq false))]),(b2,some cZe)]/\m=x.bR.length - k/\k<=x.bR.length) x.bR.length [(b3,some [.v (.int .i64 x.ai),.str x.af,.v (.int .i64 x.fType.ai),.sl true 2 (x.fType.av.map (aI true)),.sl true 1 (x.fType.ay.map AV.str),.str x.fType.aN,.str x.fType.aA,.sl true 1 (x.aD.map AV.str),.sl true 1 (x.aB.map AV.str),.str x.ba,.v (.bool x.cn),.v (.bool x.cy),.v (.bool x.bw),.v (.bool x.dC),.v (.int .i64 x.gr),.v (.int .i64 x.gu),.sl true 7 (x.bq.map (aG true)),.sl true 7 ((x.bR.take 0).map (aG true)),.sl false 19 (x.ag.map (aq false))]),(b2,some cZe)] gO ⟨0,rfl,rfl,rfl,by omega⟩ ?_
  rintro m xs o ⟨k,rfl,rfl,rfl,hk⟩
  have hlt:(x.bR.take k).length=k:=by rw [List.length_take];omega
  refine vO ?_;intros;refine AW.c (fun h=>?_) fun h=>?_
  ·refine AW.imp (Imp.lV (b0:=b3) (k:=17) (sz:=7) (l:=(x.bR.take k).map (aG true)) (eI _ _ _) rfl (bO (fun x=>by rw [cV];rfl) _) (fun b hb=>?_) (fun hnil=>?_))
   ·have hb1:=hb.nf
    simp only [go_sem] at hb1
    simp only [List.set_cons_zero,List.set_cons_succ,List.length_map]
    (refine vU ?_;with_reducible repeat' first|exact Le.l|apply Sw|intro h)
    ·rw [dU (sz:=7) (bO (fun x=>by rw [cV];rfl) _),List.length_map]
    rename_i g
    refine Imp.BG (b0:=b3) (k:=17) (b:=g) (sz:=7) (cells0:=[.v (.int .i64 x.ai),.str x.af,.v (.int .i64 x.fType.ai),.sl true 2 (x.fType.av.map (aI true)),.sl true 1 (x.fType.ay.map AV.str),.str x.fType.aN,.str x.fType.aA,.sl true 1 (x.aD.map AV.str),.sl true 1 (x.aB.map AV.str),.str x.ba,.v (.bool x.cn),.v (.bool x.cy),.v (.bool x.bw),.v (.bool x.dC),.v (.int .i64 x.gr),.v (.int .i64 x.gu),.sl true 7 (x.bq.map (aG true)),.arr g 0 ((x.bR.take k).length+1) 7,.sl false 19 (x.ag.map (aq false))]) (l:=(x.bR.take k).map (aG true)) (aG true (at_ x.bR k)) gO (by rw [List.length_map];rfl) (by simp (maxSteps:=2000000) (disch:=omega) only [go_sem];try rfl) (by omega) (bO (fun x=>by rw [cV];rfl) _) (by rw [cV];rfl) ?_
    simp only [List.set_cons_zero,List.set_cons_succ]
    exact ⟨trivial,_,[_],_,by omega,⟨k+1,rfl,rfl,rfl,by omega⟩,rfl,by rw [jN (by assumption),List.map_append];simp (maxSteps:=2000000) (disch:=omega) only [go_sem];try rfl⟩
   ·simp only [List.set_cons_zero,List.set_cons_succ,hnil]
    (refine vU ?_;with_reducible repeat' first|exact Le.l|apply Sw|intro h)
    have hk0:k=0:=by rw [List.map_eq_nil_iff] at hnil;rw [hnil] at hlt;exact hlt.symm
    subst hk0
    refine Imp.id ?_
    simp (maxSteps:=2000000) (disch:=omega) only [go_sem]
    exact ⟨_,[_],_,by omega,⟨1,rfl,rfl,rfl,by omega⟩,rfl,by rw [jN (by assumption)];simp (maxSteps:=2000000) (disch:=omega) only [go_sem];try rfl⟩
  ·rw [show k=x.bR.length by omega,List.take_length]
   all_goals exact uU
theorem qX:∀ (n:Nat) (l:List ae),Ctr lim Tryz.prog 236 [] [.sl false 19 (l.map (aq false))] (.sl true 19 (l.map (aq true))) [] (SizeOf.sizeOf l<n)
 | 0,l=>⟨(aW 236),fun h=>absurd h (Nat.not_lt_zero _)⟩
 | n+1,l=>by
  have ih:=sY n (qX n)
  refine Ctr.bd Tryz.func236 Tryz.ntmps236 rfl rfl fun hp=>?_
  refine AW.fact 0 fun hf=>?_
  simp (disch:=omega) only [go_sem] at hf
  (refine vU ?_;with_reducible repeat' first|exact Le.l|apply Sw|intro h)
  refine AW.aw [3,4] [0] (fun m xs o=>∃ k:Nat,xs=[.sl true 19 ((l.take k).map (aq true)),.v (.int .i64 k)]/\o=[]/\m=l.length - k/\k<=l.length) l.length [] trivial ⟨0,?_,rfl,rfl,?_⟩ ?_
  ·rfl
  ·omega
  rintro m xs o ⟨k,rfl,rfl,rfl,hk⟩
  have hlt:(l.take k).length=k:=by rw [List.length_take];omega
  have hkk:k<l.length->SizeOf.sizeOf (at_ l k).ag<n:=fun h=>by have:=ae.dM (at_mem h);omega
  (refine vU ?_;with_reducible repeat' first|exact Le.l|apply Sw|intro h)
  ·exact ⟨_,[_,_],[],by omega,⟨k+1,by rw [jN (by assumption),List.map_append,List.map_cons,List.map_nil,cT],rfl,rfl,by omega⟩,rfl,trivial⟩
  ·rw [show k=l.length by omega,List.take_length]
instance Na(x:ae):Ctr lim Tryz.prog 180 [] [.agg (cSc x)] (.agg [.v (.int .i64 x.ai),.str x.af,.v (.int .i64 x.fType.ai),.sl true 2 (x.fType.av.map (aI true)),.sl true 1 (x.fType.ay.map AV.str),.str x.fType.aN,.str x.fType.aA,.sl true 1 (x.aD.map AV.str),.sl true 1 (x.aB.map AV.str),.str x.ba,.v (.bool x.cn),.v (.bool x.cy),.v (.bool x.bw),.v (.bool x.dC),.v (.int .i64 x.gr),.v (.int .i64 x.gu),.sl true 7 (x.bq.map (aG true)),.sl true 7 (x.bR.map (aG true)),.sl true 19 (x.ag.map (aq true))]) [] True:=⟨(aW 180),fun _=>(sY (SizeOf.sizeOf x.ag+1) (qX _) x).out (Nat.lt_succ_self _)⟩
end
end Go.Proofs
