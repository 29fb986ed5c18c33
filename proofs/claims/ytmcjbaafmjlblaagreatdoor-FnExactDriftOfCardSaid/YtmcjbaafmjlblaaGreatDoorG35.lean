/-
  Part of a proof: Cp4, Cp5, Sc6.
-/
import Derived.Test.YtmcjbaafmjlblaaGreatDoorG13
import Derived.Test.YtmcjbaafmjlblaaGreatDoorG26
import Derived.Test.YtmcjbaafmjlblaaGreatDoorG34
set_option linter.unusedSimpArgs false
set_option linter.unusedVariables false
namespace Go.Proofs.YtmcjbaafmjlblaaGreatDoor
open Go.Ab Go.Dt
set_option maxRecDepth 20000
set_option maxHeartbeats 4000000
theorem GExpr.kid_lt{x y:GExpr}(h:y∈x.fKids):SizeOf.sizeOf y<SizeOf.sizeOf x:=by
 have:=List.sizeOf_lt_of_mem h
 cases x;simp [GExpr.fKids] at *;omega
theorem sCopyExpr_n:∀ (n:Nat) (x:GExpr),Ctr lim Tryz.prog 194 [] [.agg [.v (.int .i64 x.fOp),.v (.int .i64 x.fNum),.str x.fText,.v (.bool x.fPath.fRoot),.v (.int .i64 x.fPath.fUps),.sl false 2 (x.fPath.fSteps.map (encStep false)),.sl false 7 (x.fKids.map (encExpr false))]] (.agg [.v (.int .i64 x.fOp),.v (.int .i64 x.fNum),.str x.fText,.v (.bool x.fPath.fRoot),.v (.int .i64 x.fPath.fUps),.sl true 2 (x.fPath.fSteps.map (encStep true)),.sl true 7 (x.fKids.map (encExpr true))]) [] (SizeOf.sizeOf x<n)
 | 0,x=>⟨en194,fun h=>absurd h (Nat.not_lt_zero _)⟩
 | n+1,x=>by
  have ih:=sCopyExpr_n n
  refine Ctr.of_body en194 Tryz.func194 rfl rfl fun hp=>(?_);rw [Tryz.ntmps194]
  refine AW.fact 0 fun hf=>?_
  simp (disch:=omega) only [go_sem] at hf
  (refine Z ?_;refine fun (K:_→_→Prop) hK=>?_;simp (maxSteps:=2000000) (disch:=omega) only [go_sem])
  (refine vN ?_;with_reducible repeat' first|exact Le.l|refine Sw ?_ ?_|intro h)
  first|refine AW.sdrwnA ?_|refine AW.drwnA ?_
  (refine vU ?_;with_reducible repeat' first|exact Le.l|refine Sw ?_ ?_|intro h)
  rename_i b2 b3
  refine AW.imp (Imp.nilOT (b:=b3) 7 [_,_,_,_,_,_] [] (O_eq _ _ _) ?_)
  simp (maxSteps:=2000000) (disch:=omega) only [go_sem]
  refine AW.loopW [4] [1,2,3] (fun m xs o=>∃ k:Nat,xs=[.v (.int .i64 k)]∧o=[(b3,some [.v (.int .i64 x.fOp),.v (.int .i64 x.fNum),.str x.fText,.v (.bool x.fPath.fRoot),.v (.int .i64 x.fPath.fUps),.sl true 2 (x.fPath.fSteps.map (encStep true)),.sl true 7 ((x.fKids.take k).map (encExpr true))]),(b2,some [.v (.int .i64 0),.v (.int .i64 0),.str [],.v (.bool false),.v (.int .i64 0),.v (.slice none 0 0),.v (.slice none 0 0)])]∧m=x.fKids.length - k∧k≤x.fKids.length) x.fKids.length [(b3,some [.v (.int .i64 x.fOp),.v (.int .i64 x.fNum),.str x.fText,.v (.bool x.fPath.fRoot),.v (.int .i64 x.fPath.fUps),.sl true 2 (x.fPath.fSteps.map (encStep true)),.sl true 7 ((x.fKids.take 0).map (encExpr true))]),(b2,some [.v (.int .i64 0),.v (.int .i64 0),.str [],.v (.bool false),.v (.int .i64 0),.v (.slice none 0 0),.v (.slice none 0 0)])] gO ⟨0,rfl,rfl,rfl,by omega⟩ ?_
  rintro m xs o ⟨k,rfl,rfl,rfl,hk⟩
  have hlt:(x.fKids.take k).length=k:=by rw [List.length_take];omega
  have hkk:k<x.fKids.length→SizeOf.sizeOf (at_ x.fKids k)<n:=fun h=>by have:=GExpr.kid_lt (at_mem h);omega
  (refine vK ?_;with_reducible repeat' first|exact Le.l|refine Sw ?_ ?_|intro h)
  (refine AW.i rfl (fun h=>?_) (fun h=>?_)<;>try simp only [hC,reduceCtorEq] at h)
  ·refine AW.imp (Imp.unfoldO2 (b0:=b3) (k:=6) (sz:=7) (l:=(x.fKids.take k).map (encExpr true)) (O_eq _ _ _) rfl (map_elem (fun x=>by rw [encExpr_eq];rfl) _) (fun b hb=>?_) (fun hnil=>?_))
   ·have hb1:=hb.nf
    simp only [go_sem] at hb1
    simp only [List.set_cons_zero,List.set_cons_succ,List.length_map]
    (refine vU ?_;with_reducible repeat' first|exact Le.l|refine Sw ?_ ?_|intro h)
    ·rw [flat_elem_len (sz:=7) (map_elem (fun x=>by rw [encExpr_eq];rfl) _),List.length_map]
    rename_i g
    refine Imp.foldA (b0:=b3) (k:=6) (b:=g) (sz:=7) (cells0:=[.v (.int .i64 x.fOp),.v (.int .i64 x.fNum),.str x.fText,.v (.bool x.fPath.fRoot),.v (.int .i64 x.fPath.fUps),.sl true 2 (x.fPath.fSteps.map (encStep true)),.arr g 0 ((x.fKids.take k).length+1) 7]) (l:=(x.fKids.take k).map (encExpr true)) (encExpr true (at_ x.fKids k)) gO (by rw [List.length_map];rfl) (by simp (maxSteps:=2000000) (disch:=omega) only [go_sem];try rfl) (by omega) (map_elem (fun x=>by rw [encExpr_eq];rfl) _) (by rw [encExpr_eq];rfl) ?_
    simp only [List.set_cons_zero,List.set_cons_succ]
    exact ⟨trivial,_,[_],_,by omega,⟨k+1,rfl,rfl,rfl,by omega⟩,rfl,by rw [take_at' (by assumption),List.map_append];simp (maxSteps:=2000000) (disch:=omega) only [go_sem];try rfl⟩
   ·simp only [List.set_cons_zero,List.set_cons_succ,hnil]
    (refine vU ?_;with_reducible repeat' first|exact Le.l|refine Sw ?_ ?_|intro h)
    have hk0:k=0:=by rw [List.map_eq_nil_iff] at hnil;rw [hnil] at hlt;exact hlt.symm
    subst hk0
    refine Imp.id ?_
    simp (maxSteps:=2000000) (disch:=omega) only [go_sem]
    exact ⟨_,[_],_,by omega,⟨1,rfl,rfl,rfl,by omega⟩,rfl,by rw [take_at' (by assumption)];simp (maxSteps:=2000000) (disch:=omega) only [go_sem];try rfl⟩
  ·rw [show k=x.fKids.length by omega,List.take_length]
   all_goals exact uU
instance sCopyExpr_i(x:GExpr):Ctr lim Tryz.prog 194 [] [.agg [.v (.int .i64 x.fOp),.v (.int .i64 x.fNum),.str x.fText,.v (.bool x.fPath.fRoot),.v (.int .i64 x.fPath.fUps),.sl false 2 (x.fPath.fSteps.map (encStep false)),.sl false 7 (x.fKids.map (encExpr false))]] (.agg [.v (.int .i64 x.fOp),.v (.int .i64 x.fNum),.str x.fText,.v (.bool x.fPath.fRoot),.v (.int .i64 x.fPath.fUps),.sl true 2 (x.fPath.fSteps.map (encStep true)),.sl true 7 (x.fKids.map (encExpr true))]) [] True:=⟨en194,fun _=>(sCopyExpr_n (SizeOf.sizeOf x+1) x).out (Nat.lt_succ_self _)⟩
end Go.Proofs.YtmcjbaafmjlblaaGreatDoor
namespace Go.Proofs.YtmcjbaafmjlblaaGreatDoor
open Go.Ab Go.Dt
set_option maxRecDepth 20000
set_option maxHeartbeats 4000000
theorem sCopySchema_n(n:Nat)(ih:∀ l:List GSchema,Ctr lim Tryz.prog 195 [] [.sl false 19 (l.map (encSchema false))] (.sl true 19 (l.map (encSchema true))) [] (SizeOf.sizeOf l<n))(x:GSchema):Ctr lim Tryz.prog 167 [] [.agg [.v (.int .i64 x.fKind),.str x.fName,.v (.int .i64 x.fType.fKind),.sl false 2 (x.fType.fRanges.map (encRange false)),.sl false 1 (x.fType.fNames.map AV.str),.str x.fType.fPattern,.str x.fType.fPath,.sl false 1 (x.fKeys.map AV.str),.sl false 1 (x.fUnique.map AV.str),.str x.fDefault,.v (.bool x.fGiven),.v (.bool x.fNeeded),.v (.bool x.fPresent),.v (.bool x.fFixed),.v (.int .i64 x.fMin),.v (.int .i64 x.fMax),.sl false 7 (x.fWhen.map (encExpr false)),.sl false 7 (x.fMust.map (encExpr false)),.sl false 19 (x.fKids.map (encSchema false))]] (.agg [.v (.int .i64 x.fKind),.str x.fName,.v (.int .i64 x.fType.fKind),.sl true 2 (x.fType.fRanges.map (encRange true)),.sl true 1 (x.fType.fNames.map AV.str),.str x.fType.fPattern,.str x.fType.fPath,.sl true 1 (x.fKeys.map AV.str),.sl true 1 (x.fUnique.map AV.str),.str x.fDefault,.v (.bool x.fGiven),.v (.bool x.fNeeded),.v (.bool x.fPresent),.v (.bool x.fFixed),.v (.int .i64 x.fMin),.v (.int .i64 x.fMax),.sl true 7 (x.fWhen.map (encExpr true)),.sl true 7 (x.fMust.map (encExpr true)),.sl true 19 (x.fKids.map (encSchema true))]) [] (SizeOf.sizeOf x.fKids<n):=by
 refine Ctr.of_body en167 Tryz.func167 rfl rfl fun hp=>(?_);rw [Tryz.ntmps167]
 refine AW.fact 0 fun hf=>?_
 simp (disch:=omega) only [go_sem] at hf
 (refine vU ?_;with_reducible repeat' first|exact Le.l|refine Sw ?_ ?_|intro h)
 rename_i b2 b3
 refine AW.imp (Imp.nilOT (b:=b3) 7 [_,_,_,_,_,_,_,_,_,_,_,_,_,_,_,_] [_,_] (O_eq _ _ _) ?_)
 simp (maxSteps:=2000000) (disch:=omega) only [go_sem]
 refine AW.loopW [4] [1,2,3] (fun m xs o=>∃ k:Nat,xs=[.v (.int .i64 k)]∧o=[(b3,some [.v (.int .i64 x.fKind),.str x.fName,.v (.int .i64 x.fType.fKind),.sl true 2 (x.fType.fRanges.map (encRange true)),.sl true 1 (x.fType.fNames.map AV.str),.str x.fType.fPattern,.str x.fType.fPath,.sl true 1 (x.fKeys.map AV.str),.sl true 1 (x.fUnique.map AV.str),.str x.fDefault,.v (.bool x.fGiven),.v (.bool x.fNeeded),.v (.bool x.fPresent),.v (.bool x.fFixed),.v (.int .i64 x.fMin),.v (.int .i64 x.fMax),.sl true 7 ((x.fWhen.take k).map (encExpr true)),.v (.slice none 0 0),.sl false 19 (x.fKids.map (encSchema false))]),(b2,some [.v (.int .i64 0),.str [],.v (.int .i64 0),.v (.slice none 0 0),.v (.slice none 0 0),.str [],.str [],.v (.slice none 0 0),.v (.slice none 0 0),.str [],.v (.bool false),.v (.bool false),.v (.bool false),.v (.bool false),.v (.int .i64 0),.v (.int .i64 0),.v (.slice none 0 0),.v (.slice none 0 0),.v (.slice none 0 0)])]∧m=x.fWhen.length - k∧k≤x.fWhen.length) x.fWhen.length [(b3,some [.v (.int .i64 x.fKind),.str x.fName,.v (.int .i64 x.fType.fKind),.sl true 2 (x.fType.fRanges.map (encRange true)),.sl true 1 (x.fType.fNames.map AV.str),.str x.fType.fPattern,.str x.fType.fPath,.sl true 1 (x.fKeys.map AV.str),.sl true 1 (x.fUnique.map AV.str),.str x.fDefault,.v (.bool x.fGiven),.v (.bool x.fNeeded),.v (.bool x.fPresent),.v (.bool x.fFixed),.v (.int .i64 x.fMin),.v (.int .i64 x.fMax),.sl true 7 ((x.fWhen.take 0).map (encExpr true)),.v (.slice none 0 0),.sl false 19 (x.fKids.map (encSchema false))]),(b2,some [.v (.int .i64 0),.str [],.v (.int .i64 0),.v (.slice none 0 0),.v (.slice none 0 0),.str [],.str [],.v (.slice none 0 0),.v (.slice none 0 0),.str [],.v (.bool false),.v (.bool false),.v (.bool false),.v (.bool false),.v (.int .i64 0),.v (.int .i64 0),.v (.slice none 0 0),.v (.slice none 0 0),.v (.slice none 0 0)])] gO ⟨0,rfl,rfl,rfl,by omega⟩ ?_
 rintro m xs o ⟨k,rfl,rfl,rfl,hk⟩
 have hlt:(x.fWhen.take k).length=k:=by rw [List.length_take];omega
 (refine vK ?_;with_reducible repeat' first|exact Le.l|refine Sw ?_ ?_|intro h)
 (refine AW.i rfl (fun h=>?_) (fun h=>?_)<;>try simp only [hC,reduceCtorEq] at h)
 ·refine AW.imp (Imp.unfoldO2 (b0:=b3) (k:=16) (sz:=7) (l:=(x.fWhen.take k).map (encExpr true)) (O_eq _ _ _) rfl (map_elem (fun x=>by rw [encExpr_eq];rfl) _) (fun b hb=>?_) (fun hnil=>?_))
  ·have hb1:=hb.nf
   simp only [go_sem] at hb1
   simp only [List.set_cons_zero,List.set_cons_succ,List.length_map]
   (refine vU ?_;with_reducible repeat' first|exact Le.l|refine Sw ?_ ?_|intro h)
   ·rw [flat_elem_len (sz:=7) (map_elem (fun x=>by rw [encExpr_eq];rfl) _),List.length_map]
   rename_i g
   refine Imp.foldA (b0:=b3) (k:=16) (b:=g) (sz:=7) (cells0:=[.v (.int .i64 x.fKind),.str x.fName,.v (.int .i64 x.fType.fKind),.sl true 2 (x.fType.fRanges.map (encRange true)),.sl true 1 (x.fType.fNames.map AV.str),.str x.fType.fPattern,.str x.fType.fPath,.sl true 1 (x.fKeys.map AV.str),.sl true 1 (x.fUnique.map AV.str),.str x.fDefault,.v (.bool x.fGiven),.v (.bool x.fNeeded),.v (.bool x.fPresent),.v (.bool x.fFixed),.v (.int .i64 x.fMin),.v (.int .i64 x.fMax),.arr g 0 ((x.fWhen.take k).length+1) 7,.v (.slice none 0 0),.sl false 19 (x.fKids.map (encSchema false))]) (l:=(x.fWhen.take k).map (encExpr true)) (encExpr true (at_ x.fWhen k)) gO (by rw [List.length_map];rfl) (by simp (maxSteps:=2000000) (disch:=omega) only [go_sem];try rfl) (by omega) (map_elem (fun x=>by rw [encExpr_eq];rfl) _) (by rw [encExpr_eq];rfl) ?_
   simp only [List.set_cons_zero,List.set_cons_succ]
   exact ⟨trivial,_,[_],_,by omega,⟨k+1,rfl,rfl,rfl,by omega⟩,rfl,by rw [take_at' (by assumption),List.map_append];simp (maxSteps:=2000000) (disch:=omega) only [go_sem];try rfl⟩
  ·simp only [List.set_cons_zero,List.set_cons_succ,hnil]
   (refine vU ?_;with_reducible repeat' first|exact Le.l|refine Sw ?_ ?_|intro h)
   have hk0:k=0:=by rw [List.map_eq_nil_iff] at hnil;rw [hnil] at hlt;exact hlt.symm
   subst hk0
   refine Imp.id ?_
   simp (maxSteps:=2000000) (disch:=omega) only [go_sem]
   exact ⟨_,[_],_,by omega,⟨1,rfl,rfl,rfl,by omega⟩,rfl,by rw [take_at' (by assumption)];simp (maxSteps:=2000000) (disch:=omega) only [go_sem];try rfl⟩
 ·rw [show k=x.fWhen.length by omega,List.take_length]
  (refine vU ?_;with_reducible repeat' first|exact Le.l|refine Sw ?_ ?_|intro h)
  refine AW.imp (Imp.nilOT (b:=b3) 7 [_,_,_,_,_,_,_,_,_,_,_,_,_,_,_,_,_] [_] (O_eq _ _ _) ?_)
  simp (maxSteps:=2000000) (disch:=omega) only [go_sem]
  refine AW.loopW [5] [1,2,3] (fun m xs o=>∃ k:Nat,xs=[.v (.int .i64 k)]∧o=[(b3,some [.v (.int .i64 x.fKind),.str x.fName,.v (.int .i64 x.fType.fKind),.sl true 2 (x.fType.fRanges.map (encRange true)),.sl true 1 (x.fType.fNames.map AV.str),.str x.fType.fPattern,.str x.fType.fPath,.sl true 1 (x.fKeys.map AV.str),.sl true 1 (x.fUnique.map AV.str),.str x.fDefault,.v (.bool x.fGiven),.v (.bool x.fNeeded),.v (.bool x.fPresent),.v (.bool x.fFixed),.v (.int .i64 x.fMin),.v (.int .i64 x.fMax),.sl true 7 (x.fWhen.map (encExpr true)),.sl true 7 ((x.fMust.take k).map (encExpr true)),.sl false 19 (x.fKids.map (encSchema false))]),(b2,some [.v (.int .i64 0),.str [],.v (.int .i64 0),.v (.slice none 0 0),.v (.slice none 0 0),.str [],.str [],.v (.slice none 0 0),.v (.slice none 0 0),.str [],.v (.bool false),.v (.bool false),.v (.bool false),.v (.bool false),.v (.int .i64 0),.v (.int .i64 0),.v (.slice none 0 0),.v (.slice none 0 0),.v (.slice none 0 0)])]∧m=x.fMust.length - k∧k≤x.fMust.length) x.fMust.length [(b3,some [.v (.int .i64 x.fKind),.str x.fName,.v (.int .i64 x.fType.fKind),.sl true 2 (x.fType.fRanges.map (encRange true)),.sl true 1 (x.fType.fNames.map AV.str),.str x.fType.fPattern,.str x.fType.fPath,.sl true 1 (x.fKeys.map AV.str),.sl true 1 (x.fUnique.map AV.str),.str x.fDefault,.v (.bool x.fGiven),.v (.bool x.fNeeded),.v (.bool x.fPresent),.v (.bool x.fFixed),.v (.int .i64 x.fMin),.v (.int .i64 x.fMax),.sl true 7 (x.fWhen.map (encExpr true)),.sl true 7 ((x.fMust.take 0).map (encExpr true)),.sl false 19 (x.fKids.map (encSchema false))]),(b2,some [.v (.int .i64 0),.str [],.v (.int .i64 0),.v (.slice none 0 0),.v (.slice none 0 0),.str [],.str [],.v (.slice none 0 0),.v (.slice none 0 0),.str [],.v (.bool false),.v (.bool false),.v (.bool false),.v (.bool false),.v (.int .i64 0),.v (.int .i64 0),.v (.slice none 0 0),.v (.slice none 0 0),.v (.slice none 0 0)])] gO ⟨0,rfl,rfl,rfl,by omega⟩ ?_
  rintro m xs o ⟨k,rfl,rfl,rfl,hk⟩
  have hlt:(x.fMust.take k).length=k:=by rw [List.length_take];omega
  (refine vK ?_;with_reducible repeat' first|exact Le.l|refine Sw ?_ ?_|intro h)
  (refine AW.i rfl (fun h=>?_) (fun h=>?_)<;>try simp only [hC,reduceCtorEq] at h)
  ·refine AW.imp (Imp.unfoldO2 (b0:=b3) (k:=17) (sz:=7) (l:=(x.fMust.take k).map (encExpr true)) (O_eq _ _ _) rfl (map_elem (fun x=>by rw [encExpr_eq];rfl) _) (fun b hb=>?_) (fun hnil=>?_))
   ·have hb1:=hb.nf
    simp only [go_sem] at hb1
    simp only [List.set_cons_zero,List.set_cons_succ,List.length_map]
    (refine vU ?_;with_reducible repeat' first|exact Le.l|refine Sw ?_ ?_|intro h)
    ·rw [flat_elem_len (sz:=7) (map_elem (fun x=>by rw [encExpr_eq];rfl) _),List.length_map]
    rename_i g
    refine Imp.foldA (b0:=b3) (k:=17) (b:=g) (sz:=7) (cells0:=[.v (.int .i64 x.fKind),.str x.fName,.v (.int .i64 x.fType.fKind),.sl true 2 (x.fType.fRanges.map (encRange true)),.sl true 1 (x.fType.fNames.map AV.str),.str x.fType.fPattern,.str x.fType.fPath,.sl true 1 (x.fKeys.map AV.str),.sl true 1 (x.fUnique.map AV.str),.str x.fDefault,.v (.bool x.fGiven),.v (.bool x.fNeeded),.v (.bool x.fPresent),.v (.bool x.fFixed),.v (.int .i64 x.fMin),.v (.int .i64 x.fMax),.sl true 7 (x.fWhen.map (encExpr true)),.arr g 0 ((x.fMust.take k).length+1) 7,.sl false 19 (x.fKids.map (encSchema false))]) (l:=(x.fMust.take k).map (encExpr true)) (encExpr true (at_ x.fMust k)) gO (by rw [List.length_map];rfl) (by simp (maxSteps:=2000000) (disch:=omega) only [go_sem];try rfl) (by omega) (map_elem (fun x=>by rw [encExpr_eq];rfl) _) (by rw [encExpr_eq];rfl) ?_
    simp only [List.set_cons_zero,List.set_cons_succ]
    exact ⟨trivial,_,[_],_,by omega,⟨k+1,rfl,rfl,rfl,by omega⟩,rfl,by rw [take_at' (by assumption),List.map_append];simp (maxSteps:=2000000) (disch:=omega) only [go_sem];try rfl⟩
   ·simp only [List.set_cons_zero,List.set_cons_succ,hnil]
    (refine vU ?_;with_reducible repeat' first|exact Le.l|refine Sw ?_ ?_|intro h)
    have hk0:k=0:=by rw [List.map_eq_nil_iff] at hnil;rw [hnil] at hlt;exact hlt.symm
    subst hk0
    refine Imp.id ?_
    simp (maxSteps:=2000000) (disch:=omega) only [go_sem]
    exact ⟨_,[_],_,by omega,⟨1,rfl,rfl,rfl,by omega⟩,rfl,by rw [take_at' (by assumption)];simp (maxSteps:=2000000) (disch:=omega) only [go_sem];try rfl⟩
  ·rw [show k=x.fMust.length by omega,List.take_length]
   all_goals exact uU
theorem sCopySchemas_n:∀ (n:Nat) (l:List GSchema),Ctr lim Tryz.prog 195 [] [.sl false 19 (l.map (encSchema false))] (.sl true 19 (l.map (encSchema true))) [] (SizeOf.sizeOf l<n)
 | 0,l=>⟨en195,fun h=>absurd h (Nat.not_lt_zero _)⟩
 | n+1,l=>by
  have ih:=sCopySchema_n n (sCopySchemas_n n)
  refine Ctr.of_body en195 Tryz.func195 rfl rfl fun hp=>(?_);rw [Tryz.ntmps195]
  refine AW.fact 0 fun hf=>?_
  simp (disch:=omega) only [go_sem] at hf
  (refine vU ?_;with_reducible repeat' first|exact Le.l|refine Sw ?_ ?_|intro h)
  refine AW.loopV [3,4] [0] (fun m xs o=>∃ k:Nat,xs=[.sl true 19 ((l.take k).map (encSchema true)),.v (.int .i64 k)]∧o=[]∧m=l.length - k∧k≤l.length) l.length [] trivial ⟨0,?_,rfl,rfl,?_⟩ ?_
  ·rfl
  ·omega
  rintro m xs o ⟨k,rfl,rfl,rfl,hk⟩
  have hlt:(l.take k).length=k:=by rw [List.length_take];omega
  have hkk:k<l.length→SizeOf.sizeOf (at_ l k).fKids<n:=fun h=>by have:=GSchema.kids_lt (at_mem h);omega
  (refine vU ?_;with_reducible repeat' first|exact Le.l|refine Sw ?_ ?_|intro h)
  ·exact ⟨_,[_,_],[],by omega,⟨k+1,by rw [take_at' (by assumption),List.map_append,List.map_cons,List.map_nil,encSchema_eq],rfl,rfl,by omega⟩,rfl,trivial⟩
  ·rw [show k=l.length by omega,List.take_length]
instance sCopySchema_i(x:GSchema):Ctr lim Tryz.prog 167 [] [.agg [.v (.int .i64 x.fKind),.str x.fName,.v (.int .i64 x.fType.fKind),.sl false 2 (x.fType.fRanges.map (encRange false)),.sl false 1 (x.fType.fNames.map AV.str),.str x.fType.fPattern,.str x.fType.fPath,.sl false 1 (x.fKeys.map AV.str),.sl false 1 (x.fUnique.map AV.str),.str x.fDefault,.v (.bool x.fGiven),.v (.bool x.fNeeded),.v (.bool x.fPresent),.v (.bool x.fFixed),.v (.int .i64 x.fMin),.v (.int .i64 x.fMax),.sl false 7 (x.fWhen.map (encExpr false)),.sl false 7 (x.fMust.map (encExpr false)),.sl false 19 (x.fKids.map (encSchema false))]] (.agg [.v (.int .i64 x.fKind),.str x.fName,.v (.int .i64 x.fType.fKind),.sl true 2 (x.fType.fRanges.map (encRange true)),.sl true 1 (x.fType.fNames.map AV.str),.str x.fType.fPattern,.str x.fType.fPath,.sl true 1 (x.fKeys.map AV.str),.sl true 1 (x.fUnique.map AV.str),.str x.fDefault,.v (.bool x.fGiven),.v (.bool x.fNeeded),.v (.bool x.fPresent),.v (.bool x.fFixed),.v (.int .i64 x.fMin),.v (.int .i64 x.fMax),.sl true 7 (x.fWhen.map (encExpr true)),.sl true 7 (x.fMust.map (encExpr true)),.sl true 19 (x.fKids.map (encSchema true))]) [] True:=⟨en167,fun _=>(sCopySchema_n (SizeOf.sizeOf x.fKids+1) (sCopySchemas_n _) x).out (Nat.lt_succ_self _)⟩
end Go.Proofs.YtmcjbaafmjlblaaGreatDoor
namespace Go.Proofs.YtmcjbaafmjlblaaGreatDoor
open Go.Ab Go.Dt
set_option maxRecDepth 20000
set_option maxHeartbeats 4000000
theorem schAllT(l:List GSchema):(l.map (encSchema true)).all (AV.elem 19)=true:=map_all_elem (fun x=>by rw [encSchema_eq];try rfl) l
theorem schOneT(l:List GSchema):((l.map (encSchema true)).flatMap AV.cells).all AV.one=true:=map_all_one (fun x=>by rw [encSchema_eq];try rfl) l
attribute [local go_sem] frzL_str encSchemaM_frz schAll schOne schAllT schOneT
theorem sDataKids_n:∀ (n:Nat) (l:List GSchema),Ctr lim Tryz.prog 129 [] [.sl false 19 (l.map (encSchema false))] (.sl true 19 ((dk l).map (encSchema true))) [] (SizeOf.sizeOf l<n∧cntS l≤1048576)
 | 0,l=>⟨en129,fun h=>absurd h.1 (Nat.not_lt_zero _)⟩
 | n+1,l=>by
  have ih:=sDataKids_n n
  refine Ctr.of_body en129 Tryz.func129 rfl rfl fun hp=>(?_);rw [Tryz.ntmps129]
  have gOn:=GrOn.on
  obtain ⟨hs,hb⟩:=hp
  refine AW.fact 0 fun hf=>?_
  simp (disch:=omega) only [go_sem] at hf
  (refine vU ?_;with_reducible repeat' first|exact Le.l|refine Sw ?_ ?_|intro h)
  refine AW.loopV [3,4] [0] (fun m xs o=>∃ k:Nat,xs=[.sl true 19 ((dk (l.take k)).map (encSchema true)),.v (.int .i64 k)]∧o=[]∧m=l.length - k∧k≤l.length) l.length [] trivial ⟨0,?_,rfl,rfl,?_⟩ ?_
  ·rw [List.take_zero,dk];try rfl
  ·omega
  rintro m xs o ⟨k,rfl,rfl,rfl,hk⟩
  have h1:=dk_len (l.take k)
  have h3:=cntS_le (l:=l) (k:=k)
  have h4:k<l.length→SizeOf.sizeOf (at_ l k).fKids<n∧cntS (at_ l k).fKids≤1048576:=fun h=>by
   have:=cntS_kid (at_mem h);have:=GSchema.kids_lt (at_mem h);omega
  have h6:=dk_len (at_ l k).fKids
  have h7:=dk_len (l.take (k+1))
  (refine vU ?_;with_reducible repeat' first|exact Le.l|refine Sw ?_ ?_|intro h)
  ·rename_i hd
   rw [isDataK] at hd;simp at hd;omega
  ·rename_i hk1 hd
   exact ⟨_,[_,_],[],by omega,⟨k+1,rfl,rfl,rfl,by omega⟩,by rw [dk_step hk1,if_pos hd,List.map_append,List.map_cons,List.map_nil,encSchema_eq];try rfl,trivial⟩
  ·rename_i hk1 hd
   exact ⟨_,[_,_],[],by omega,⟨k+1,rfl,rfl,rfl,by omega⟩,by rw [dk_step hk1,if_neg (by rw [hd];simp),if_pos h,List.map_append];try rfl,trivial⟩
  ·rename_i hk1 hd
   exact ⟨_,[_,_],[],by omega,⟨k+1,rfl,rfl,rfl,by omega⟩,by rw [dk_step hk1,if_neg (by rw [hd];simp),if_neg (by omega),List.append_nil];try rfl,trivial⟩
  ·rw [List.take_of_length_le (by omega)]
instance sDataKidsF(l:List GSchema):FCtr lim Tryz.prog 129 [.sl false 19 (l.map (encSchema false))] (.sl false 19 ((dk l).map (encSchema false))) (cntS l≤1048576) :=
 ⟨en129,fun c=>by
  have:=((sDataKids_n (SizeOf.sizeOf l+1) l).pure ⟨Nat.lt_succ_self _,c⟩).frz
  simpa only [AV.frz,AV.frzL,encSchemaM_frz,cond_true] using this⟩
end Go.Proofs.YtmcjbaafmjlblaaGreatDoor
