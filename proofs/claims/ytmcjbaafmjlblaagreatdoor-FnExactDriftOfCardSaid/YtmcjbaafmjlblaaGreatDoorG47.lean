/-
  Part of a proof: We0, We1, MkY.
-/
import Derived.Test.YtmcjbaafmjlblaaGreatDoorG11
import Derived.Test.YtmcjbaafmjlblaaGreatDoorG30
import Derived.Test.YtmcjbaafmjlblaaGreatDoorG33
import Derived.Test.YtmcjbaafmjlblaaGreatDoorG45
import Derived.Test.YtmcjbaafmjlblaaGreatDoorG46
set_option linter.unusedSimpArgs false
set_option linter.unusedVariables false
namespace Go.Proofs.YtmcjbaafmjlblaaGreatDoor
open Go.Ab Go.Dt
set_option maxRecDepth 20000
set_option maxHeartbeats 4000000
attribute [local go_sem] frzL_str encSchemaM_frz encNodeM_frz ediAll ediOne
end Go.Proofs.YtmcjbaafmjlblaaGreatDoor
namespace Go.Proofs.YtmcjbaafmjlblaaGreatDoor
open Go.Ab Go.Dt
set_option maxRecDepth 20000
set_option maxHeartbeats 4000000
attribute [local go_sem] frzL_str encSchemaM_frz encNodeM_frz ediAll ediOne encEditS
theorem edsAll(o:Bool)(l:List (List GEdit)):(l.map (encEditS o)).all (AV.elem 1)=true:=map_all_elem (fun _=>rfl) l
theorem edsOne(o:Bool)(l:List (List GEdit)):((l.map (encEditS o)).flatMap AV.cells).all AV.one=true:=map_all_one (fun _=>rfl) l
attribute [local go_sem] edsAll edsOne
end Go.Proofs.YtmcjbaafmjlblaaGreatDoor
namespace Go.Proofs.YtmcjbaafmjlblaaGreatDoor
open Go.Ab Go.Dt
set_option maxRecDepth 20000
set_option maxHeartbeats 4000000
instance markRangeS_i(l:List GRange)(k:Int):BCtr lim Tryz.prog 73 2 (l.map (encRange true)) [.v (.int .i64 k)] (.v (.int .i64 (mkL stRange l k).2)) ((mkL stRange l k).1.map (encRange true)) (0≤k∧(mkL stRange l k).2≤1099511627776):=by
 refine BCtr.of en73 (fun b=>?_) (fun e=>?_) (by simp [mkL_len]) (map_elem (fun _=>rfl) _) (map_elem (fun _=>rfl) _)
 ·simp only [List.length_map]
  refine Ctr.of_body en73 Tryz.func73 rfl rfl fun hp=>(?_);rw [Tryz.ntmps73]
  have hup:=mkL_up stRange_ge l k
  (refine vU ?_;with_reducible repeat' first|exact Le.l|refine Sw ?_ ?_|intro h)
  refine AW.loopV [1,5] [0] (fun m xs o=>∃ i:Nat,xs=[.v (.int .i64 (mkc stRange l k i)),.v (.int .i64 i)]∧o=[(b,some (((mkp stRange l k i).map (encRange true)).flatMap AV.cells))]∧m=l.length - i∧i≤l.length) l.length [(b,some ((l.map (encRange true)).flatMap AV.cells))] (subO_one rfl) ⟨0,rfl,?_,rfl,?_⟩ ?_
  ·rw [mkp_zero]
  ·omega
  rintro m xs o ⟨i,rfl,rfl,rfl,hi⟩
  have h1:=mkc_ge (up_ge stRange_ge) l k i
  have h2:=mkc_le (up_ge stRange_ge) l k i
  (refine vK ?_;with_reducible repeat' first|exact Le.l|refine Sw ?_ ?_|intro h)
  (refine AW.i rfl (fun h=>?_) (fun h=>?_)<;>try simp only [hC,reduceCtorEq] at h)
  ·have h3:=mkc_le (up_ge stRange_ge) l k (i+1)
   rw [mkd_at h]
   rw [mkc_step h] at h3
   have hpre:=mkb_len (e:=encRange true) (f:=stRange) (sz:=2) (k:=k) (fun _=>rfl) hi
   have hpost:(((l.drop (i+1)).map (encRange true)).flatMap AV.cells).length=(l.length - (i+1)) * 2:=by
    rw [fm_len (e:=encRange true) (sz:=2) (fun _=>rfl),List.length_drop]
   have hnx:=mkd_next (e:=encRange true) (f:=stRange) (k:=k) h
   generalize mkb (encRange true) stRange l k i=pre at hpre hnx ⊢
   generalize ((l.drop (i+1)).map (encRange true)).flatMap AV.cells=post at hnx hpost ⊢
   generalize e1:at_ l i=x at *
   generalize e2:mkc stRange l k i=c at *
   simp only [stRange] at h3
   (refine vK ?_;with_reducible repeat' first|exact Le.l|refine Sw ?_ ?_|intro h)
   exact ⟨_,[_,_],_,by omega,⟨i+1,by rw [mkc_step h,e1,e2];rfl,rfl,rfl,by omega⟩,rfl,subO_one hnx⟩
  ·rw [mkc_end h,mkp_end h]
   all_goals exact uU
 ·have:l=[]:=by simpa using e
  subst this
  refine ⟨?_,rfl⟩
  refine Ctr.of_body en73 Tryz.func73 rfl rfl fun hp=>(?_);rw [Tryz.ntmps73]
  (refine vU ?_;with_reducible repeat' first|exact Le.l|refine Sw ?_ ?_|intro h)
  refine AW.loopV [] [0,1,5] (fun m xs o=>xs=[]∧o=[]) 0 [] trivial ⟨rfl,rfl⟩ ?_
  rintro m xs o ⟨rfl,rfl⟩
  (refine vU ?_;with_reducible repeat' first|exact Le.l|refine Sw ?_ ?_|intro h)
  rfl
instance markTestS_i(l:List GTest)(k:Int):BCtr lim Tryz.prog 160 2 (l.map (encTest true)) [.v (.int .i64 k)] (.v (.int .i64 (mkL stTest l k).2)) ((mkL stTest l k).1.map (encTest true)) (0≤k∧(mkL stTest l k).2≤1099511627776):=by
 refine BCtr.of en160 (fun b=>?_) (fun e=>?_) (by simp [mkL_len]) (map_elem (fun _=>rfl) _) (map_elem (fun _=>rfl) _)
 ·simp only [List.length_map]
  refine Ctr.of_body en160 Tryz.func160 rfl rfl fun hp=>(?_);rw [Tryz.ntmps160]
  have hup:=mkL_up stTest_ge l k
  (refine vU ?_;with_reducible repeat' first|exact Le.l|refine Sw ?_ ?_|intro h)
  refine AW.loopV [1,5] [0] (fun m xs o=>∃ i:Nat,xs=[.v (.int .i64 (mkc stTest l k i)),.v (.int .i64 i)]∧o=[(b,some (((mkp stTest l k i).map (encTest true)).flatMap AV.cells))]∧m=l.length - i∧i≤l.length) l.length [(b,some ((l.map (encTest true)).flatMap AV.cells))] (subO_one rfl) ⟨0,rfl,?_,rfl,?_⟩ ?_
  ·rw [mkp_zero]
  ·omega
  rintro m xs o ⟨i,rfl,rfl,rfl,hi⟩
  have h1:=mkc_ge (up_ge stTest_ge) l k i
  have h2:=mkc_le (up_ge stTest_ge) l k i
  (refine vK ?_;with_reducible repeat' first|exact Le.l|refine Sw ?_ ?_|intro h)
  (refine AW.i rfl (fun h=>?_) (fun h=>?_)<;>try simp only [hC,reduceCtorEq] at h)
  ·have h3:=mkc_le (up_ge stTest_ge) l k (i+1)
   rw [mkd_at h]
   rw [mkc_step h] at h3
   have hpre:=mkb_len (e:=encTest true) (f:=stTest) (sz:=2) (k:=k) (fun _=>rfl) hi
   have hpost:(((l.drop (i+1)).map (encTest true)).flatMap AV.cells).length=(l.length - (i+1)) * 2:=by
    rw [fm_len (e:=encTest true) (sz:=2) (fun _=>rfl),List.length_drop]
   have hnx:=mkd_next (e:=encTest true) (f:=stTest) (k:=k) h
   generalize mkb (encTest true) stTest l k i=pre at hpre hnx ⊢
   generalize ((l.drop (i+1)).map (encTest true)).flatMap AV.cells=post at hnx hpost ⊢
   generalize e1:at_ l i=x at *
   generalize e2:mkc stTest l k i=c at *
   simp only [stTest] at h3
   (refine vK ?_;with_reducible repeat' first|exact Le.l|refine Sw ?_ ?_|intro h)
   exact ⟨_,[_,_],_,by omega,⟨i+1,by rw [mkc_step h,e1,e2];rfl,rfl,rfl,by omega⟩,rfl,subO_one hnx⟩
  ·rw [mkc_end h,mkp_end h]
   all_goals exact uU
 ·have:l=[]:=by simpa using e
  subst this
  refine ⟨?_,rfl⟩
  refine Ctr.of_body en160 Tryz.func160 rfl rfl fun hp=>(?_);rw [Tryz.ntmps160]
  (refine vU ?_;with_reducible repeat' first|exact Le.l|refine Sw ?_ ?_|intro h)
  refine AW.loopV [] [0,1,5] (fun m xs o=>xs=[]∧o=[]) 0 [] trivial ⟨rfl,rfl⟩ ?_
  rintro m xs o ⟨rfl,rfl⟩
  (refine vU ?_;with_reducible repeat' first|exact Le.l|refine Sw ?_ ?_|intro h)
  rfl
instance markStepS_i(l:List Dt.GStep)(k:Int):BCtr lim Tryz.prog 124 2 (l.map (encStep true)) [.v (.int .i64 k)] (.v (.int .i64 (mkL stStep l k).2)) ((mkL stStep l k).1.map (encStep true)) (0≤k∧(mkL stStep l k).2≤1099511627776):=by
 refine BCtr.of en124 (fun b=>?_) (fun e=>?_) (by simp [mkL_len]) (map_elem (fun _=>rfl) _) (map_elem (fun _=>rfl) _)
 ·simp only [List.length_map]
  refine Ctr.of_body en124 Tryz.func124 rfl rfl fun hp=>(?_);rw [Tryz.ntmps124]
  have hup:=mkL_up stStep_ge l k
  (refine vU ?_;with_reducible repeat' first|exact Le.l|refine Sw ?_ ?_|intro h)
  refine AW.loopW [1,5] [0] (fun m xs o=>∃ i:Nat,xs=[.v (.int .i64 (mkc stStep l k i)),.v (.int .i64 i)]∧o=[(b,some (((mkp stStep l k i).map (encStep true)).flatMap AV.cells))]∧m=l.length - i∧i≤l.length) l.length [(b,some ((l.map (encStep true)).flatMap AV.cells))] (subO_one rfl) ⟨0,rfl,?_,rfl,?_⟩ ?_
  ·rw [mkp_zero]
  ·omega
  rintro m xs o ⟨i,rfl,rfl,rfl,hi⟩
  have h1:=mkc_ge (up_ge stStep_ge) l k i
  have h2:=mkc_le (up_ge stStep_ge) l k i
  (refine vK ?_;with_reducible repeat' first|exact Le.l|refine Sw ?_ ?_|intro h)
  (refine AW.i rfl (fun h=>?_) (fun h=>?_)<;>try simp only [hC,reduceCtorEq] at h)
  ·have h3:=mkc_le (up_ge stStep_ge) l k (i+1)
   rw [mkd_at h]
   rw [mkc_step h] at h3
   have hpre:=mkb_len (e:=encStep true) (f:=stStep) (sz:=2) (k:=k) (fun _=>rfl) hi
   have hpost:(((l.drop (i+1)).map (encStep true)).flatMap AV.cells).length=(l.length - (i+1)) * 2:=by
    rw [fm_len (e:=encStep true) (sz:=2) (fun _=>rfl),List.length_drop]
   have hnx:=mkd_next (e:=encStep true) (f:=stStep) (k:=k) h
   generalize mkb (encStep true) stStep l k i=pre at hpre hnx ⊢
   generalize ((l.drop (i+1)).map (encStep true)).flatMap AV.cells=post at hnx hpost ⊢
   generalize e1:at_ l i=x at *
   generalize e2:mkc stStep l k i=c at *
   refine AW.imp (Imp.pinE (b:=b) pre [_,_] post (O_eq _ _ _) fun hs=>?_)
   simp (maxSteps:=2000000) (disch:=omega) only [go_sem]
   have g0:=mkL_up stTest_ge x.fTests (c+1)
   simp only [stStep] at h3
   (refine vK ?_;with_reducible repeat' first|exact Le.l|refine Sw ?_ ?_|intro h)
   refine Imp.unpE (b:=b) pre [_,_] post (O_eq _ _ _) ?_
   simp (maxSteps:=2000000) (disch:=omega) only [go_sem]
   exact ⟨_,[_,_],_,by omega,⟨i+1,by rw [mkc_step h,e1,e2];rfl,rfl,rfl,by omega⟩,rfl,subO_one hnx⟩
  ·rw [mkc_end h,mkp_end h]
   all_goals exact uU
 ·have:l=[]:=by simpa using e
  subst this
  refine ⟨?_,rfl⟩
  refine Ctr.of_body en124 Tryz.func124 rfl rfl fun hp=>(?_);rw [Tryz.ntmps124]
  (refine vU ?_;with_reducible repeat' first|exact Le.l|refine Sw ?_ ?_|intro h)
  refine AW.loopV [] [0,1,5] (fun m xs o=>xs=[]∧o=[]) 0 [] trivial ⟨rfl,rfl⟩ ?_
  rintro m xs o ⟨rfl,rfl⟩
  (refine vU ?_;with_reducible repeat' first|exact Le.l|refine Sw ?_ ?_|intro h)
  rfl
theorem markExprS_n:∀ (n:Nat) (l:List GExpr) (k:Int),BCtr lim Tryz.prog 75 7 (l.map (encExpr true)) [.v (.int .i64 k)] (.v (.int .i64 (mkL stExpr l k).2)) ((mkL stExpr l k).1.map (encExpr true)) (SizeOf.sizeOf l<n∧0≤k∧(mkL stExpr l k).2≤1099511627776)
 | 0,l,k=>⟨en75,fun h=>absurd h.1 (Nat.not_lt_zero _)⟩
 | n+1,l,k=>by
  have ih:=markExprS_n n
  refine BCtr.of en75 (fun b=>?_) (fun e=>?_) (by simp [mkL_len]) (map_elem (fun x=>by rw [encExpr_eq];rfl) _) (map_elem (fun x=>by rw [encExpr_eq];rfl) _)
  ·simp only [List.length_map]
   refine Ctr.of_body en75 Tryz.func75 rfl rfl fun hp=>(?_);rw [Tryz.ntmps75]
   have hup:=mkL_up stExpr_ge l k
   (refine vU ?_;with_reducible repeat' first|exact Le.l|refine Sw ?_ ?_|intro h)
   refine AW.loopW [1,5] [0] (fun m xs o=>∃ i:Nat,xs=[.v (.int .i64 (mkc stExpr l k i)),.v (.int .i64 i)]∧o=[(b,some (((mkp stExpr l k i).map (encExpr true)).flatMap AV.cells))]∧m=l.length - i∧i≤l.length) l.length [(b,some ((l.map (encExpr true)).flatMap AV.cells))] (subO_one rfl) ⟨0,rfl,?_,rfl,?_⟩ ?_
   ·rw [mkp_zero]
   ·omega
   rintro m xs o ⟨i,rfl,rfl,rfl,hi⟩
   have h1:=mkc_ge (up_ge stExpr_ge) l k i
   have h2:=mkc_le (up_ge stExpr_ge) l k i
   (refine vK ?_;with_reducible repeat' first|exact Le.l|refine Sw ?_ ?_|intro h)
   (refine AW.i rfl (fun h=>?_) (fun h=>?_)<;>try simp only [hC,reduceCtorEq] at h)
   ·have h3:=mkc_le (up_ge stExpr_ge) l k (i+1)
    rw [mkd_at h]
    rw [mkc_step h] at h3
    have hpre:=mkb_len (e:=encExpr true) (f:=stExpr) (sz:=7) (k:=k) (fun x=>by rw [encExpr_eq];rfl) hi
    have hpost:(((l.drop (i+1)).map (encExpr true)).flatMap AV.cells).length=(l.length - (i+1)) * 7:=by
     rw [fm_len (e:=encExpr true) (sz:=7) (fun x=>by rw [encExpr_eq];rfl),List.length_drop]
    have hnx:=mkd_next (e:=encExpr true) (f:=stExpr) (k:=k) h
    have hkk:SizeOf.sizeOf (at_ l i).fKids<n:=by have:=GExpr.kids_lt (at_mem h);omega
    rw [stExpr_eq] at hnx
    generalize mkb (encExpr true) stExpr l k i=pre at hpre hnx ⊢
    generalize ((l.drop (i+1)).map (encExpr true)).flatMap AV.cells=post at hnx hpost ⊢
    generalize e1:at_ l i=x at *
    generalize e2:mkc stExpr l k i=c at *
    rw [encExpr_eq]
    simp only [encExpr_eq] at hnx
    refine AW.imp (Imp.pinE (b:=b) pre [_,_,_,_,_,_,_] post (O_eq _ _ _) fun hs=>?_)
    simp (maxSteps:=2000000) (disch:=omega) only [go_sem]
    have g0:=mkL_up stStep_ge x.fPath.fSteps (c+1+1+1+1+1)
    have g1:=mkL_up stExpr_ge x.fKids ((mkL stStep x.fPath.fSteps (c+1+1+1+1+1)).2)
    rw [stExpr_eq] at h3;simp only at h3
    (refine vK ?_;with_reducible repeat' first|exact Le.l|refine Sw ?_ ?_|intro h)
    refine Imp.unpE (b:=b) pre [_,_,_,_,_,_,_] post (O_eq _ _ _) ?_
    simp (maxSteps:=2000000) (disch:=omega) only [go_sem]
    exact ⟨_,[_,_],_,by omega,⟨i+1,by rw [mkc_step h,e1,e2,stExpr_eq],rfl,rfl,by omega⟩,rfl,subO_one hnx⟩
   ·rw [mkc_end h,mkp_end h]
    all_goals exact uU
  ·have:l=[]:=by simpa using e
   subst this
   refine ⟨?_,rfl⟩
   refine Ctr.of_body en75 Tryz.func75 rfl rfl fun hp=>(?_);rw [Tryz.ntmps75]
   (refine vU ?_;with_reducible repeat' first|exact Le.l|refine Sw ?_ ?_|intro h)
   refine AW.loopV [] [0,1,5] (fun m xs o=>xs=[]∧o=[]) 0 [] trivial ⟨rfl,rfl⟩ ?_
   rintro m xs o ⟨rfl,rfl⟩
   (refine vU ?_;with_reducible repeat' first|exact Le.l|refine Sw ?_ ?_|intro h)
   rfl
instance markExprS_i(l:List GExpr)(k:Int):BCtr lim Tryz.prog 75 7 (l.map (encExpr true)) [.v (.int .i64 k)] (.v (.int .i64 (mkL stExpr l k).2)) ((mkL stExpr l k).1.map (encExpr true)) (0≤k∧(mkL stExpr l k).2≤1099511627776):=⟨en75,fun h=>(markExprS_n (SizeOf.sizeOf l+1) l k).out ⟨Nat.lt_succ_self _,h⟩⟩
theorem markSchemaS_n:∀ (n:Nat) (l:List GSchema) (k:Int),BCtr lim Tryz.prog 30 19 (l.map (encSchema true)) [.v (.int .i64 k)] (.v (.int .i64 (mkL stSchema l k).2)) ((mkL stSchema l k).1.map (encSchema true)) (SizeOf.sizeOf l<n∧0≤k∧(mkL stSchema l k).2≤1099511627776)
 | 0,l,k=>⟨en30,fun h=>absurd h.1 (Nat.not_lt_zero _)⟩
 | n+1,l,k=>by
  have ih:=markSchemaS_n n
  refine BCtr.of en30 (fun b=>?_) (fun e=>?_) (by simp [mkL_len]) (map_elem (fun x=>by rw [encSchema_eq];rfl) _) (map_elem (fun x=>by rw [encSchema_eq];rfl) _)
  ·simp only [List.length_map]
   refine Ctr.of_body en30 Tryz.func30 rfl rfl fun hp=>(?_);rw [Tryz.ntmps30]
   have hup:=mkL_up stSchema_ge l k
   (refine vU ?_;with_reducible repeat' first|exact Le.l|refine Sw ?_ ?_|intro h)
   refine AW.loopW [1,5] [0] (fun m xs o=>∃ i:Nat,xs=[.v (.int .i64 (mkc stSchema l k i)),.v (.int .i64 i)]∧o=[(b,some (((mkp stSchema l k i).map (encSchema true)).flatMap AV.cells))]∧m=l.length - i∧i≤l.length) l.length [(b,some ((l.map (encSchema true)).flatMap AV.cells))] (subO_one rfl) ⟨0,rfl,?_,rfl,?_⟩ ?_
   ·rw [mkp_zero]
   ·omega
   rintro m xs o ⟨i,rfl,rfl,rfl,hi⟩
   have h1:=mkc_ge (up_ge stSchema_ge) l k i
   have h2:=mkc_le (up_ge stSchema_ge) l k i
   (refine vK ?_;with_reducible repeat' first|exact Le.l|refine Sw ?_ ?_|intro h)
   (refine AW.i rfl (fun h=>?_) (fun h=>?_)<;>try simp only [hC,reduceCtorEq] at h)
   ·have h3:=mkc_le (up_ge stSchema_ge) l k (i+1)
    rw [mkd_at h]
    rw [mkc_step h] at h3
    have hpre:=mkb_len (e:=encSchema true) (f:=stSchema) (sz:=19) (k:=k) (fun x=>by rw [encSchema_eq];rfl) hi
    have hpost:(((l.drop (i+1)).map (encSchema true)).flatMap AV.cells).length=(l.length - (i+1)) * 19:=by
     rw [fm_len (e:=encSchema true) (sz:=19) (fun x=>by rw [encSchema_eq];rfl),List.length_drop]
    have hnx:=mkd_next (e:=encSchema true) (f:=stSchema) (k:=k) h
    have hkk:SizeOf.sizeOf (at_ l i).fKids<n:=by have:=GSchema.kids_lt (at_mem h);omega
    rw [stSchema_eq] at hnx
    generalize mkb (encSchema true) stSchema l k i=pre at hpre hnx ⊢
    generalize ((l.drop (i+1)).map (encSchema true)).flatMap AV.cells=post at hnx hpost ⊢
    generalize e1:at_ l i=x at *
    generalize e2:mkc stSchema l k i=c at *
    rw [encSchema_eq]
    simp only [encSchema_eq] at hnx
    refine AW.imp (Imp.pinE (b:=b) pre [_,_,_,_,_,_,_,_,_,_,_,_,_,_,_,_,_,_,_] post (O_eq _ _ _) fun hs=>?_)
    simp (maxSteps:=2000000) (disch:=omega) only [go_sem]
    have g0:=mkL_up stRange_ge x.fType.fRanges (c+1+1+1)
    have g1:=mkL_up stString_ge x.fType.fNames ((mkL stRange x.fType.fRanges (c+1+1+1)).2)
    have g2:=mkL_up stString_ge x.fKeys ((mkL stString x.fType.fNames ((mkL stRange x.fType.fRanges (c+1+1+1)).2)).2+1+1)
    have g3:=mkL_up stString_ge x.fUnique ((mkL stString x.fKeys ((mkL stString x.fType.fNames ((mkL stRange x.fType.fRanges (c+1+1+1)).2)).2+1+1)).2)
    have g4:=mkL_up stExpr_ge x.fWhen ((mkL stString x.fUnique ((mkL stString x.fKeys ((mkL stString x.fType.fNames ((mkL stRange x.fType.fRanges (c+1+1+1)).2)).2+1+1)).2)).2+1+1+1+1+1+1+1)
    have g5:=mkL_up stExpr_ge x.fMust ((mkL stExpr x.fWhen ((mkL stString x.fUnique ((mkL stString x.fKeys ((mkL stString x.fType.fNames ((mkL stRange x.fType.fRanges (c+1+1+1)).2)).2+1+1)).2)).2+1+1+1+1+1+1+1)).2)
    have g6:=mkL_up stSchema_ge x.fKids ((mkL stExpr x.fMust ((mkL stExpr x.fWhen ((mkL stString x.fUnique ((mkL stString x.fKeys ((mkL stString x.fType.fNames ((mkL stRange x.fType.fRanges (c+1+1+1)).2)).2+1+1)).2)).2+1+1+1+1+1+1+1)).2)).2)
    rw [stSchema_eq] at h3;simp only at h3
    (refine vK ?_;with_reducible repeat' first|exact Le.l|refine Sw ?_ ?_|intro h)
    refine Imp.unpE (b:=b) pre [_,_,_,_,_,_,_,_,_,_,_,_,_,_,_,_,_,_,_] post (O_eq _ _ _) ?_
    simp (maxSteps:=2000000) (disch:=omega) only [go_sem]
    exact ⟨_,[_,_],_,by omega,⟨i+1,by rw [mkc_step h,e1,e2,stSchema_eq],rfl,rfl,by omega⟩,rfl,subO_one hnx⟩
   ·rw [mkc_end h,mkp_end h]
    all_goals exact uU
  ·have:l=[]:=by simpa using e
   subst this
   refine ⟨?_,rfl⟩
   refine Ctr.of_body en30 Tryz.func30 rfl rfl fun hp=>(?_);rw [Tryz.ntmps30]
   (refine vU ?_;with_reducible repeat' first|exact Le.l|refine Sw ?_ ?_|intro h)
   refine AW.loopV [] [0,1,5] (fun m xs o=>xs=[]∧o=[]) 0 [] trivial ⟨rfl,rfl⟩ ?_
   rintro m xs o ⟨rfl,rfl⟩
   (refine vU ?_;with_reducible repeat' first|exact Le.l|refine Sw ?_ ?_|intro h)
   rfl
instance markSchemaS_i(l:List GSchema)(k:Int):BCtr lim Tryz.prog 30 19 (l.map (encSchema true)) [.v (.int .i64 k)] (.v (.int .i64 (mkL stSchema l k).2)) ((mkL stSchema l k).1.map (encSchema true)) (0≤k∧(mkL stSchema l k).2≤1099511627776):=⟨en30,fun h=>(markSchemaS_n (SizeOf.sizeOf l+1) l k).out ⟨Nat.lt_succ_self _,h⟩⟩
theorem markNodeS_n:∀ (n:Nat) (l:List GNode) (k:Int),BCtr lim Tryz.prog 19 3 (l.map (encNode true)) [.v (.int .i64 k)] (.v (.int .i64 (mkL stNode l k).2)) ((mkL stNode l k).1.map (encNode true)) (SizeOf.sizeOf l<n∧0≤k∧(mkL stNode l k).2≤1099511627776)
 | 0,l,k=>⟨en19,fun h=>absurd h.1 (Nat.not_lt_zero _)⟩
 | n+1,l,k=>by
  have ih:=markNodeS_n n
  refine BCtr.of en19 (fun b=>?_) (fun e=>?_) (by simp [mkL_len]) (map_elem (fun x=>by rw [encNode_eq];rfl) _) (map_elem (fun x=>by rw [encNode_eq];rfl) _)
  ·simp only [List.length_map]
   refine Ctr.of_body en19 Tryz.func19 rfl rfl fun hp=>(?_);rw [Tryz.ntmps19]
   have hup:=mkL_up stNode_ge l k
   (refine vU ?_;with_reducible repeat' first|exact Le.l|refine Sw ?_ ?_|intro h)
   refine AW.loopW [1,5] [0] (fun m xs o=>∃ i:Nat,xs=[.v (.int .i64 (mkc stNode l k i)),.v (.int .i64 i)]∧o=[(b,some (((mkp stNode l k i).map (encNode true)).flatMap AV.cells))]∧m=l.length - i∧i≤l.length) l.length [(b,some ((l.map (encNode true)).flatMap AV.cells))] (subO_one rfl) ⟨0,rfl,?_,rfl,?_⟩ ?_
   ·rw [mkp_zero]
   ·omega
   rintro m xs o ⟨i,rfl,rfl,rfl,hi⟩
   have h1:=mkc_ge (up_ge stNode_ge) l k i
   have h2:=mkc_le (up_ge stNode_ge) l k i
   (refine vK ?_;with_reducible repeat' first|exact Le.l|refine Sw ?_ ?_|intro h)
   (refine AW.i rfl (fun h=>?_) (fun h=>?_)<;>try simp only [hC,reduceCtorEq] at h)
   ·have h3:=mkc_le (up_ge stNode_ge) l k (i+1)
    rw [mkd_at h]
    rw [mkc_step h] at h3
    have hpre:=mkb_len (e:=encNode true) (f:=stNode) (sz:=3) (k:=k) (fun x=>by rw [encNode_eq];rfl) hi
    have hpost:(((l.drop (i+1)).map (encNode true)).flatMap AV.cells).length=(l.length - (i+1)) * 3:=by
     rw [fm_len (e:=encNode true) (sz:=3) (fun x=>by rw [encNode_eq];rfl),List.length_drop]
    have hnx:=mkd_next (e:=encNode true) (f:=stNode) (k:=k) h
    have hkk:SizeOf.sizeOf (at_ l i).fKids<n:=by have:=GNode.kids_lt (at_mem h);omega
    rw [stNode_eq] at hnx
    generalize mkb (encNode true) stNode l k i=pre at hpre hnx ⊢
    generalize ((l.drop (i+1)).map (encNode true)).flatMap AV.cells=post at hnx hpost ⊢
    generalize e1:at_ l i=x at *
    generalize e2:mkc stNode l k i=c at *
    rw [encNode_eq]
    simp only [encNode_eq] at hnx
    refine AW.imp (Imp.pinE (b:=b) pre [_,_,_] post (O_eq _ _ _) fun hs=>?_)
    simp (maxSteps:=2000000) (disch:=omega) only [go_sem]
    have g0:=mkL_up stNode_ge x.fKids (c+1+1)
    rw [stNode_eq] at h3;simp only at h3
    (refine vK ?_;with_reducible repeat' first|exact Le.l|refine Sw ?_ ?_|intro h)
    refine Imp.unpE (b:=b) pre [_,_,_] post (O_eq _ _ _) ?_
    simp (maxSteps:=2000000) (disch:=omega) only [go_sem]
    exact ⟨_,[_,_],_,by omega,⟨i+1,by rw [mkc_step h,e1,e2,stNode_eq],rfl,rfl,by omega⟩,rfl,subO_one hnx⟩
   ·rw [mkc_end h,mkp_end h]
    all_goals exact uU
  ·have:l=[]:=by simpa using e
   subst this
   refine ⟨?_,rfl⟩
   refine Ctr.of_body en19 Tryz.func19 rfl rfl fun hp=>(?_);rw [Tryz.ntmps19]
   (refine vU ?_;with_reducible repeat' first|exact Le.l|refine Sw ?_ ?_|intro h)
   refine AW.loopV [] [0,1,5] (fun m xs o=>xs=[]∧o=[]) 0 [] trivial ⟨rfl,rfl⟩ ?_
   rintro m xs o ⟨rfl,rfl⟩
   (refine vU ?_;with_reducible repeat' first|exact Le.l|refine Sw ?_ ?_|intro h)
   rfl
instance markNodeS_i(l:List GNode)(k:Int):BCtr lim Tryz.prog 19 3 (l.map (encNode true)) [.v (.int .i64 k)] (.v (.int .i64 (mkL stNode l k).2)) ((mkL stNode l k).1.map (encNode true)) (0≤k∧(mkL stNode l k).2≤1099511627776):=⟨en19,fun h=>(markNodeS_n (SizeOf.sizeOf l+1) l k).out ⟨Nat.lt_succ_self _,h⟩⟩
end Go.Proofs.YtmcjbaafmjlblaaGreatDoor
