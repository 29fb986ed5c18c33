/-
  Part of a proof: Sc1, Sc2, Sc3, Sc4, Sc5p.
-/
import Derived.Test.YtmcjbaafmjlblaaGreatDoorG9
import Derived.Test.YtmcjbaafmjlblaaGreatDoorG11
set_option linter.unusedSimpArgs false
set_option linter.unusedVariables false
namespace Go.Proofs.YtmcjbaafmjlblaaGreatDoor
open Go.Ab Go.Dt
set_option maxRecDepth 20000
set_option maxHeartbeats 4000000
attribute [local go_sem] frzL_str
instance iStep_i(x:Dt.GStep):Ctr lim Tryz.prog 297 [] [.agg [.str x.fName,.sl false 2 (x.fTests.map (encTest false))]] (.v (.bool (stepOk x))) [] True:=by
 refine Ctr.of_body en297 Tryz.func297 rfl rfl fun hp=>(?_);rw [Tryz.ntmps297]
 have gOn:=GrOn.on
 refine AW.fact 0 fun hf=>?_
 simp (disch:=omega) only [go_sem] at hf
 (refine vU ?_;with_reducible repeat' first|exact Le.l|refine Sw ?_ ?_|intro h)
 refine AW.loopV [3,10] [1,8,9] (fun m xs o=>∃ k:Nat,xs=[.sl true 1 (((x.fTests.take k).map GTest.fName).map AV.str),.v (.int .i64 k)]∧o=[]∧m=x.fTests.length - k∧k≤x.fTests.length∧∀ y∈x.fTests.take k,(!tstOk y)=false) x.fTests.length [] trivial ⟨0,?_,rfl,rfl,?_,?_⟩ ?_
 ·rfl
 ·omega
 ·simp
 rintro m xs o ⟨k,rfl,rfl,rfl,hk,hR⟩
 have hlen:(List.take k x.fTests).length≤2147483648:=by rw [List.length_take];omega
 (refine vU ?_;with_reducible repeat' first|exact Le.l|refine Sw ?_ ?_|intro h)
 ·rw [stepOk,all_no (by assumption) (by rcases h with h|h<;>simp [tstOk,h])];try rfl
 ·exact ⟨_,[_,_],[],by omega,⟨k+1,rfl,rfl,rfl,by omega,take_step' (by assumption) hR (by simp [tstOk,h.1,h.2])⟩,by rw [tk1m (by assumption)];try rfl,trivial⟩
 ·rename_i hz h2
  rw [take_all hz,stepOk,all_yes hz hR,h2.1,show decide (x.fTests.length≤3)=true by simp;omega];try rfl
 ·rw [stepOk,all_yes (by assumption) hR]
  cases e:isName x.fName with
  | false=>rfl
  | true=>rw [show decide (x.fTests.length≤3)=false by have:=h e;simp;omega];try rfl
instance iIsPath_i(x:Dt.GPath):Ctr lim Tryz.prog 287 [] [.agg [.v (.bool x.fRoot),.v (.int .i64 x.fUps),.sl false 2 (x.fSteps.map (encStep false))]] (.v (.bool (isPath x))) [] True:=by
 refine Ctr.of_body en287 Tryz.func287 rfl rfl fun hp=>(?_);rw [Tryz.ntmps287]
 have gOn:=GrOn.on
 refine AW.fact 0 fun hf=>?_
 simp (disch:=omega) only [go_sem] at hf
 (refine vU ?_;with_reducible repeat' first|exact Le.l|refine Sw ?_ ?_|intro h)
 refine AW.loopV [8] [1,6,7] (fun m xs o=>∃ k:Nat,xs=[.v (.int .i64 k)]∧o=[]∧m=x.fSteps.length - k∧k≤x.fSteps.length∧∀ y∈x.fSteps.take k,(!stepOk y)=false) x.fSteps.length [] trivial ⟨0,?_,rfl,rfl,?_,?_⟩ ?_
 ·rfl
 ·omega
 ·simp
 rintro m xs o ⟨k,rfl,rfl,rfl,hk,hR⟩
 (refine vU ?_;with_reducible repeat' first|exact Le.l|refine Sw ?_ ?_|intro h)
 ·rw [isPath,all_no (by assumption) h];try rfl
 ·exact ⟨_,[_],[],by omega,⟨k+1,rfl,rfl,rfl,by omega,take_step' (by assumption) hR (by simp [h])⟩,rfl,trivial⟩
 ·rw [isPath,all_yes h hR,pathR];simp only [dec10,decP,beq_dec,Bool.true_and]
instance sIsPath_i(x:Dt.GPath):Ctr lim Tryz.prog 279 [] [.agg [.v (.bool x.fRoot),.v (.int .i64 x.fUps),.sl false 2 (x.fSteps.map (encStep false))]] (.v (.bool (isPath x))) [] True:=by
 refine Ctr.of_body en279 Tryz.func279 rfl rfl fun hp=>(?_);rw [Tryz.ntmps279]
 have gOn:=GrOn.on
 refine AW.fact 0 fun hf=>?_
 simp (disch:=omega) only [go_sem] at hf
 (refine vU ?_;with_reducible repeat' first|exact Le.l|refine Sw ?_ ?_|intro h)
 refine AW.loopV [3] [1] (fun m xs o=>∃ k:Nat,xs=[.v (.int .i64 k)]∧o=[]∧m=x.fSteps.length - k∧k≤x.fSteps.length∧∀ y∈x.fSteps.take k,(!stepOk y)=false) x.fSteps.length [] trivial ⟨0,?_,rfl,rfl,?_,?_⟩ ?_
 ·rfl
 ·omega
 ·simp
 rintro m xs o ⟨k,rfl,rfl,rfl,hk,hR⟩
 (refine vK ?_;with_reducible repeat' first|exact Le.l|refine Sw ?_ ?_|intro h)
 (refine AW.i rfl (fun h=>?_) (fun h=>?_)<;>try simp only [hC,reduceCtorEq] at h)
 ·(refine vK ?_;with_reducible repeat' first|exact Le.l|refine Sw ?_ ?_|intro h)
  refine AW.fact 4 fun hg=>?_
  simp (disch:=omega) only [go_sem] at hg
  refine AW.loopV [5] [1,3,4] (fun m xs o=>∃ j:Nat,xs=[.v (.int .i64 j)]∧o=[]∧m=(at_ x.fSteps k).fTests.length - j∧j≤(at_ x.fSteps k).fTests.length∧(∀ y∈(at_ x.fSteps k).fTests.take j,(!tstOk y)=false)∧allTo (fun i=>!cont (((at_ x.fSteps k).fTests.map GTest.fName).take i) (at_ ((at_ x.fSteps k).fTests.map GTest.fName) i)) j=true) (at_ x.fSteps k).fTests.length [] trivial ⟨0,?_,rfl,rfl,?_,?_,rfl⟩ ?_
  ·rfl
  ·omega
  ·simp
  rintro m xs o ⟨j,rfl,rfl,rfl,hj,hS,hQ⟩
  (refine vK ?_;with_reducible repeat' first|exact Le.l|refine Sw ?_ ?_|intro h)
  (refine AW.i rfl (fun h=>?_) (fun h=>?_)<;>try simp only [hC,reduceCtorEq] at h)
  ·(refine vK ?_;with_reducible repeat' first|exact Le.l|refine Sw ?_ ?_|intro h)
   refine AW.loopV [6] [1,3,4,5] (fun m xs o=>∃ i:Nat,xs=[.v (.int .i64 i)]∧o=[]∧m=j - i∧i≤j∧∀ y∈(((at_ x.fSteps k).fTests.map GTest.fName).take j).take i,(y == (at_ (at_ x.fSteps k).fTests j).fName)=false) j [] trivial ⟨0,?_,rfl,rfl,?_,?_⟩ ?_
   ·rfl
   ·omega
   ·simp
   rintro m xs o ⟨i,rfl,rfl,rfl,hi,hT⟩
   (refine vU ?_;with_reducible repeat' first|exact Le.l|refine Sw ?_ ?_|intro h)
   ·rw [pathNo (by assumption) (stp_dup (by assumption) (by assumption) h)]
   ·exact ⟨_,[_],[],by omega,⟨i+1,rfl,rfl,rfl,by omega,take_step' (by rw [List.length_take,List.length_map];omega) hT (by rw [at_take (by assumption),at_mapF (by omega)];simpa using h)⟩,rfl,trivial⟩
   ·rw [pathNo (by assumption) (stp_tst (by assumption) (by rcases h with h|h<;>simp [tstOk,h]))]
   ·rw [show i=j by omega,List.take_take,Nat.min_self] at hT
    exact ⟨_,[_],[],by omega,⟨j+1,rfl,rfl,rfl,by omega,take_step' (by assumption) hS (by simp [tstOk,h.1,h.2]),allTo_step hQ (by rw [at_mapF (by assumption),cont_free hT];try rfl)⟩,rfl,trivial⟩
  ·have hst:=stp_end (s:=at_ x.fSteps k) h hj hS hQ
   (refine vU ?_;with_reducible repeat' first|exact Le.l|refine Sw ?_ ?_|intro h)
   ·rw [pathNo (by assumption) (by rw [hst];exact nm3_no h)]
   ·exact ⟨_,[_],[],by omega,⟨k+1,rfl,rfl,rfl,by omega,take_step' (by assumption) hR (by rw [hst];simp [h.1];omega)⟩,rfl,trivial⟩
 (refine vU ?_;with_reducible repeat' first|exact Le.l|refine Sw ?_ ?_|intro h)
 ·rw [isPath,all_yes h hR,pathR];simp only [dec10,decP,beq_dec,Bool.true_and]
  refine congrArg (fun b=>AV.v (.bool b)) ?_
  ac_rfl
instance iZeroPath_i(x:Dt.GPath):Ctr lim Tryz.prog 286 [] [.agg [.v (.bool x.fRoot),.v (.int .i64 x.fUps),.sl false 2 (x.fSteps.map (encStep false))]] (.v (.bool (zeroP x))) [] True:=by
 refine Ctr.of_body en286 Tryz.func286 rfl rfl fun hp=>(?_);rw [Tryz.ntmps286]
 have gOn:=GrOn.on
 (refine vU ?_;with_reducible repeat' first|exact Le.l|refine Sw ?_ ?_|intro h)
 rw [zeroP,len_z,beq_dec]
instance sPlain_i(x:Dt.GPath):Ctr lim Tryz.prog 280 [] [.agg [.v (.bool x.fRoot),.v (.int .i64 x.fUps),.sl false 2 (x.fSteps.map (encStep false))]] (.v (.bool (zeroP x))) [] True:=by
 refine Ctr.of_body en280 Tryz.func280 rfl rfl fun hp=>(?_);rw [Tryz.ntmps280]
 have gOn:=GrOn.on
 (refine vU ?_;with_reducible repeat' first|exact Le.l|refine Sw ?_ ?_|intro h)
 rw [zeroP,len_z,beq_dec]
instance sMax_i(L:Nat→Nat)(a b:Int):Ctr L Tryz.prog 91 [] [.v (.int .i64 a),.v (.int .i64 b)] (.v (.int .i64 (max a b))) [] True:=by
 refine Ctr.of_body en91 Tryz.func91 rfl rfl fun hp=>(?_);rw [Tryz.ntmps91]
 have gOn:=GrOn.on
 (refine vU ?_;with_reducible repeat' first|exact Le.l|refine Sw ?_ ?_|intro h)
 ·rw [show max a b=b by omega]
 ·rw [show max a b=a by omega]
theorem sWrt_t(x:Dt.GPath):Ctr lim Tryz.prog 281 [] [.agg [.v (.bool x.fRoot),.v (.int .i64 x.fUps),.sl false 2 (x.fSteps.map (encStep false))]] (.v (.bool (wrtP x))) [] (isPath x=true):=by
 refine Ctr.of_body en281 Tryz.func281 rfl rfl fun hp=>(?_);rw [Tryz.ntmps281]
 have gOn:=GrOn.on
 (refine vU ?_;with_reducible repeat' first|exact Le.l|refine Sw ?_ ?_|intro h)
 ·rw [wrt_a hp h]
 ·exact (wrt_b hp (by assumption)).1
 ·rw [← (wrt_b hp h).2];try rfl
end Go.Proofs.YtmcjbaafmjlblaaGreatDoor
namespace Go.Proofs.YtmcjbaafmjlblaaGreatDoor
open Go.Ab Go.Dt
set_option maxRecDepth 20000
set_option maxHeartbeats 4000000
theorem iDepE_n:∀ (n:Nat),n≤1048576→∀ (x:GExpr),Ctr lim Tryz.prog 271 [] [.agg [.v (.int .i64 x.fOp),.v (.int .i64 x.fNum),.str x.fText,.v (.bool x.fPath.fRoot),.v (.int .i64 x.fPath.fUps),.sl false 2 (x.fPath.fSteps.map (encStep false)),.sl false 7 (x.fKids.map (encExpr false))]] (.v (.int .i64 (depE x))) [] (depE x≤n)
 | 0,_,x=>⟨en271,fun h=>absurd h (by rw [depE_eq];omega)⟩
 | n+1,hn,x=>by
  have ih:=iDepE_n n (by omega)
  refine Ctr.of_body en271 Tryz.func271 rfl rfl fun hp=>(?_);rw [Tryz.ntmps271]
  have gOn:=GrOn.on
  rw [depE_eq] at hp
  refine AW.fact 0 fun hf=>?_
  simp (disch:=omega) only [go_sem] at hf
  (refine vU ?_;with_reducible repeat' first|exact Le.l|refine Sw ?_ ?_|intro h)
  refine AW.loopV [3,9] [1,7,8] (fun m xs o=>∃ k:Nat,xs=[.v (.int .i64 (depEL (x.fKids.take k))),.v (.int .i64 k)]∧o=[]∧m=x.fKids.length - k∧k≤x.fKids.length) x.fKids.length [] trivial ⟨0,?_,rfl,rfl,?_⟩ ?_
  ·rfl
  ·omega
  rintro m xs o ⟨k,rfl,rfl,rfl,hk⟩
  have hd:=depEL_take x.fKids k
  have hkk:k<x.fKids.length→depE (at_ x.fKids k)≤n:=fun h=>by have:=depEL_mem (at_mem h);omega
  (refine vU ?_;with_reducible repeat' first|exact Le.l|refine Sw ?_ ?_|intro h)
  ·exact ⟨_,[_,_],[],by omega,⟨k+1,rfl,rfl,rfl,by omega⟩,by rw [depEL_step (by assumption),if_max];try rfl,trivial⟩
  ·rw [depE_eq,show k=x.fKids.length by omega,List.take_length]
instance iDepE_i(x:GExpr):Ctr lim Tryz.prog 271 [] [.agg [.v (.int .i64 x.fOp),.v (.int .i64 x.fNum),.str x.fText,.v (.bool x.fPath.fRoot),.v (.int .i64 x.fPath.fUps),.sl false 2 (x.fPath.fSteps.map (encStep false)),.sl false 7 (x.fKids.map (encExpr false))]] (.v (.int .i64 (depE x))) [] (depE x≤1048576):=iDepE_n 1048576 (Nat.le_refl _) x
theorem sDepE_n:∀ (n:Nat),n≤1048576→∀ (x:GExpr),Ctr lim Tryz.prog 263 [] [.agg [.v (.int .i64 x.fOp),.v (.int .i64 x.fNum),.str x.fText,.v (.bool x.fPath.fRoot),.v (.int .i64 x.fPath.fUps),.sl false 2 (x.fPath.fSteps.map (encStep false)),.sl false 7 (x.fKids.map (encExpr false))]] (.v (.int .i64 (depE x))) [] (depE x≤n)
 | 0,_,x=>⟨en263,fun h=>absurd h (by rw [depE_eq];omega)⟩
 | n+1,hn,x=>by
  have ih:=sDepE_n n (by omega)
  refine Ctr.of_body en263 Tryz.func263 rfl rfl fun hp=>(?_);rw [Tryz.ntmps263]
  have gOn:=GrOn.on
  rw [depE_eq] at hp
  refine AW.fact 0 fun hf=>?_
  simp (disch:=omega) only [go_sem] at hf
  (refine vU ?_;with_reducible repeat' first|exact Le.l|refine Sw ?_ ?_|intro h)
  refine AW.loopV [3,4] [1] (fun m xs o=>∃ k:Nat,xs=[.v (.int .i64 (depEL (x.fKids.take k))),.v (.int .i64 k)]∧o=[]∧m=x.fKids.length - k∧k≤x.fKids.length) x.fKids.length [] trivial ⟨0,?_,rfl,rfl,?_⟩ ?_
  ·rfl
  ·omega
  rintro m xs o ⟨k,rfl,rfl,rfl,hk⟩
  have hd:=depEL_take x.fKids k
  have hkk:k<x.fKids.length→depE (at_ x.fKids k)≤n:=fun h=>by have:=depEL_mem (at_mem h);omega
  (refine vU ?_;with_reducible repeat' first|exact Le.l|refine Sw ?_ ?_|intro h)
  ·exact ⟨_,[_,_],[],by omega,⟨k+1,rfl,rfl,rfl,by omega⟩,by rw [depEL_step (by assumption),int_max];try rfl,trivial⟩
  ·rw [depE_eq,show k=x.fKids.length by omega,List.take_length]
instance sDepE_i(x:GExpr):Ctr lim Tryz.prog 263 [] [.agg [.v (.int .i64 x.fOp),.v (.int .i64 x.fNum),.str x.fText,.v (.bool x.fPath.fRoot),.v (.int .i64 x.fPath.fUps),.sl false 2 (x.fPath.fSteps.map (encStep false)),.sl false 7 (x.fKids.map (encExpr false))]] (.v (.int .i64 (depE x))) [] (depE x≤1048576):=sDepE_n 1048576 (Nat.le_refl _) x
theorem iVE_n:∀ (n:Nat) (x:GExpr),Ctr lim Tryz.prog 272 [] [.agg [.v (.int .i64 x.fOp),.v (.int .i64 x.fNum),.str x.fText,.v (.bool x.fPath.fRoot),.v (.int .i64 x.fPath.fUps),.sl false 2 (x.fPath.fSteps.map (encStep false)),.sl false 7 (x.fKids.map (encExpr false))]] (.v (.bool (vE x))) [] (SizeOf.sizeOf x<n)
 | 0,x=>⟨en272,fun h=>absurd h (Nat.not_lt_zero _)⟩
 | n+1,x=>by
  have ih:=iVE_n n
  refine Ctr.of_body en272 Tryz.func272 rfl rfl fun hp=>(?_);rw [Tryz.ntmps272]
  have gOn:=GrOn.on
  have hkk:∀ k,k<x.fKids.length→SizeOf.sizeOf (at_ x.fKids k)<n:=fun k h=>by have:=GExpr.kid_lt (at_mem h);omega
  refine AW.fact 0 fun hf=>?_
  simp (disch:=omega) only [go_sem] at hf
  (refine vU ?_;with_reducible repeat' first|exact Le.l|refine Sw ?_ ?_|intro h)
  ·rw [ex_f (by rw [exN_eq,emp_iff,exL,kidsN];grind)]
  ·refine congrArg (fun b=>AV.v (.bool b)) ?_
   rw [vE_eq,ex_leaf (by grind),exN_eq,emp_iff,exL,kidsN];grind
  ·rw [ex_f (by rw [exN_eq,emp_iff,exL,kidsN];grind)]
  ·refine congrArg (fun b=>AV.v (.bool b)) ?_
   rw [vE_eq,ex_leaf (by grind),exN_eq,emp_iff,exL,kidsN];grind
  ·rw [ex_f (by rw [exN_eq,emp_iff,exL,kidsN];grind)]
  ·refine congrArg (fun b=>AV.v (.bool b)) ?_
   rw [vE_eq,ex_leaf (by grind),exN_eq,emp_iff,exL,kidsN];simp only [len_z];simp only [beq_dec,decP,wrtP];grind
  ·rw [ex_f (by rw [exN_eq,emp_iff,exL,kidsN];grind)]
  ·refine congrArg (fun b=>AV.v (.bool b)) ?_
   rw [vE_eq,ex_leaf (by grind),exN_eq,emp_iff,exL,kidsN];grind
  ·rw [ex_f (by rw [exN_eq,emp_iff,exL,kidsN];grind)]
  ·refine AW.loopV [144] [1,142,143] (fun m xs o=>∃ k:Nat,xs=[.v (.int .i64 k)]∧o=[]∧m=x.fKids.length - k∧k≤x.fKids.length∧∀ y∈x.fKids.take k,(!vE y)=false) x.fKids.length [] trivial ⟨0,?_,rfl,rfl,?_,?_⟩ ?_
   ·rfl
   ·omega
   ·simp
   rintro m xs o ⟨k,rfl,rfl,rfl,hk,hR⟩
   have hkk:=hkk k
   (refine vU ?_;with_reducible repeat' first|exact Le.l|refine Sw ?_ ?_|intro h)
   ·rw [vE_no (by assumption) h]
   ·exact ⟨_,[_],[],by omega,⟨k+1,rfl,rfl,rfl,by omega,take_step' (by assumption) hR (by simp [h])⟩,rfl,trivial⟩
   ·rw [vE_eq,all_yes (by assumption) hR,exN_eq,emp_iff,exL,kidsN];congr 2;grind
  ·rw [ex_f (by rw [exN_eq,emp_iff,exL,kidsN];grind)]
  ·refine AW.loopV [144] [1,142,143] (fun m xs o=>∃ k:Nat,xs=[.v (.int .i64 k)]∧o=[]∧m=x.fKids.length - k∧k≤x.fKids.length∧∀ y∈x.fKids.take k,(!vE y)=false) x.fKids.length [] trivial ⟨0,?_,rfl,rfl,?_,?_⟩ ?_
   ·rfl
   ·omega
   ·simp
   rintro m xs o ⟨k,rfl,rfl,rfl,hk,hR⟩
   have hkk:=hkk k
   (refine vU ?_;with_reducible repeat' first|exact Le.l|refine Sw ?_ ?_|intro h)
   ·rw [vE_no (by assumption) h]
   ·exact ⟨_,[_],[],by omega,⟨k+1,rfl,rfl,rfl,by omega,take_step' (by assumption) hR (by simp [h])⟩,rfl,trivial⟩
   ·rw [vE_eq,all_yes (by assumption) hR,exN_eq,emp_iff,exL,kidsN];congr 2;grind
instance iVE_i(x:GExpr):Ctr lim Tryz.prog 272 [] [.agg [.v (.int .i64 x.fOp),.v (.int .i64 x.fNum),.str x.fText,.v (.bool x.fPath.fRoot),.v (.int .i64 x.fPath.fUps),.sl false 2 (x.fPath.fSteps.map (encStep false)),.sl false 7 (x.fKids.map (encExpr false))]] (.v (.bool (vE x))) [] True:=⟨en272,fun _=>(iVE_n (SizeOf.sizeOf x+1) x).out (Nat.lt_succ_self _)⟩
end Go.Proofs.YtmcjbaafmjlblaaGreatDoor
namespace Go.Proofs.YtmcjbaafmjlblaaGreatDoor
open Go.Ab Go.Dt
set_option maxRecDepth 20000
set_option maxHeartbeats 4000000
theorem sVE_n:∀ (n:Nat) (x:GExpr),Ctr lim Tryz.prog 264 [] [.agg [.v (.int .i64 x.fOp),.v (.int .i64 x.fNum),.str x.fText,.v (.bool x.fPath.fRoot),.v (.int .i64 x.fPath.fUps),.sl false 2 (x.fPath.fSteps.map (encStep false)),.sl false 7 (x.fKids.map (encExpr false))]] (.v (.bool (vE x))) [] (SizeOf.sizeOf x<n)
 | 0,x=>⟨en264,fun h=>absurd h (Nat.not_lt_zero _)⟩
 | n+1,x=>by
  have ih:=sVE_n n
  haveI hw:=sWrt_t x.fPath
  refine Ctr.of_body en264 Tryz.func264 rfl rfl fun hp=>(?_);rw [Tryz.ntmps264]
  have gOn:=GrOn.on
  have hkk:∀ k,k<x.fKids.length→SizeOf.sizeOf (at_ x.fKids k)<n:=fun k h=>by have:=GExpr.kid_lt (at_mem h);omega
  refine AW.fact 0 fun hf=>?_
  simp (disch:=omega) only [go_sem] at hf
  (refine vU ?_;with_reducible repeat' first|exact Le.l|refine Sw ?_ ?_|intro h)
  ·rw [ex_f (by rw [exN_eq,emp_iff,exL,kidsN];grind)]
  ·refine AW.loopV [6] [1,3] (fun m xs o=>∃ k:Nat,xs=[.v (.int .i64 k)]∧o=[]∧m=x.fKids.length - k∧k≤x.fKids.length∧∀ y∈x.fKids.take k,(!vE y)=false) x.fKids.length [] trivial ⟨0,?_,rfl,rfl,?_,?_⟩ ?_
   ·rfl
   ·omega
   ·simp
   rintro m xs o ⟨k,rfl,rfl,rfl,hk,hR⟩
   have hkk:=hkk k
   (refine vU ?_;with_reducible repeat' first|exact Le.l|refine Sw ?_ ?_|intro h)
   ·rw [vE_eq,all_yes (show ¬ k<x.fKids.length by omega) hR,exN_eq,emp_iff,exL,kidsN];congr 2;grind
  ·rw [ex_f (by rw [exN_eq,emp_iff,exL,kidsN];grind)]
  ·refine AW.loopV [6] [1,3] (fun m xs o=>∃ k:Nat,xs=[.v (.int .i64 k)]∧o=[]∧m=x.fKids.length - k∧k≤x.fKids.length∧∀ y∈x.fKids.take k,(!vE y)=false) x.fKids.length [] trivial ⟨0,?_,rfl,rfl,?_,?_⟩ ?_
   ·rfl
   ·omega
   ·simp
   rintro m xs o ⟨k,rfl,rfl,rfl,hk,hR⟩
   have hkk:=hkk k
   (refine vU ?_;with_reducible repeat' first|exact Le.l|refine Sw ?_ ?_|intro h)
   ·rw [vE_eq,all_yes (show ¬ k<x.fKids.length by omega) hR,exN_eq,emp_iff,exL,kidsN];congr 2;grind
  ·rw [ex_f (by rw [exN_eq,emp_iff,exL,kidsN];grind)]
  ·refine AW.loopV [6] [1,3] (fun m xs o=>∃ k:Nat,xs=[.v (.int .i64 k)]∧o=[]∧m=x.fKids.length - k∧k≤x.fKids.length∧∀ y∈x.fKids.take k,(!vE y)=false) x.fKids.length [] trivial ⟨0,?_,rfl,rfl,?_,?_⟩ ?_
   ·rfl
   ·omega
   ·simp
   rintro m xs o ⟨k,rfl,rfl,rfl,hk,hR⟩
   have hkk:=hkk k
   (refine vU ?_;with_reducible repeat' first|exact Le.l|refine Sw ?_ ?_|intro h)
   ·rw [vE_eq,all_yes (show ¬ k<x.fKids.length by omega) hR,exN_eq,emp_iff,exL,kidsN];congr 2;grind
  ·rw [ex_f (by rw [exN_eq,emp_iff,exL,kidsN];grind)]
  ·refine AW.loopV [6] [1,3] (fun m xs o=>∃ k:Nat,xs=[.v (.int .i64 k)]∧o=[]∧m=x.fKids.length - k∧k≤x.fKids.length∧∀ y∈x.fKids.take k,(!vE y)=false) x.fKids.length [] trivial ⟨0,?_,rfl,rfl,?_,?_⟩ ?_
   ·rfl
   ·omega
   ·simp
   rintro m xs o ⟨k,rfl,rfl,rfl,hk,hR⟩
   have hkk:=hkk k
   (refine vU ?_;with_reducible repeat' first|exact Le.l|refine Sw ?_ ?_|intro h)
   ·rw [vE_no (show k<x.fKids.length by omega) h]
   ·exact ⟨_,[_],[],by omega,⟨k+1,rfl,rfl,rfl,by omega,take_step' (by omega) hR (by simp [h])⟩,rfl,trivial⟩
   ·rw [vE_eq,all_yes (show ¬ k<x.fKids.length by omega) hR,exN_eq,emp_iff,exL,kidsN];congr 2;grind
  ·rw [ex_f (by rw [exN_eq,emp_iff,exL,kidsN];grind)]
  ·refine AW.loopV [6] [1,3] (fun m xs o=>∃ k:Nat,xs=[.v (.int .i64 k)]∧o=[]∧m=x.fKids.length - k∧k≤x.fKids.length∧∀ y∈x.fKids.take k,(!vE y)=false) x.fKids.length [] trivial ⟨0,?_,rfl,rfl,?_,?_⟩ ?_
   ·rfl
   ·omega
   ·simp
   rintro m xs o ⟨k,rfl,rfl,rfl,hk,hR⟩
   have hkk:=hkk k
   (refine vU ?_;with_reducible repeat' first|exact Le.l|refine Sw ?_ ?_|intro h)
   ·rw [vE_no (show k<x.fKids.length by omega) h]
   ·exact ⟨_,[_],[],by omega,⟨k+1,rfl,rfl,rfl,by omega,take_step' (by omega) hR (by simp [h])⟩,rfl,trivial⟩
   ·rw [vE_eq,all_yes (show ¬ k<x.fKids.length by omega) hR,exN_eq,emp_iff,exL,kidsN];congr 2;grind
  ·rw [ex_f (by rw [exN_eq,emp_iff,exL,kidsN];grind)]
instance sVE_i(x:GExpr):Ctr lim Tryz.prog 264 [] [.agg [.v (.int .i64 x.fOp),.v (.int .i64 x.fNum),.str x.fText,.v (.bool x.fPath.fRoot),.v (.int .i64 x.fPath.fUps),.sl false 2 (x.fPath.fSteps.map (encStep false)),.sl false 7 (x.fKids.map (encExpr false))]] (.v (.bool (vE x))) [] True:=⟨en264,fun _=>(sVE_n (SizeOf.sizeOf x+1) x).out (Nat.lt_succ_self _)⟩
instance iIsExpr_i(x:GExpr):Ctr lim Tryz.prog 254 [] [.agg [.v (.int .i64 x.fOp),.v (.int .i64 x.fNum),.str x.fText,.v (.bool x.fPath.fRoot),.v (.int .i64 x.fPath.fUps),.sl false 2 (x.fPath.fSteps.map (encStep false)),.sl false 7 (x.fKids.map (encExpr false))]] (.v (.bool (exOk x))) [] (depE x≤1048576):=by
 refine Ctr.of_body en254 Tryz.func254 rfl rfl fun hp=>(?_);rw [Tryz.ntmps254]
 have gOn:=GrOn.on
 (refine vU ?_;with_reducible repeat' first|exact Le.l|refine Sw ?_ ?_|intro h)
 rw [exOk,show decide ((depE x:Int)≤8)=decide (depE x≤8) from decide_eq_decide.2 (by omega)]
instance sIsExpr_i(x:GExpr):Ctr lim Tryz.prog 242 [] [.agg [.v (.int .i64 x.fOp),.v (.int .i64 x.fNum),.str x.fText,.v (.bool x.fPath.fRoot),.v (.int .i64 x.fPath.fUps),.sl false 2 (x.fPath.fSteps.map (encStep false)),.sl false 7 (x.fKids.map (encExpr false))]] (.v (.bool (exOk x))) [] (depE x≤1048576):=by
 refine Ctr.of_body en242 Tryz.func242 rfl rfl fun hp=>(?_);rw [Tryz.ntmps242]
 have gOn:=GrOn.on
 (refine vU ?_;with_reducible repeat' first|exact Le.l|refine Sw ?_ ?_|intro h)
 rw [exOk,show decide ((depE x:Int)≤8)=decide (depE x≤8) from decide_eq_decide.2 (by omega)]
end Go.Proofs.YtmcjbaafmjlblaaGreatDoor
namespace Go.Proofs.YtmcjbaafmjlblaaGreatDoor
open Go.Ab Go.Dt
set_option maxRecDepth 20000
set_option maxHeartbeats 4000000
attribute [local go_sem] frzL_str encSchemaM_frz
theorem if_max2(a b:Nat):(if 1+(b:Int) > (a:Int) then 1+(b:Int) else (a:Int))=((max a (1+b):Nat):Int):=by split<;>omega
instance iIsData_i(L:Nat→Nat)(k:Int):Ctr L Tryz.prog 207 [] [.v (.int .i64 k)] (.v (.bool (isDataK k))) [] (True):=by
 refine Ctr.of_body en207 Tryz.func207 rfl rfl fun hp=>(?_);rw [Tryz.ntmps207]
 have gOn:=GrOn.on
 (refine vU ?_;with_reducible repeat' first|exact Le.l|refine Sw ?_ ?_|intro h)
 refine congrArg (fun b=>AV.v (.bool b)) ?_
 unfold isDataK;grind
instance sIsData_i(L:Nat→Nat)(k:Int):Ctr L Tryz.prog 166 [] [.v (.int .i64 k)] (.v (.bool (isDataK k))) [] (True):=by
 refine Ctr.of_body en166 Tryz.func166 rfl rfl fun hp=>(?_);rw [Tryz.ntmps166]
 have gOn:=GrOn.on
 (refine vU ?_;with_reducible repeat' first|exact Le.l|refine Sw ?_ ?_|intro h)
 refine congrArg (fun b=>AV.v (.bool b)) ?_
 unfold isDataK;grind
instance iNoTy_i(x:GType):Ctr lim Tryz.prog 229 [] [.agg [.v (.int .i64 x.fKind),.sl false 2 (x.fRanges.map (encRange false)),.sl false 1 (x.fNames.map AV.str),.str x.fPattern,.str x.fPath]] (.v (.bool (noTy x))) [] (True):=by
 refine Ctr.of_body en229 Tryz.func229 rfl rfl fun hp=>(?_);rw [Tryz.ntmps229]
 have gOn:=GrOn.on
 (refine vU ?_;with_reducible repeat' first|exact Le.l|refine Sw ?_ ?_|intro h)
 refine congrArg (fun b=>AV.v (.bool b)) ?_
 rw [noTy];simp only [len_z,emp_beq];simp only [beq_dec]
instance sNoTy_i(x:GType):Ctr lim Tryz.prog 219 [] [.agg [.v (.int .i64 x.fKind),.sl false 2 (x.fRanges.map (encRange false)),.sl false 1 (x.fNames.map AV.str),.str x.fPattern,.str x.fPath]] (.v (.bool (noTy x))) [] (True):=by
 refine Ctr.of_body en219 Tryz.func219 rfl rfl fun hp=>(?_);rw [Tryz.ntmps219]
 have gOn:=GrOn.on
 (refine vU ?_;with_reducible repeat' first|exact Le.l|refine Sw ?_ ?_|intro h)
 refine congrArg (fun b=>AV.v (.bool b)) ?_
 rw [noTy];simp only [len_z,emp_beq];simp only [beq_dec]
instance iSize_i(x:GSchema):Ctr lim Tryz.prog 231 [] [.agg [.v (.int .i64 x.fKind),.str x.fName,.v (.int .i64 x.fType.fKind),.sl false 2 (x.fType.fRanges.map (encRange false)),.sl false 1 (x.fType.fNames.map AV.str),.str x.fType.fPattern,.str x.fType.fPath,.sl false 1 (x.fKeys.map AV.str),.sl false 1 (x.fUnique.map AV.str),.str x.fDefault,.v (.bool x.fGiven),.v (.bool x.fNeeded),.v (.bool x.fPresent),.v (.bool x.fFixed),.v (.int .i64 x.fMin),.v (.int .i64 x.fMax),.sl false 7 (x.fWhen.map (encExpr false)),.sl false 7 (x.fMust.map (encExpr false)),.sl false 19 (x.fKids.map (encSchema false))]] (.v (.bool (sizeR x))) [] (True):=by
 refine Ctr.of_body en231 Tryz.func231 rfl rfl fun hp=>(?_);rw [Tryz.ntmps231]
 have gOn:=GrOn.on
 (refine vU ?_;with_reducible repeat' first|exact Le.l|refine Sw ?_ ?_|intro h)
 refine congrArg (fun b=>AV.v (.bool b)) ?_
 rw [sizeR];grind
instance sSize_i(x:GSchema):Ctr lim Tryz.prog 222 [] [.agg [.v (.int .i64 x.fKind),.str x.fName,.v (.int .i64 x.fType.fKind),.sl false 2 (x.fType.fRanges.map (encRange false)),.sl false 1 (x.fType.fNames.map AV.str),.str x.fType.fPattern,.str x.fType.fPath,.sl false 1 (x.fKeys.map AV.str),.sl false 1 (x.fUnique.map AV.str),.str x.fDefault,.v (.bool x.fGiven),.v (.bool x.fNeeded),.v (.bool x.fPresent),.v (.bool x.fFixed),.v (.int .i64 x.fMin),.v (.int .i64 x.fMax),.sl false 7 (x.fWhen.map (encExpr false)),.sl false 7 (x.fMust.map (encExpr false)),.sl false 19 (x.fKids.map (encSchema false))]] (.v (.bool (sizeR x))) [] (True):=by
 refine Ctr.of_body en222 Tryz.func222 rfl rfl fun hp=>(?_);rw [Tryz.ntmps222]
 have gOn:=GrOn.on
 (refine vU ?_;with_reducible repeat' first|exact Le.l|refine Sw ?_ ?_|intro h)
 refine congrArg (fun b=>AV.v (.bool b)) ?_
 rw [sizeR];grind
instance iAreEx_i(l:List GExpr)(q:Int):Ctr lim Tryz.prog 228 [] [.sl false 7 (l.map (encExpr false)),.v (.int .i64 q)] (.v (.bool (exS l q))) [] (depEL l≤1048576):=by
 refine Ctr.of_body en228 Tryz.func228 rfl rfl fun hp=>(?_);rw [Tryz.ntmps228]
 have gOn:=GrOn.on
 refine AW.fact 0 fun hf=>?_
 simp (disch:=omega) only [go_sem] at hf
 (refine vU ?_;with_reducible repeat' first|exact Le.l|refine Sw ?_ ?_|intro h)
 refine AW.loopV [9] [0,1,7,8] (fun m xs o=>∃ k:Nat,xs=[.v (.int .i64 k)]∧o=[]∧m=l.length - k∧k≤l.length∧∀ y∈l.take k,(!exOk y)=false) l.length [] trivial ⟨0,?_,rfl,rfl,?_,?_⟩ ?_
 ·rfl
 ·omega
 ·simp
 rintro m xs o ⟨k,rfl,rfl,rfl,hk,hR⟩
 have hkk:k<l.length→depE (at_ l k)≤1048576:=fun h=>by have:=depEL_mem (at_mem h);omega
 (refine vU ?_;with_reducible repeat' first|exact Le.l|refine Sw ?_ ?_|intro h)
 ·rw [exS,all_no (by assumption) h];try rfl
 ·exact ⟨_,[_],[],by omega,⟨k+1,rfl,rfl,rfl,by omega,take_step' (by assumption) hR (by simp [h])⟩,rfl,trivial⟩
 ·rw [exS,all_yes (by assumption) hR];try rfl
instance sAreEx_i(l:List GExpr)(q:Int):Ctr lim Tryz.prog 218 [] [.sl false 7 (l.map (encExpr false)),.v (.int .i64 q)] (.v (.bool (exS l q))) [] (depEL l≤1048576):=by
 refine Ctr.of_body en218 Tryz.func218 rfl rfl fun hp=>(?_);rw [Tryz.ntmps218]
 have gOn:=GrOn.on
 refine AW.fact 0 fun hf=>?_
 simp (disch:=omega) only [go_sem] at hf
 (refine vU ?_;with_reducible repeat' first|exact Le.l|refine Sw ?_ ?_|intro h)
 refine AW.loopV [5] [0,1] (fun m xs o=>∃ k:Nat,xs=[.v (.int .i64 k)]∧o=[]∧m=l.length - k∧k≤l.length∧∀ y∈l.take k,(!exOk y)=false) l.length [] trivial ⟨0,?_,rfl,rfl,?_,?_⟩ ?_
 ·rfl
 ·omega
 ·simp
 rintro m xs o ⟨k,rfl,rfl,rfl,hk,hR⟩
 have hkk:k<l.length→depE (at_ l k)≤1048576:=fun h=>by have:=depEL_mem (at_mem h);omega
 (refine vU ?_;with_reducible repeat' first|exact Le.l|refine Sw ?_ ?_|intro h)
 ·rw [exS,all_no (by assumption) h];try rfl
 ·exact ⟨_,[_],[],by omega,⟨k+1,rfl,rfl,rfl,by omega,take_step' (by assumption) hR (by simp [h])⟩,rfl,trivial⟩
 ·rw [exS,all_yes (by assumption) hR];try rfl
instance iNamesOf_i(l:List GSchema):Ctr lim Tryz.prog 154 [] [.sl false 19 (l.map (encSchema false))] (.sl true 1 ((nmS l).map AV.str)) [] (True):=by
 refine Ctr.of_body en154 Tryz.func154 rfl rfl fun hp=>(?_);rw [Tryz.ntmps154]
 have gOn:=GrOn.on
 refine AW.fact 0 fun hf=>?_
 simp (disch:=omega) only [go_sem] at hf
 (refine vU ?_;with_reducible repeat' first|exact Le.l|refine Sw ?_ ?_|intro h)
 refine AW.loopV [3,9] [7,8] (fun m xs o=>∃ k:Nat,xs=[.sl true 1 (((l.take k).map GSchema.fName).map AV.str),.v (.int .i64 k)]∧o=[]∧m=l.length - k∧k≤l.length) l.length [] trivial ⟨0,?_,rfl,rfl,?_⟩ ?_
 ·rfl
 ·omega
 rintro m xs o ⟨k,rfl,rfl,rfl,hk⟩
 have hlen:(List.take k l).length≤2147483648:=by rw [List.length_take];omega
 (refine vU ?_;with_reducible repeat' first|exact Le.l|refine Sw ?_ ?_|intro h)
 ·exact ⟨_,[_,_],[],by omega,⟨k+1,rfl,rfl,rfl,by omega⟩,by rw [tk1m (by assumption)];try rfl,trivial⟩
 ·rw [take_all (by assumption)];try rfl
theorem iCntS_n:∀ (n:Nat) (l:List GSchema),Ctr lim Tryz.prog 169 [] [.sl false 19 (l.map (encSchema false))] (.v (.int .i64 (cntS l))) [] (SizeOf.sizeOf l<n∧cntS l≤1048576)
 | 0,l=>⟨en169,fun h=>absurd h.1 (Nat.not_lt_zero _)⟩
 | n+1,l=>by
  have ih:=iCntS_n n
  refine Ctr.of_body en169 Tryz.func169 rfl rfl fun hp=>(?_);rw [Tryz.ntmps169]
  have gOn:=GrOn.on
  obtain ⟨hs,hb⟩:=hp
  refine AW.fact 0 fun hf=>?_
  simp (disch:=omega) only [go_sem] at hf
  (refine vU ?_;with_reducible repeat' first|exact Le.l|refine Sw ?_ ?_|intro h)
  refine AW.loopV [3,10] [8,9] (fun m xs o=>∃ k:Nat,xs=[.v (.int .i64 ((l.length - k+cntS (l.take k):Nat):Int)),.v (.int .i64 k)]∧o=[]∧m=l.length - k∧k≤l.length) l.length [] trivial ⟨0,?_,rfl,rfl,?_⟩ ?_
  ·rw [show l.length - 0+cntS (l.take 0)=l.length by simp [cntS]];try rfl
  ·omega
  rintro m xs o ⟨k,rfl,rfl,rfl,hk⟩
  have h1:=cntS_take l k
  have h2:k<l.length→SizeOf.sizeOf (at_ l k).fKids<n∧cntS (at_ l k).fKids≤1048576:=fun h=>by
   have:=cntS_kid (at_mem h);have:=GSchema.kids_lt (at_mem h);omega
  have h3:k<l.length→cntS (l.take (k+1))≤cntS l:=fun _=>by have:=cntS_take l (k+1);omega
  (refine vU ?_;with_reducible repeat' first|exact Le.l|refine Sw ?_ ?_|intro h)
  ·exact ⟨_,[_,_],[],by omega,⟨k+1,rfl,rfl,rfl,by omega⟩,by rw [show l.length - (k+1)+cntS (l.take (k+1))=l.length - k+cntS (l.take k)+cntS (at_ l k).fKids by rw [cntS_step (by assumption)];omega];try rfl,trivial⟩
  ·rw [show l.length - k+cntS (l.take k)=cntS l by rw [List.take_of_length_le (by omega)];omega]
theorem iDepS_n:∀ (n:Nat) (l:List GSchema),Ctr lim Tryz.prog 170 [] [.sl false 19 (l.map (encSchema false))] (.v (.int .i64 (depS l))) [] (SizeOf.sizeOf l<n∧depS l≤1048576)
 | 0,l=>⟨en170,fun h=>absurd h.1 (Nat.not_lt_zero _)⟩
 | n+1,l=>by
  have ih:=iDepS_n n
  refine Ctr.of_body en170 Tryz.func170 rfl rfl fun hp=>(?_);rw [Tryz.ntmps170]
  have gOn:=GrOn.on
  obtain ⟨hs,hb⟩:=hp
  refine AW.fact 0 fun hf=>?_
  simp (disch:=omega) only [go_sem] at hf
  (refine vU ?_;with_reducible repeat' first|exact Le.l|refine Sw ?_ ?_|intro h)
  refine AW.loopV [3,8] [6,7] (fun m xs o=>∃ k:Nat,xs=[.v (.int .i64 ((depS (l.take k):Nat):Int)),.v (.int .i64 k)]∧o=[]∧m=l.length - k∧k≤l.length) l.length [] trivial ⟨0,?_,rfl,rfl,?_⟩ ?_
  ·rw [show depS (l.take 0)=0 by simp [depS]];try rfl
  ·omega
  rintro m xs o ⟨k,rfl,rfl,rfl,hk⟩
  have h1:=depS_take l k
  have h2:k<l.length→SizeOf.sizeOf (at_ l k).fKids<n∧depS (at_ l k).fKids≤1048576:=fun h=>by
   have:=depS_kid (at_mem h);have:=GSchema.kids_lt (at_mem h);omega
  have h3:k<l.length→depS (l.take (k+1))≤depS l:=fun _=>by have:=depS_take l (k+1);omega
  (refine vU ?_;with_reducible repeat' first|exact Le.l|refine Sw ?_ ?_|intro h)
  ·exact ⟨_,[_,_],[],by omega,⟨k+1,rfl,rfl,rfl,by omega⟩,by rw [depS_step (by assumption),if_max2];try rfl,trivial⟩
  ·rw [List.take_of_length_le (by omega)]
instance iCntS_i(l:List GSchema):Ctr lim Tryz.prog 169 [] [.sl false 19 (l.map (encSchema false))] (.v (.int .i64 (cntS l))) [] (cntS l≤1048576):=⟨en169,fun h=>(iCntS_n (SizeOf.sizeOf l+1) l).out ⟨Nat.lt_succ_self _,h⟩⟩
instance iDepS_i(l:List GSchema):Ctr lim Tryz.prog 170 [] [.sl false 19 (l.map (encSchema false))] (.v (.int .i64 (depS l))) [] (depS l≤1048576):=⟨en170,fun h=>(iDepS_n (SizeOf.sizeOf l+1) l).out ⟨Nat.lt_succ_self _,h⟩⟩
end Go.Proofs.YtmcjbaafmjlblaaGreatDoor
namespace Go.Dt
open Go Go.Ab
def dkF:List GSchema→Bool→List Bool
 | [],_=>[]
 | .mk k _ _ _ _ _ _ _ _ _ _ _ _ _ ks::xs,h=>(if isDataK k=true then [h] else if k=5∨k=6 then dkF ks (h || k == 6) else [])++dkF xs h
theorem dkF_cons(x:GSchema)(xs:List GSchema)(h:Bool):dkF (x::xs) h=(if isDataK x.fKind=true then [h] else if x.fKind=5∨x.fKind=6 then dkF x.fKids (h || x.fKind == 6) else [])++dkF xs h:=by cases x;rw [dkF];rfl
theorem dk_app:∀ (l:List GSchema) (x:GSchema),dk (l++[x])=dk l++(if isDataK x.fKind=true then [x] else if x.fKind=5∨x.fKind=6 then dk x.fKids else [])
 | [],x=>by rw [List.nil_append,dk_cons];simp [dk]
 | y::l,x=>by rw [List.cons_append,dk_cons,dk_cons,dk_app l x,List.append_assoc]
theorem dkF_app(h:Bool):∀ (l:List GSchema) (x:GSchema),dkF (l++[x]) h=dkF l h++(if isDataK x.fKind=true then [h] else if x.fKind=5∨x.fKind=6 then dkF x.fKids (h || x.fKind == 6) else [])
 | [],x=>by rw [List.nil_append,dkF_cons];simp [dkF]
 | y::l,x=>by rw [List.cons_append,dkF_cons,dkF_cons,dkF_app h l x,List.append_assoc]
theorem dk_step{l:List GSchema}{k:Nat}(h:k<l.length):dk (l.take (k+1))=dk (l.take k)++(if isDataK (at_ l k).fKind=true then [at_ l k] else if (at_ l k).fKind=5∨(at_ l k).fKind=6 then dk (at_ l k).fKids else []):=by rw [tk1 h,dk_app]
theorem dkF_step{l:List GSchema}{k:Nat}{b:Bool}(h:k<l.length):dkF (l.take (k+1)) b=dkF (l.take k) b++(if isDataK (at_ l k).fKind=true then [b] else if (at_ l k).fKind=5∨(at_ l k).fKind=6 then dkF (at_ l k).fKids (b || (at_ l k).fKind == 6) else []):=by rw [tk1 h,dkF_app]
theorem dk_len:∀ (l:List GSchema),(dk l).length≤cntS l
 | []=>by simp [dk]
 | .mk k _ _ _ _ _ _ _ _ _ _ _ _ _ ks::xs=>by
  have h1:=dk_len ks;have h2:=dk_len xs
  rw [dk,cntS,List.length_append]
  split
  ·simp;omega
  ·split
   ·omega
   ·simp;omega
theorem dkF_len:∀ (l:List GSchema) (h:Bool),(dkF l h).length=(dk l).length
 | [],h=>by simp [dk,dkF]
 | .mk k _ _ _ _ _ _ _ _ _ _ _ _ _ ks::xs,h=>by
  rw [dk,dkF,List.length_append,List.length_append,dkF_len xs h]
  split
  ·simp
  ·split
   ·rw [dkF_len ks]
   ·simp
theorem cntS_le{l:List GSchema}{k:Nat}:cntS (l.take k)≤cntS l:=by have:=cntS_take l k;omega
end Go.Dt
