/-
  Part of a proof: Cp0, Cp1.
-/
import Derived.Test.YtkdchlggdcmkbaaGreatG1
import Derived.Test.YtkdchlggdcmkbaaGreatG8
import Derived.Test.YtkdchlggdcmkbaaGreatG16
set_option linter.unusedSimpArgs false
set_option linter.unusedVariables false
namespace Go.Dt
open Go.Ab
theorem closedL_mem {α : Type} {f : α → AV} : ∀ (l : List α), (∀ x ∈ l, (f x).closed = true) → AV.closedL (l.map f) = true
  | [], _ => rfl
  | x :: xs, h => by simp only [List.map_cons, AV.closedL, h x (by simp), closedL_mem xs fun y hy => h y (by simp [hy]), Bool.true_and]
theorem str_cl (l : List Str) : AV.closedL (l.map AV.str) = true := closedL_mem l fun _ _ => rfl
theorem enRange_all (o : Bool) (l : List GRange) : (l.map (encRange o)).all (AV.elem 2) = true := map_all_elem (fun _ => rfl) l
theorem enRange_one (o : Bool) (l : List GRange) : ((l.map (encRange o)).flatMap AV.cells).all AV.one = true := map_all_one (fun _ => rfl) l
theorem enRange_c (x : GRange) : (encRange true x).closed = true := by simp only [encRange, AV.closed, AV.closedL, str_cl, Bool.true_and, Bool.and_true]
theorem enRange_cl (l : List GRange) : AV.closedL (l.map (encRange true)) = true := closedL_mem l fun x _ => enRange_c x
theorem enTest_all (o : Bool) (l : List GTest) : (l.map (encTest o)).all (AV.elem 2) = true := map_all_elem (fun _ => rfl) l
theorem enTest_one (o : Bool) (l : List GTest) : ((l.map (encTest o)).flatMap AV.cells).all AV.one = true := map_all_one (fun _ => rfl) l
theorem enTest_c (x : GTest) : (encTest true x).closed = true := by simp only [encTest, AV.closed, AV.closedL, str_cl, enRange_cl, Bool.true_and, Bool.and_true]
theorem enTest_cl (l : List GTest) : AV.closedL (l.map (encTest true)) = true := closedL_mem l fun x _ => enTest_c x
theorem enArg_all (o : Bool) (l : List GArg) : (l.map (encArg o)).all (AV.elem 2) = true := map_all_elem (fun _ => rfl) l
theorem enArg_one (o : Bool) (l : List GArg) : ((l.map (encArg o)).flatMap AV.cells).all AV.one = true := map_all_one (fun _ => rfl) l
theorem enArg_c (x : GArg) : (encArg true x).closed = true := by simp only [encArg, AV.closed, AV.closedL, str_cl, enRange_cl, enTest_cl, Bool.true_and, Bool.and_true]
theorem enArg_cl (l : List GArg) : AV.closedL (l.map (encArg true)) = true := closedL_mem l fun x _ => enArg_c x
theorem enStep_all (o : Bool) (l : List GStep) : (l.map (encStep o)).all (AV.elem 2) = true := map_all_elem (fun _ => rfl) l
theorem enStep_one (o : Bool) (l : List GStep) : ((l.map (encStep o)).flatMap AV.cells).all AV.one = true := map_all_one (fun _ => rfl) l
theorem enStep_c (x : GStep) : (encStep true x).closed = true := by simp only [encStep, AV.closed, AV.closedL, str_cl, enRange_cl, enTest_cl, enArg_cl, Bool.true_and, Bool.and_true]
theorem enStep_cl (l : List GStep) : AV.closedL (l.map (encStep true)) = true := closedL_mem l fun x _ => enStep_c x
theorem enParam_all (o : Bool) (l : List GParam) : (l.map (encParam o)).all (AV.elem 6) = true := map_all_elem (fun _ => rfl) l
theorem enParam_one (o : Bool) (l : List GParam) : ((l.map (encParam o)).flatMap AV.cells).all AV.one = true := map_all_one (fun _ => rfl) l
theorem enParam_c (x : GParam) : (encParam true x).closed = true := by simp only [encParam, AV.closed, AV.closedL, str_cl, enRange_cl, enTest_cl, enArg_cl, enStep_cl, Bool.true_and, Bool.and_true]
theorem enParam_cl (l : List GParam) : AV.closedL (l.map (encParam true)) = true := closedL_mem l fun x _ => enParam_c x
theorem enNode_all (o : Bool) (l : List GNode) : (l.map (encNode o)).all (AV.elem 3) = true := map_all_elem (fun x => by rw [encNode_eq]; rfl) l
theorem enNode_one (o : Bool) (l : List GNode) : ((l.map (encNode o)).flatMap AV.cells).all AV.one = true := map_all_one (fun x => by rw [encNode_eq]; rfl) l
theorem enNode_c (x : GNode) : (encNode true x).closed = true := by
  rw [encNode_eq]
  simp only [AV.closed, AV.closedL, str_cl, enRange_cl, enTest_cl, enArg_cl, enStep_cl, enParam_cl, closedL_mem x.fKids (fun y hy => enNode_c y), Bool.true_and, Bool.and_true]
termination_by SizeOf.sizeOf x
decreasing_by have := List.sizeOf_lt_of_mem hy; cases x; simp [GNode.fKids] at *; omega
theorem enNode_cl (l : List GNode) : AV.closedL (l.map (encNode true)) = true := closedL_mem l fun x _ => enNode_c x
theorem enExpr_all (o : Bool) (l : List GExpr) : (l.map (encExpr o)).all (AV.elem 7) = true := map_all_elem (fun x => by rw [encExpr_eq]; rfl) l
theorem enExpr_one (o : Bool) (l : List GExpr) : ((l.map (encExpr o)).flatMap AV.cells).all AV.one = true := map_all_one (fun x => by rw [encExpr_eq]; rfl) l
theorem enExpr_c (x : GExpr) : (encExpr true x).closed = true := by
  rw [encExpr_eq]
  simp only [AV.closed, AV.closedL, str_cl, enRange_cl, enTest_cl, enArg_cl, enStep_cl, enParam_cl, enNode_cl, closedL_mem x.fKids (fun y hy => enExpr_c y), Bool.true_and, Bool.and_true]
termination_by SizeOf.sizeOf x
decreasing_by have := List.sizeOf_lt_of_mem hy; cases x; simp [GExpr.fKids] at *; omega
theorem enExpr_cl (l : List GExpr) : AV.closedL (l.map (encExpr true)) = true := closedL_mem l fun x _ => enExpr_c x
theorem enSchema_all (o : Bool) (l : List GSchema) : (l.map (encSchema o)).all (AV.elem 19) = true := map_all_elem (fun x => by rw [encSchema_eq]; rfl) l
theorem enSchema_one (o : Bool) (l : List GSchema) : ((l.map (encSchema o)).flatMap AV.cells).all AV.one = true := map_all_one (fun x => by rw [encSchema_eq]; rfl) l
theorem enSchema_c (x : GSchema) : (encSchema true x).closed = true := by
  rw [encSchema_eq]
  simp only [AV.closed, AV.closedL, str_cl, enRange_cl, enTest_cl, enArg_cl, enStep_cl, enParam_cl, enNode_cl, enExpr_cl, closedL_mem x.fKids (fun y hy => enSchema_c y), Bool.true_and, Bool.and_true]
termination_by SizeOf.sizeOf x
decreasing_by have := List.sizeOf_lt_of_mem hy; cases x; simp [GSchema.fKids] at *; omega
theorem enSchema_cl (l : List GSchema) : AV.closedL (l.map (encSchema true)) = true := closedL_mem l fun x _ => enSchema_c x
theorem enVersion_all (o : Bool) (l : List GVersion) : (l.map (encVersion o)).all (AV.elem 3) = true := map_all_elem (fun _ => rfl) l
theorem enVersion_one (o : Bool) (l : List GVersion) : ((l.map (encVersion o)).flatMap AV.cells).all AV.one = true := map_all_one (fun _ => rfl) l
theorem enVersion_c (x : GVersion) : (encVersion true x).closed = true := by simp only [encVersion, AV.closed, AV.closedL, str_cl, enRange_cl, enTest_cl, enArg_cl, enStep_cl, enParam_cl, enNode_cl, enExpr_cl, enSchema_cl, Bool.true_and, Bool.and_true]
theorem enVersion_cl (l : List GVersion) : AV.closedL (l.map (encVersion true)) = true := closedL_mem l fun x _ => enVersion_c x
theorem enTemplate_all (o : Bool) (l : List GTemplate) : (l.map (encTemplate o)).all (AV.elem 3) = true := map_all_elem (fun _ => rfl) l
theorem enTemplate_one (o : Bool) (l : List GTemplate) : ((l.map (encTemplate o)).flatMap AV.cells).all AV.one = true := map_all_one (fun _ => rfl) l
theorem enTemplate_c (x : GTemplate) : (encTemplate true x).closed = true := by simp only [encTemplate, AV.closed, AV.closedL, str_cl, enRange_cl, enTest_cl, enArg_cl, enStep_cl, enParam_cl, enNode_cl, enExpr_cl, enSchema_cl, enVersion_cl, Bool.true_and, Bool.and_true]
theorem enTemplate_cl (l : List GTemplate) : AV.closedL (l.map (encTemplate true)) = true := closedL_mem l fun x _ => enTemplate_c x
theorem enService_all (o : Bool) (l : List GService) : (l.map (encService o)).all (AV.elem 4) = true := map_all_elem (fun _ => rfl) l
theorem enService_one (o : Bool) (l : List GService) : ((l.map (encService o)).flatMap AV.cells).all AV.one = true := map_all_one (fun _ => rfl) l
theorem enService_c (x : GService) : (encService true x).closed = true := by simp only [encService, AV.closed, AV.closedL, str_cl, enRange_cl, enTest_cl, enArg_cl, enStep_cl, enParam_cl, enNode_cl, enExpr_cl, enSchema_cl, enVersion_cl, enTemplate_cl, Bool.true_and, Bool.and_true]
theorem enService_cl (l : List GService) : AV.closedL (l.map (encService true)) = true := closedL_mem l fun x _ => enService_c x
theorem enDevice_all (o : Bool) (l : List GDevice) : (l.map (encDevice o)).all (AV.elem 15) = true := map_all_elem (fun _ => rfl) l
theorem enDevice_one (o : Bool) (l : List GDevice) : ((l.map (encDevice o)).flatMap AV.cells).all AV.one = true := map_all_one (fun _ => rfl) l
theorem enDevice_c (x : GDevice) : (encDevice true x).closed = true := by simp only [encDevice, AV.closed, AV.closedL, str_cl, enRange_cl, enTest_cl, enArg_cl, enStep_cl, enParam_cl, enNode_cl, enExpr_cl, enSchema_cl, enVersion_cl, enTemplate_cl, enService_cl, Bool.true_and, Bool.and_true]
theorem enDevice_cl (l : List GDevice) : AV.closedL (l.map (encDevice true)) = true := closedL_mem l fun x _ => enDevice_c x
theorem enTask_all (o : Bool) (l : List GTask) : (l.map (encTask o)).all (AV.elem 3) = true := map_all_elem (fun _ => rfl) l
theorem enTask_one (o : Bool) (l : List GTask) : ((l.map (encTask o)).flatMap AV.cells).all AV.one = true := map_all_one (fun _ => rfl) l
theorem enTask_c (x : GTask) : (encTask true x).closed = true := by simp only [encTask, AV.closed, AV.closedL, str_cl, enRange_cl, enTest_cl, enArg_cl, enStep_cl, enParam_cl, enNode_cl, enExpr_cl, enSchema_cl, enVersion_cl, enTemplate_cl, enService_cl, enDevice_cl, Bool.true_and, Bool.and_true]
theorem enTask_cl (l : List GTask) : AV.closedL (l.map (encTask true)) = true := closedL_mem l fun x _ => enTask_c x
theorem str_oneM (l : List Str) : (l.map AV.str).all AV.one = true := by have := str_one l; rwa [fl_str] at this
attribute [go_sem] enRange_all enRange_one enRange_cl enTest_all enTest_one enTest_cl enArg_all enArg_one enArg_cl enStep_all enStep_one enStep_cl enParam_all enParam_one enParam_cl enNode_all enNode_one enNode_cl enExpr_all enExpr_one enExpr_cl enSchema_all enSchema_one enSchema_cl enVersion_all enVersion_one enVersion_cl enTemplate_all enTemplate_one enTemplate_cl enService_all enService_one enService_cl enDevice_all enDevice_one enDevice_cl enTask_all enTask_one enTask_cl str_oneM str_cl
end Go.Dt
namespace Go.Proofs.YtkdchlggdcmkbaaGreat
open Go.Ab Go.Dt
set_option maxRecDepth 20000
set_option maxHeartbeats 4000000
instance iCopyType_i (x : GType) : Ctr lim Tryz.prog 138 [] [.agg [.v (.int .i64 x.fKind), .sl false 2 (x.fRanges.map (encRange false)), .sl false 1 (x.fNames.map AV.str), .str x.fPattern, .str x.fPath]] (.agg [.v (.int .i64 x.fKind), .sl true 2 (x.fRanges.map (encRange true)), .sl true 1 (x.fNames.map AV.str), .str x.fPattern, .str x.fPath]) [] True := by
  refine Ctr.of_body en138 Tryz.func138 rfl rfl fun hp => (?_); rw [Tryz.ntmps138]
  refine AW.fact 0 fun hf => ?_
  simp (disch := omega) only [go_sem] at hf
  (repeat' first | (with_reducible first | refine Z ?_ | refine xO ?_ | refine Y ?_ | (refine hK _ _ ?_; clear hK K) | refine And.intro ?_ ?_ | exact Ct | intro (K : _ → _ → Prop) hK | (refine gI fun hg => ?_; try simp only [hC, reduceCtorEq] at hg; try simp only [hg])) | (refine AW.i rfl (fun h => ?_) (fun h => ?_) <;> try simp only [hC, reduceCtorEq] at h) | ((with_reducible refine E ?_; repeat refine Y ?_); refine eF rfl ?_) | simp (disch := omega) only [go_sem] | (with_reducible intro hg; try simp only [hC, reduceCtorEq] at hg) | exact Cl | fail)
  rfl
instance sCopyType_i (x : GType) : Ctr lim Tryz.prog 136 [] [.agg [.v (.int .i64 x.fKind), .sl false 2 (x.fRanges.map (encRange false)), .sl false 1 (x.fNames.map AV.str), .str x.fPattern, .str x.fPath]] (.agg [.v (.int .i64 x.fKind), .sl true 2 (x.fRanges.map (encRange true)), .sl true 1 (x.fNames.map AV.str), .str x.fPattern, .str x.fPath]) [] True := by
  refine Ctr.of_body en136 Tryz.func136 rfl rfl fun hp => (?_); rw [Tryz.ntmps136]
  refine AW.fact 0 fun hf => ?_
  simp (disch := omega) only [go_sem] at hf
  (repeat' first | (with_reducible first | refine Z ?_ | refine xO ?_ | refine Y ?_ | (refine hK _ _ ?_; clear hK K) | refine And.intro ?_ ?_ | exact Ct | intro (K : _ → _ → Prop) hK | (refine gI fun hg => ?_; try simp only [hC, reduceCtorEq] at hg; try simp only [hg])) | (refine AW.i rfl (fun h => ?_) (fun h => ?_) <;> try simp only [hC, reduceCtorEq] at h) | ((with_reducible refine E ?_; repeat refine Y ?_); refine eF rfl ?_) | simp (disch := omega) only [go_sem] | (with_reducible intro hg; try simp only [hC, reduceCtorEq] at hg) | exact Cl | fail)
  rfl
theorem iCopyNodes_n : ∀ (n : Nat) (l : List GNode), Ctr lim Tryz.prog 119 [] [.sl false 3 (l.map (encNode false))] (.sl true 3 (l.map (encNode true))) [] (SizeOf.sizeOf l < n)
  | 0, l => ⟨en119, fun h => absurd h (Nat.not_lt_zero _)⟩
  | n + 1, l => by
    have ih := iCopyNodes_n n
    refine Ctr.of_body en119 Tryz.func119 rfl rfl fun hp => (?_); rw [Tryz.ntmps119]
    refine AW.fact 0 fun hf => ?_
    simp (disch := omega) only [go_sem] at hf
    (repeat' first | (with_reducible first | refine Z ?_ | refine Y ?_ | (refine hK _ _ ?_; clear hK K) | refine And.intro ?_ ?_ | exact Ct | intro (K : _ → _ → Prop) hK | (refine gI fun hg => ?_; try simp only [hC, reduceCtorEq] at hg; try simp only [hg])) | (refine AW.i rfl (fun h => ?_) (fun h => ?_) <;> try simp only [hC, reduceCtorEq] at h) | ((with_reducible refine E ?_; repeat refine Y ?_); refine eF rfl ?_) | simp (disch := omega) only [go_sem] | (with_reducible intro hg; try simp only [hC, reduceCtorEq] at hg) | exact Cl | fail)
    refine AW.loopV [3, 9] [7, 8] (fun m xs o => ∃ k : Nat, xs = [.sl true 3 ((l.take k).map (encNode true)), .v (.int .i64 k)] ∧ o = [] ∧ m = l.length - k ∧ k ≤ l.length) l.length [] trivial ⟨0, ?_, rfl, rfl, ?_⟩ ?_
    · rfl
    · omega
    rintro m xs o ⟨k, rfl, rfl, rfl, hk⟩
    have hlt : (l.take k).length = k := by rw [List.length_take]; omega
    have hkk : k < l.length → SizeOf.sizeOf (at_ l k).fKids < n := fun h => by have := GNode.kids_lt (at_mem h); omega
    (repeat' first | (with_reducible first | refine Z ?_ | refine Y ?_ | (refine hK _ _ ?_; clear hK K) | refine And.intro ?_ ?_ | exact Ct | intro (K : _ → _ → Prop) hK | (refine gI fun hg => ?_; try simp only [hC, reduceCtorEq] at hg; try simp only [hg])) | (refine AW.i rfl (fun h => ?_) (fun h => ?_) <;> try simp only [hC, reduceCtorEq] at h) | ((with_reducible refine E ?_; repeat refine Y ?_); refine eF rfl ?_) | simp (disch := omega) only [go_sem] | (with_reducible intro hg; try simp only [hC, reduceCtorEq] at hg) | exact Cl | fail)
    · exact ⟨_, [_, _], [], by omega, ⟨k + 1, by rw [take_at' (by assumption), List.map_append, List.map_cons, List.map_nil, encNode_eq], rfl, rfl, by omega⟩, rfl, trivial⟩
    · rw [show k = l.length by omega, List.take_length]
theorem sCopyNodes_n : ∀ (n : Nat) (l : List GNode), Ctr lim Tryz.prog 112 [] [.sl false 3 (l.map (encNode false))] (.sl true 3 (l.map (encNode true))) [] (SizeOf.sizeOf l < n)
  | 0, l => ⟨en112, fun h => absurd h (Nat.not_lt_zero _)⟩
  | n + 1, l => by
    have ih := sCopyNodes_n n
    refine Ctr.of_body en112 Tryz.func112 rfl rfl fun hp => (?_); rw [Tryz.ntmps112]
    refine AW.fact 0 fun hf => ?_
    simp (disch := omega) only [go_sem] at hf
    (repeat' first | (with_reducible first | refine Z ?_ | refine Y ?_ | (refine hK _ _ ?_; clear hK K) | refine And.intro ?_ ?_ | exact Ct | intro (K : _ → _ → Prop) hK | (refine gI fun hg => ?_; try simp only [hC, reduceCtorEq] at hg; try simp only [hg])) | (refine AW.i rfl (fun h => ?_) (fun h => ?_) <;> try simp only [hC, reduceCtorEq] at h) | ((with_reducible refine E ?_; repeat refine Y ?_); refine eF rfl ?_) | simp (disch := omega) only [go_sem] | (with_reducible intro hg; try simp only [hC, reduceCtorEq] at hg) | exact Cl | fail)
    refine AW.loopV [3, 4] [0] (fun m xs o => ∃ k : Nat, xs = [.sl true 3 ((l.take k).map (encNode true)), .v (.int .i64 k)] ∧ o = [] ∧ m = l.length - k ∧ k ≤ l.length) l.length [] trivial ⟨0, ?_, rfl, rfl, ?_⟩ ?_
    · rfl
    · omega
    rintro m xs o ⟨k, rfl, rfl, rfl, hk⟩
    have hlt : (l.take k).length = k := by rw [List.length_take]; omega
    have hkk : k < l.length → SizeOf.sizeOf (at_ l k).fKids < n := fun h => by have := GNode.kids_lt (at_mem h); omega
    (repeat' first | (with_reducible first | refine Z ?_ | refine Y ?_ | (refine hK _ _ ?_; clear hK K) | refine And.intro ?_ ?_ | exact Ct | intro (K : _ → _ → Prop) hK | (refine gI fun hg => ?_; try simp only [hC, reduceCtorEq] at hg; try simp only [hg])) | (refine AW.i rfl (fun h => ?_) (fun h => ?_) <;> try simp only [hC, reduceCtorEq] at h) | ((with_reducible refine E ?_; repeat refine Y ?_); refine eF rfl ?_) | simp (disch := omega) only [go_sem] | (with_reducible intro hg; try simp only [hC, reduceCtorEq] at hg) | exact Cl | fail)
    · exact ⟨_, [_, _], [], by omega, ⟨k + 1, by rw [take_at' (by assumption), List.map_append, List.map_cons, List.map_nil, encNode_eq], rfl, rfl, by omega⟩, rfl, trivial⟩
    · rw [show k = l.length by omega, List.take_length]
instance iCopyNodes_i (l : List GNode) : Ctr lim Tryz.prog 119 [] [.sl false 3 (l.map (encNode false))] (.sl true 3 (l.map (encNode true))) [] True := ⟨en119, fun _ => (iCopyNodes_n (SizeOf.sizeOf l + 1) l).out (Nat.lt_succ_self _)⟩
instance sCopyNodes_i (l : List GNode) : Ctr lim Tryz.prog 112 [] [.sl false 3 (l.map (encNode false))] (.sl true 3 (l.map (encNode true))) [] True := ⟨en112, fun _ => (sCopyNodes_n (SizeOf.sizeOf l + 1) l).out (Nat.lt_succ_self _)⟩
end Go.Proofs.YtkdchlggdcmkbaaGreat
