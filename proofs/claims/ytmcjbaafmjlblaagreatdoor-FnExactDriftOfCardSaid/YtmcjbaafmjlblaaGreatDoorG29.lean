/-
  Part of a proof: Cp0.
-/
import Derived.Test.YtmcjbaafmjlblaaGreatDoorG0
import Derived.Test.YtmcjbaafmjlblaaGreatDoorG28
set_option linter.unusedSimpArgs false
set_option linter.unusedVariables false
namespace Go.Dt
open Go.Ab
theorem closedL_mem{α:Type}{f:α→AV}:∀ (l:List α),(∀ x∈l,(f x).closed=true)→AV.closedL (l.map f)=true
 | [],_=>rfl
 | x::xs,h=>by simp only [List.map_cons,AV.closedL,h x (by simp),closedL_mem xs fun y hy=>h y (by simp [hy]),Bool.true_and]
theorem str_cl(l:List Str):AV.closedL (l.map AV.str)=true:=closedL_mem l fun _ _=>rfl
theorem enRange_all(o:Bool)(l:List GRange):(l.map (encRange o)).all (AV.elem 2)=true:=map_all_elem (fun _=>rfl) l
theorem enRange_one(o:Bool)(l:List GRange):((l.map (encRange o)).flatMap AV.cells).all AV.one=true:=map_all_one (fun _=>rfl) l
theorem enRange_c(x:GRange):(encRange true x).closed=true:=by simp only [encRange,AV.closed,AV.closedL,str_cl,Bool.true_and,Bool.and_true]
theorem enRange_cl(l:List GRange):AV.closedL (l.map (encRange true))=true:=closedL_mem l fun x _=>enRange_c x
theorem enTest_all(o:Bool)(l:List GTest):(l.map (encTest o)).all (AV.elem 2)=true:=map_all_elem (fun _=>rfl) l
theorem enTest_one(o:Bool)(l:List GTest):((l.map (encTest o)).flatMap AV.cells).all AV.one=true:=map_all_one (fun _=>rfl) l
theorem enTest_c(x:GTest):(encTest true x).closed=true:=by simp only [encTest,AV.closed,AV.closedL,str_cl,enRange_cl,Bool.true_and,Bool.and_true]
theorem enTest_cl(l:List GTest):AV.closedL (l.map (encTest true))=true:=closedL_mem l fun x _=>enTest_c x
theorem enArg_all(o:Bool)(l:List GArg):(l.map (encArg o)).all (AV.elem 2)=true:=map_all_elem (fun _=>rfl) l
theorem enArg_one(o:Bool)(l:List GArg):((l.map (encArg o)).flatMap AV.cells).all AV.one=true:=map_all_one (fun _=>rfl) l
theorem enArg_c(x:GArg):(encArg true x).closed=true:=by simp only [encArg,AV.closed,AV.closedL,str_cl,enRange_cl,enTest_cl,Bool.true_and,Bool.and_true]
theorem enArg_cl(l:List GArg):AV.closedL (l.map (encArg true))=true:=closedL_mem l fun x _=>enArg_c x
theorem enStep_all(o:Bool)(l:List GStep):(l.map (encStep o)).all (AV.elem 2)=true:=map_all_elem (fun _=>rfl) l
theorem enStep_one(o:Bool)(l:List GStep):((l.map (encStep o)).flatMap AV.cells).all AV.one=true:=map_all_one (fun _=>rfl) l
theorem enStep_c(x:GStep):(encStep true x).closed=true:=by simp only [encStep,AV.closed,AV.closedL,str_cl,enRange_cl,enTest_cl,enArg_cl,Bool.true_and,Bool.and_true]
theorem enStep_cl(l:List GStep):AV.closedL (l.map (encStep true))=true:=closedL_mem l fun x _=>enStep_c x
theorem enParam_all(o:Bool)(l:List GParam):(l.map (encParam o)).all (AV.elem 6)=true:=map_all_elem (fun _=>rfl) l
theorem enParam_one(o:Bool)(l:List GParam):((l.map (encParam o)).flatMap AV.cells).all AV.one=true:=map_all_one (fun _=>rfl) l
theorem enParam_c(x:GParam):(encParam true x).closed=true:=by simp only [encParam,AV.closed,AV.closedL,str_cl,enRange_cl,enTest_cl,enArg_cl,enStep_cl,Bool.true_and,Bool.and_true]
theorem enParam_cl(l:List GParam):AV.closedL (l.map (encParam true))=true:=closedL_mem l fun x _=>enParam_c x
theorem enNode_all(o:Bool)(l:List GNode):(l.map (encNode o)).all (AV.elem 3)=true:=map_all_elem (fun x=>by rw [encNode_eq];rfl) l
theorem enNode_one(o:Bool)(l:List GNode):((l.map (encNode o)).flatMap AV.cells).all AV.one=true:=map_all_one (fun x=>by rw [encNode_eq];rfl) l
theorem enNode_c(x:GNode):(encNode true x).closed=true:=by
 rw [encNode_eq]
 simp only [AV.closed,AV.closedL,str_cl,enRange_cl,enTest_cl,enArg_cl,enStep_cl,enParam_cl,closedL_mem x.fKids (fun y hy=>enNode_c y),Bool.true_and,Bool.and_true]
termination_by SizeOf.sizeOf x
decreasing_by have:=List.sizeOf_lt_of_mem hy;cases x;simp [GNode.fKids] at *;omega
theorem enNode_cl(l:List GNode):AV.closedL (l.map (encNode true))=true:=closedL_mem l fun x _=>enNode_c x
theorem enExpr_all(o:Bool)(l:List GExpr):(l.map (encExpr o)).all (AV.elem 7)=true:=map_all_elem (fun x=>by rw [encExpr_eq];rfl) l
theorem enExpr_one(o:Bool)(l:List GExpr):((l.map (encExpr o)).flatMap AV.cells).all AV.one=true:=map_all_one (fun x=>by rw [encExpr_eq];rfl) l
theorem enExpr_c(x:GExpr):(encExpr true x).closed=true:=by
 rw [encExpr_eq]
 simp only [AV.closed,AV.closedL,str_cl,enRange_cl,enTest_cl,enArg_cl,enStep_cl,enParam_cl,enNode_cl,closedL_mem x.fKids (fun y hy=>enExpr_c y),Bool.true_and,Bool.and_true]
termination_by SizeOf.sizeOf x
decreasing_by have:=List.sizeOf_lt_of_mem hy;cases x;simp [GExpr.fKids] at *;omega
theorem enExpr_cl(l:List GExpr):AV.closedL (l.map (encExpr true))=true:=closedL_mem l fun x _=>enExpr_c x
theorem enSchema_all(o:Bool)(l:List GSchema):(l.map (encSchema o)).all (AV.elem 19)=true:=map_all_elem (fun x=>by rw [encSchema_eq];rfl) l
theorem enSchema_one(o:Bool)(l:List GSchema):((l.map (encSchema o)).flatMap AV.cells).all AV.one=true:=map_all_one (fun x=>by rw [encSchema_eq];rfl) l
theorem enSchema_c(x:GSchema):(encSchema true x).closed=true:=by
 rw [encSchema_eq]
 simp only [AV.closed,AV.closedL,str_cl,enRange_cl,enTest_cl,enArg_cl,enStep_cl,enParam_cl,enNode_cl,enExpr_cl,closedL_mem x.fKids (fun y hy=>enSchema_c y),Bool.true_and,Bool.and_true]
termination_by SizeOf.sizeOf x
decreasing_by have:=List.sizeOf_lt_of_mem hy;cases x;simp [GSchema.fKids] at *;omega
theorem enSchema_cl(l:List GSchema):AV.closedL (l.map (encSchema true))=true:=closedL_mem l fun x _=>enSchema_c x
theorem enTemplate_all(o:Bool)(l:List GTemplate):(l.map (encTemplate o)).all (AV.elem 3)=true:=map_all_elem (fun _=>rfl) l
theorem enTemplate_one(o:Bool)(l:List GTemplate):((l.map (encTemplate o)).flatMap AV.cells).all AV.one=true:=map_all_one (fun _=>rfl) l
theorem enTemplate_c(x:GTemplate):(encTemplate true x).closed=true:=by simp only [encTemplate,AV.closed,AV.closedL,str_cl,enRange_cl,enTest_cl,enArg_cl,enStep_cl,enParam_cl,enNode_cl,enExpr_cl,enSchema_cl,Bool.true_and,Bool.and_true]
theorem enTemplate_cl(l:List GTemplate):AV.closedL (l.map (encTemplate true))=true:=closedL_mem l fun x _=>enTemplate_c x
theorem enService_all(o:Bool)(l:List GService):(l.map (encService o)).all (AV.elem 4)=true:=map_all_elem (fun _=>rfl) l
theorem enService_one(o:Bool)(l:List GService):((l.map (encService o)).flatMap AV.cells).all AV.one=true:=map_all_one (fun _=>rfl) l
theorem enService_c(x:GService):(encService true x).closed=true:=by simp only [encService,AV.closed,AV.closedL,str_cl,enRange_cl,enTest_cl,enArg_cl,enStep_cl,enParam_cl,enNode_cl,enExpr_cl,enSchema_cl,enTemplate_cl,Bool.true_and,Bool.and_true]
theorem enService_cl(l:List GService):AV.closedL (l.map (encService true))=true:=closedL_mem l fun x _=>enService_c x
theorem str_oneM(l:List Str):(l.map AV.str).all AV.one=true:=by have:=str_one l;rwa [fl_str] at this
attribute [go_sem] enRange_all enRange_one enRange_cl enTest_all enTest_one enTest_cl enArg_all enArg_one enArg_cl enStep_all enStep_one enStep_cl enParam_all enParam_one enParam_cl enNode_all enNode_one enNode_cl enExpr_all enExpr_one enExpr_cl enSchema_all enSchema_one enSchema_cl enTemplate_all enTemplate_one enTemplate_cl enService_all enService_one enService_cl str_oneM str_cl
end Go.Dt
