/-
  Part of a proof: Dat2.
-/
import Derived.Test.YtmcjbaafmjlblaaGreatDoorG1
set_option linter.unusedSimpArgs false
set_option linter.unusedVariables false
namespace Go.Dt
open Go.Ab
abbrev Str:=List UInt8
theorem frzL_map{α:Type}(f g:α→AV)(h:∀ x,(f x).frz=g x)(l:List α):AV.frzL (l.map f)=l.map g:=by
 rw [AV.frzL_eq,List.map_map];apply List.map_congr_left;intro x _;exact h x
theorem frzL_str(l:List Str):AV.frzL (l.map AV.str)=l.map AV.str:=frzL_map _ _ (fun _=>rfl) l
def thn(a:Int)(k:Int→Int):Int:=if a<0 then -1 else k a
def szStr(s:Str)(left:Int):Int:=left - s.length
def szGo{α:Type}(f:α→Int→Int):List α→Int→Int
 | [],r=>r
 | x::xs,r=>thn (f x r) (szGo f xs)
def szSl{α:Type}(f:α→Int→Int)(l:List α)(left:Int):Int:=thn (left - l.length) (szGo f l)
theorem thn_le{a b:Int}{k:Int→Int}(h:∀ x,0≤x→k x≤x)(hb:a≤b)(h0:0≤b):thn a k≤b:=by
 unfold thn;split
 ·omega
 ·have:=h a (by omega);omega
theorem szStr_le(s:Str)(r:Int)(_h:0≤r):szStr s r≤r:=by unfold szStr;omega
theorem szGo_le{α:Type}(f:α→Int→Int)(hf:∀ x r,0≤r→f x r≤r):∀ (l:List α) (r:Int),0≤r→szGo f l r≤r
 | [],r,_=>Int.le_refl _
 | x::xs,r,h=>thn_le (fun y hy=>szGo_le f hf xs y hy) (hf x r h) h
theorem szSl_le{α:Type}(f:α→Int→Int)(hf:∀ x r,0≤r→f x r≤r)(l:List α)(r:Int)(h:0≤r):szSl f l r≤r :=
 thn_le (fun y hy=>szGo_le f hf l y hy) (by omega) h
structure GRange where
 fLo:Int
 fHi:Int
instance:Inhabited GRange:=⟨⟨0,0⟩⟩
@[go_sem] def encRange(o:Bool)(x:GRange):AV:=.agg [.v (.int .i64 x.fLo),.v (.int .i64 x.fHi)]
theorem encRange_frz(x:GRange):(encRange true x).frz=encRange false x:=by
 simp only [encRange,AV.frz,AV.frzL,cond_true]
theorem encRangeM_frz(l:List GRange):AV.frzL (l.map (encRange true))=l.map (encRange false):=frzL_map _ _ encRange_frz l
def szRange(x:GRange)(left:Int):Int:=left
theorem szRange_le(x:GRange)(r:Int)(h:0≤r):szRange x r≤r:=Int.le_refl _
structure GType where
 fKind:Int
 fRanges:List GRange
 fNames:List Str
 fPattern:Str
 fPath:Str
instance:Inhabited GType:=⟨⟨0,[],[],[],[]⟩⟩
@[go_sem] def encType(o:Bool)(x:GType):AV:=.agg [.v (.int .i64 x.fKind),.sl o 2 (x.fRanges.map (encRange o)),.sl o 1 (x.fNames.map AV.str),.str x.fPattern,.str x.fPath]
def szType(x:GType)(left:Int):Int:=thn (szSl szRange x.fRanges left) (fun a0=>thn (szSl szStr x.fNames a0) (fun a1=>thn (szStr x.fPattern a1) (fun a2=>thn (szStr x.fPath a2) (id))))
theorem szType_le(x:GType)(r:Int)(h:0≤r):szType x r≤r:=thn_le (fun a0 g0=>thn_le (fun a1 g1=>thn_le (fun a2 g2=>thn_le (fun _ _=>Int.le_refl _) (szStr_le x.fPath a2 g2) g2) (szStr_le x.fPattern a1 g1) g1) (szSl_le szStr szStr_le x.fNames a0 g0) g0) (szSl_le szRange szRange_le x.fRanges r h) h
structure GTest where
 fName:Str
 fValue:Str
instance:Inhabited GTest:=⟨⟨[],[]⟩⟩
@[go_sem] def encTest(o:Bool)(x:GTest):AV:=.agg [.str x.fName,.str x.fValue]
theorem encTest_frz(x:GTest):(encTest true x).frz=encTest false x:=by
 simp only [encTest,AV.frz,AV.frzL,cond_true]
theorem encTestM_frz(l:List GTest):AV.frzL (l.map (encTest true))=l.map (encTest false):=frzL_map _ _ encTest_frz l
def szTest(x:GTest)(left:Int):Int:=thn (szStr x.fName left) (fun a0=>thn (szStr x.fValue a0) (id))
theorem szTest_le(x:GTest)(r:Int)(h:0≤r):szTest x r≤r:=thn_le (fun a0 g0=>thn_le (fun _ _=>Int.le_refl _) (szStr_le x.fValue a0 g0) g0) (szStr_le x.fName r h) h
structure GStep where
 fName:Str
 fTests:List GTest
instance:Inhabited GStep:=⟨⟨[],[]⟩⟩
@[go_sem] def encStep(o:Bool)(x:GStep):AV:=.agg [.str x.fName,.sl o 2 (x.fTests.map (encTest o))]
theorem encStep_frz(x:GStep):(encStep true x).frz=encStep false x:=by
 simp only [encStep,AV.frz,AV.frzL,cond_true,encTestM_frz]
theorem encStepM_frz(l:List GStep):AV.frzL (l.map (encStep true))=l.map (encStep false):=frzL_map _ _ encStep_frz l
def szStep(x:GStep)(left:Int):Int:=thn (szStr x.fName left) (fun a0=>thn (szSl szTest x.fTests a0) (id))
theorem szStep_le(x:GStep)(r:Int)(h:0≤r):szStep x r≤r:=thn_le (fun a0 g0=>thn_le (fun _ _=>Int.le_refl _) (szSl_le szTest szTest_le x.fTests a0 g0) g0) (szStr_le x.fName r h) h
structure GPath where
 fRoot:Bool
 fUps:Int
 fSteps:List GStep
instance:Inhabited GPath:=⟨⟨false,0,[]⟩⟩
@[go_sem] def encPath(o:Bool)(x:GPath):AV:=.agg [.v (.bool x.fRoot),.v (.int .i64 x.fUps),.sl o 2 (x.fSteps.map (encStep o))]
def szPath(x:GPath)(left:Int):Int:=thn (szSl szStep x.fSteps left) (id)
theorem szPath_le(x:GPath)(r:Int)(h:0≤r):szPath x r≤r:=thn_le (fun _ _=>Int.le_refl _) (szSl_le szStep szStep_le x.fSteps r h) h
inductive GExpr where
 | mk (fOp:Int) (fNum:Int) (fText:Str) (fPath:GPath) (fKids:List GExpr)
instance:Inhabited GExpr:=⟨.mk 0 0 [] default []⟩
def GExpr.fOp:GExpr→Int|.mk a _ _ _ _=>a
def GExpr.fNum:GExpr→Int|.mk _ a _ _ _=>a
def GExpr.fText:GExpr→Str|.mk _ _ a _ _=>a
def GExpr.fPath:GExpr→GPath|.mk _ _ _ a _=>a
def GExpr.fKids:GExpr→List GExpr|.mk _ _ _ _ a=>a
mutual
def encExpr(o:Bool):GExpr→AV
 | .mk fOp fNum fText fPath fKids=>.agg [.v (.int .i64 fOp),.v (.int .i64 fNum),.str fText,.v (.bool fPath.fRoot),.v (.int .i64 fPath.fUps),.sl o 2 (fPath.fSteps.map (encStep o)),.sl o 7 (encExprs o fKids)]
def encExprs(o:Bool):List GExpr→List AV
 | []=>[]
 | x::xs=>encExpr o x::encExprs o xs
end
theorem encExprs_eq(o:Bool)(l:List GExpr):encExprs o l=l.map (encExpr o):=by
 induction l with
 | nil=>rfl
 | cons x xs ih=>simp [encExprs,ih]
@[go_sem] theorem encExpr_eq(o:Bool)(x:GExpr):encExpr o x=.agg [.v (.int .i64 x.fOp),.v (.int .i64 x.fNum),.str x.fText,.v (.bool x.fPath.fRoot),.v (.int .i64 x.fPath.fUps),.sl o 2 (x.fPath.fSteps.map (encStep o)),.sl o 7 (x.fKids.map (encExpr o))]:=by
 cases x;simp [encExpr,encExprs_eq,GExpr.fOp,GExpr.fNum,GExpr.fText,GExpr.fPath,GExpr.fKids]
mutual
theorem encExpr_frz:∀ x:GExpr,(encExpr true x).frz=encExpr false x
 | .mk fOp fNum fText fPath fKids=>by simp only [encExpr,AV.frz,AV.frzL,cond_true,encExprs_frz fKids,encStepM_frz]
theorem encExprs_frz:∀ l:List GExpr,AV.frzL (encExprs true l)=encExprs false l
 | []=>rfl
 | x::xs=>by simp only [encExprs,AV.frzL,encExpr_frz x,encExprs_frz xs]
end
theorem encExprM_frz(l:List GExpr):AV.frzL (l.map (encExpr true))=l.map (encExpr false):=by
 rw [← encExprs_eq,encExprs_frz,encExprs_eq]
mutual
def szExpr:GExpr→Int→Int
 | .mk fOp fNum fText fPath fKids,left=>thn (szStr fText left) (fun a0=>thn (szPath fPath a0) (fun a1=>thn ((fun b=>thn (b - fKids.length) (szExprGo fKids)) a1) (id)))
def szExprGo:List GExpr→Int→Int
 | [],r=>r
 | x::xs,r=>thn (szExpr x r) (szExprGo xs)
end
theorem szExprGo_eq:∀ l:List GExpr,szExprGo l=szGo szExpr l
 | []=>rfl
 | x::xs=>by funext r;simp only [szExprGo,szGo,szExprGo_eq xs]
theorem szExpr_eq(x:GExpr)(left:Int):szExpr x left=thn (szStr x.fText left) (fun a0=>thn (szPath x.fPath a0) (fun a1=>thn (szSl szExpr x.fKids a1) (id))):=by
 cases x;simp only [szExpr,szSl,szExprGo_eq,GExpr.fOp,GExpr.fNum,GExpr.fText,GExpr.fPath,GExpr.fKids]
mutual
theorem szExpr_le:∀ (x:GExpr) (r:Int),0≤r→szExpr x r≤r
 | .mk fOp fNum fText fPath fKids,r,h=>by
  simp only [szExpr]
  exact thn_le (fun a0 g0=>thn_le (fun a1 g1=>thn_le (fun _ _=>Int.le_refl _) (thn_le (fun y hy=>szExprGo_le fKids y hy) (by omega) g1) g1) (szPath_le fPath a0 g0) g0) (szStr_le fText r h) h
theorem szExprGo_le:∀ (l:List GExpr) (r:Int),0≤r→szExprGo l r≤r
 | [],r,_=>Int.le_refl _
 | x::xs,r,h=>by
  simp only [szExprGo]
  exact thn_le (fun y hy=>szExprGo_le xs y hy) (szExpr_le x r h) h
end
inductive GSchema where
 | mk (fKind:Int) (fName:Str) (fType:GType) (fKeys:List Str) (fUnique:List Str) (fDefault:Str) (fGiven:Bool) (fNeeded:Bool) (fPresent:Bool) (fFixed:Bool) (fMin:Int) (fMax:Int) (fWhen:List GExpr) (fMust:List GExpr) (fKids:List GSchema)
instance:Inhabited GSchema:=⟨.mk 0 [] default [] [] [] false false false false 0 0 [] [] []⟩
def GSchema.fKind:GSchema→Int|.mk a _ _ _ _ _ _ _ _ _ _ _ _ _ _=>a
def GSchema.fName:GSchema→Str|.mk _ a _ _ _ _ _ _ _ _ _ _ _ _ _=>a
def GSchema.fType:GSchema→GType|.mk _ _ a _ _ _ _ _ _ _ _ _ _ _ _=>a
def GSchema.fKeys:GSchema→List Str|.mk _ _ _ a _ _ _ _ _ _ _ _ _ _ _=>a
def GSchema.fUnique:GSchema→List Str|.mk _ _ _ _ a _ _ _ _ _ _ _ _ _ _=>a
def GSchema.fDefault:GSchema→Str|.mk _ _ _ _ _ a _ _ _ _ _ _ _ _ _=>a
def GSchema.fGiven:GSchema→Bool|.mk _ _ _ _ _ _ a _ _ _ _ _ _ _ _=>a
def GSchema.fNeeded:GSchema→Bool|.mk _ _ _ _ _ _ _ a _ _ _ _ _ _ _=>a
def GSchema.fPresent:GSchema→Bool|.mk _ _ _ _ _ _ _ _ a _ _ _ _ _ _=>a
def GSchema.fFixed:GSchema→Bool|.mk _ _ _ _ _ _ _ _ _ a _ _ _ _ _=>a
def GSchema.fMin:GSchema→Int|.mk _ _ _ _ _ _ _ _ _ _ a _ _ _ _=>a
def GSchema.fMax:GSchema→Int|.mk _ _ _ _ _ _ _ _ _ _ _ a _ _ _=>a
def GSchema.fWhen:GSchema→List GExpr|.mk _ _ _ _ _ _ _ _ _ _ _ _ a _ _=>a
def GSchema.fMust:GSchema→List GExpr|.mk _ _ _ _ _ _ _ _ _ _ _ _ _ a _=>a
def GSchema.fKids:GSchema→List GSchema|.mk _ _ _ _ _ _ _ _ _ _ _ _ _ _ a=>a
mutual
def encSchema(o:Bool):GSchema→AV
 | .mk fKind fName fType fKeys fUnique fDefault fGiven fNeeded fPresent fFixed fMin fMax fWhen fMust fKids=>.agg [.v (.int .i64 fKind),.str fName,.v (.int .i64 fType.fKind),.sl o 2 (fType.fRanges.map (encRange o)),.sl o 1 (fType.fNames.map AV.str),.str fType.fPattern,.str fType.fPath,.sl o 1 (fKeys.map AV.str),.sl o 1 (fUnique.map AV.str),.str fDefault,.v (.bool fGiven),.v (.bool fNeeded),.v (.bool fPresent),.v (.bool fFixed),.v (.int .i64 fMin),.v (.int .i64 fMax),.sl o 7 (fWhen.map (encExpr o)),.sl o 7 (fMust.map (encExpr o)),.sl o 19 (encSchemas o fKids)]
def encSchemas(o:Bool):List GSchema→List AV
 | []=>[]
 | x::xs=>encSchema o x::encSchemas o xs
end
theorem encSchemas_eq(o:Bool)(l:List GSchema):encSchemas o l=l.map (encSchema o):=by
 induction l with
 | nil=>rfl
 | cons x xs ih=>simp [encSchemas,ih]
@[go_sem] theorem encSchema_eq(o:Bool)(x:GSchema):encSchema o x=.agg [.v (.int .i64 x.fKind),.str x.fName,.v (.int .i64 x.fType.fKind),.sl o 2 (x.fType.fRanges.map (encRange o)),.sl o 1 (x.fType.fNames.map AV.str),.str x.fType.fPattern,.str x.fType.fPath,.sl o 1 (x.fKeys.map AV.str),.sl o 1 (x.fUnique.map AV.str),.str x.fDefault,.v (.bool x.fGiven),.v (.bool x.fNeeded),.v (.bool x.fPresent),.v (.bool x.fFixed),.v (.int .i64 x.fMin),.v (.int .i64 x.fMax),.sl o 7 (x.fWhen.map (encExpr o)),.sl o 7 (x.fMust.map (encExpr o)),.sl o 19 (x.fKids.map (encSchema o))]:=by
 cases x;simp [encSchema,encSchemas_eq,GSchema.fKind,GSchema.fName,GSchema.fType,GSchema.fKeys,GSchema.fUnique,GSchema.fDefault,GSchema.fGiven,GSchema.fNeeded,GSchema.fPresent,GSchema.fFixed,GSchema.fMin,GSchema.fMax,GSchema.fWhen,GSchema.fMust,GSchema.fKids]
mutual
theorem encSchema_frz:∀ x:GSchema,(encSchema true x).frz=encSchema false x
 | .mk fKind fName fType fKeys fUnique fDefault fGiven fNeeded fPresent fFixed fMin fMax fWhen fMust fKids=>by simp only [encSchema,AV.frz,AV.frzL,cond_true,encSchemas_frz fKids,encRangeM_frz,frzL_str,encExprM_frz]
theorem encSchemas_frz:∀ l:List GSchema,AV.frzL (encSchemas true l)=encSchemas false l
 | []=>rfl
 | x::xs=>by simp only [encSchemas,AV.frzL,encSchema_frz x,encSchemas_frz xs]
end
theorem encSchemaM_frz(l:List GSchema):AV.frzL (l.map (encSchema true))=l.map (encSchema false):=by
 rw [← encSchemas_eq,encSchemas_frz,encSchemas_eq]
mutual
def szSchema:GSchema→Int→Int
 | .mk fKind fName fType fKeys fUnique fDefault fGiven fNeeded fPresent fFixed fMin fMax fWhen fMust fKids,left=>thn (szStr fName left) (fun a0=>thn (szType fType a0) (fun a1=>thn (szSl szStr fKeys a1) (fun a2=>thn (szSl szStr fUnique a2) (fun a3=>thn (szStr fDefault a3) (fun a4=>thn (szSl szExpr fWhen a4) (fun a5=>thn (szSl szExpr fMust a5) (fun a6=>thn ((fun b=>thn (b - fKids.length) (szSchemaGo fKids)) a6) (id))))))))
def szSchemaGo:List GSchema→Int→Int
 | [],r=>r
 | x::xs,r=>thn (szSchema x r) (szSchemaGo xs)
end
theorem szSchemaGo_eq:∀ l:List GSchema,szSchemaGo l=szGo szSchema l
 | []=>rfl
 | x::xs=>by funext r;simp only [szSchemaGo,szGo,szSchemaGo_eq xs]
theorem szSchema_eq(x:GSchema)(left:Int):szSchema x left=thn (szStr x.fName left) (fun a0=>thn (szType x.fType a0) (fun a1=>thn (szSl szStr x.fKeys a1) (fun a2=>thn (szSl szStr x.fUnique a2) (fun a3=>thn (szStr x.fDefault a3) (fun a4=>thn (szSl szExpr x.fWhen a4) (fun a5=>thn (szSl szExpr x.fMust a5) (fun a6=>thn (szSl szSchema x.fKids a6) (id)))))))):=by
 cases x;simp only [szSchema,szSl,szSchemaGo_eq,GSchema.fKind,GSchema.fName,GSchema.fType,GSchema.fKeys,GSchema.fUnique,GSchema.fDefault,GSchema.fGiven,GSchema.fNeeded,GSchema.fPresent,GSchema.fFixed,GSchema.fMin,GSchema.fMax,GSchema.fWhen,GSchema.fMust,GSchema.fKids]
mutual
theorem szSchema_le:∀ (x:GSchema) (r:Int),0≤r→szSchema x r≤r
 | .mk fKind fName fType fKeys fUnique fDefault fGiven fNeeded fPresent fFixed fMin fMax fWhen fMust fKids,r,h=>by
  simp only [szSchema]
  exact thn_le (fun a0 g0=>thn_le (fun a1 g1=>thn_le (fun a2 g2=>thn_le (fun a3 g3=>thn_le (fun a4 g4=>thn_le (fun a5 g5=>thn_le (fun a6 g6=>thn_le (fun _ _=>Int.le_refl _) (thn_le (fun y hy=>szSchemaGo_le fKids y hy) (by omega) g6) g6) (szSl_le szExpr szExpr_le fMust a5 g5) g5) (szSl_le szExpr szExpr_le fWhen a4 g4) g4) (szStr_le fDefault a3 g3) g3) (szSl_le szStr szStr_le fUnique a2 g2) g2) (szSl_le szStr szStr_le fKeys a1 g1) g1) (szType_le fType a0 g0) g0) (szStr_le fName r h) h
theorem szSchemaGo_le:∀ (l:List GSchema) (r:Int),0≤r→szSchemaGo l r≤r
 | [],r,_=>Int.le_refl _
 | x::xs,r,h=>by
  simp only [szSchemaGo]
  exact thn_le (fun y hy=>szSchemaGo_le xs y hy) (szSchema_le x r h) h
end
inductive GNode where
 | mk (fName:Str) (fValue:Str) (fKids:List GNode)
instance:Inhabited GNode:=⟨.mk [] [] []⟩
def GNode.fName:GNode→Str|.mk a _ _=>a
def GNode.fValue:GNode→Str|.mk _ a _=>a
def GNode.fKids:GNode→List GNode|.mk _ _ a=>a
mutual
def encNode(o:Bool):GNode→AV
 | .mk fName fValue fKids=>.agg [.str fName,.str fValue,.sl o 3 (encNodes o fKids)]
def encNodes(o:Bool):List GNode→List AV
 | []=>[]
 | x::xs=>encNode o x::encNodes o xs
end
theorem encNodes_eq(o:Bool)(l:List GNode):encNodes o l=l.map (encNode o):=by
 induction l with
 | nil=>rfl
 | cons x xs ih=>simp [encNodes,ih]
@[go_sem] theorem encNode_eq(o:Bool)(x:GNode):encNode o x=.agg [.str x.fName,.str x.fValue,.sl o 3 (x.fKids.map (encNode o))]:=by
 cases x;simp [encNode,encNodes_eq,GNode.fName,GNode.fValue,GNode.fKids]
mutual
theorem encNode_frz:∀ x:GNode,(encNode true x).frz=encNode false x
 | .mk fName fValue fKids=>by simp only [encNode,AV.frz,AV.frzL,cond_true,encNodes_frz fKids]
theorem encNodes_frz:∀ l:List GNode,AV.frzL (encNodes true l)=encNodes false l
 | []=>rfl
 | x::xs=>by simp only [encNodes,AV.frzL,encNode_frz x,encNodes_frz xs]
end
theorem encNodeM_frz(l:List GNode):AV.frzL (l.map (encNode true))=l.map (encNode false):=by
 rw [← encNodes_eq,encNodes_frz,encNodes_eq]
mutual
def szNode:GNode→Int→Int
 | .mk fName fValue fKids,left=>thn (szStr fName left) (fun a0=>thn (szStr fValue a0) (fun a1=>thn ((fun b=>thn (b - fKids.length) (szNodeGo fKids)) a1) (id)))
def szNodeGo:List GNode→Int→Int
 | [],r=>r
 | x::xs,r=>thn (szNode x r) (szNodeGo xs)
end
theorem szNodeGo_eq:∀ l:List GNode,szNodeGo l=szGo szNode l
 | []=>rfl
 | x::xs=>by funext r;simp only [szNodeGo,szGo,szNodeGo_eq xs]
theorem szNode_eq(x:GNode)(left:Int):szNode x left=thn (szStr x.fName left) (fun a0=>thn (szStr x.fValue a0) (fun a1=>thn (szSl szNode x.fKids a1) (id))):=by
 cases x;simp only [szNode,szSl,szNodeGo_eq,GNode.fName,GNode.fValue,GNode.fKids]
mutual
theorem szNode_le:∀ (x:GNode) (r:Int),0≤r→szNode x r≤r
 | .mk fName fValue fKids,r,h=>by
  simp only [szNode]
  exact thn_le (fun a0 g0=>thn_le (fun a1 g1=>thn_le (fun _ _=>Int.le_refl _) (thn_le (fun y hy=>szNodeGo_le fKids y hy) (by omega) g1) g1) (szStr_le fValue a0 g0) g0) (szStr_le fName r h) h
theorem szNodeGo_le:∀ (l:List GNode) (r:Int),0≤r→szNodeGo l r≤r
 | [],r,_=>Int.le_refl _
 | x::xs,r,h=>by
  simp only [szNodeGo]
  exact thn_le (fun y hy=>szNodeGo_le xs y hy) (szNode_le x r h) h
end
inductive GEdit where
 | mk (fOp:Int) (fName:Str) (fValue:Str) (fKids:List GEdit)
instance:Inhabited GEdit:=⟨.mk 0 [] [] []⟩
def GEdit.fOp:GEdit→Int|.mk a _ _ _=>a
def GEdit.fName:GEdit→Str|.mk _ a _ _=>a
def GEdit.fValue:GEdit→Str|.mk _ _ a _=>a
def GEdit.fKids:GEdit→List GEdit|.mk _ _ _ a=>a
mutual
def encEdit(o:Bool):GEdit→AV
 | .mk fOp fName fValue fKids=>.agg [.v (.int .i64 fOp),.str fName,.str fValue,.sl o 4 (encEdits o fKids)]
def encEdits(o:Bool):List GEdit→List AV
 | []=>[]
 | x::xs=>encEdit o x::encEdits o xs
end
theorem encEdits_eq(o:Bool)(l:List GEdit):encEdits o l=l.map (encEdit o):=by
 induction l with
 | nil=>rfl
 | cons x xs ih=>simp [encEdits,ih]
@[go_sem] theorem encEdit_eq(o:Bool)(x:GEdit):encEdit o x=.agg [.v (.int .i64 x.fOp),.str x.fName,.str x.fValue,.sl o 4 (x.fKids.map (encEdit o))]:=by
 cases x;simp [encEdit,encEdits_eq,GEdit.fOp,GEdit.fName,GEdit.fValue,GEdit.fKids]
mutual
theorem encEdit_frz:∀ x:GEdit,(encEdit true x).frz=encEdit false x
 | .mk fOp fName fValue fKids=>by simp only [encEdit,AV.frz,AV.frzL,cond_true,encEdits_frz fKids]
theorem encEdits_frz:∀ l:List GEdit,AV.frzL (encEdits true l)=encEdits false l
 | []=>rfl
 | x::xs=>by simp only [encEdits,AV.frzL,encEdit_frz x,encEdits_frz xs]
end
theorem encEditM_frz(l:List GEdit):AV.frzL (l.map (encEdit true))=l.map (encEdit false):=by
 rw [← encEdits_eq,encEdits_frz,encEdits_eq]
mutual
def szEdit:GEdit→Int→Int
 | .mk fOp fName fValue fKids,left=>thn (szStr fName left) (fun a0=>thn (szStr fValue a0) (fun a1=>thn ((fun b=>thn (b - fKids.length) (szEditGo fKids)) a1) (id)))
def szEditGo:List GEdit→Int→Int
 | [],r=>r
 | x::xs,r=>thn (szEdit x r) (szEditGo xs)
end
mutual
theorem szEdit_le:∀ (x:GEdit) (r:Int),0≤r→szEdit x r≤r
 | .mk fOp fName fValue fKids,r,h=>by
  simp only [szEdit]
  exact thn_le (fun a0 g0=>thn_le (fun a1 g1=>thn_le (fun _ _=>Int.le_refl _) (thn_le (fun y hy=>szEditGo_le fKids y hy) (by omega) g1) g1) (szStr_le fValue a0 g0) g0) (szStr_le fName r h) h
theorem szEditGo_le:∀ (l:List GEdit) (r:Int),0≤r→szEditGo l r≤r
 | [],r,_=>Int.le_refl _
 | x::xs,r,h=>by
  simp only [szEditGo]
  exact thn_le (fun y hy=>szEditGo_le xs y hy) (szEdit_le x r h) h
end
def encEditS(o:Bool)(l:List GEdit):AV:=.sl o 4 (l.map (encEdit o))
theorem encEditS_frz(l:List GEdit):(encEditS true l).frz=encEditS false l:=by
 simp only [encEditS,AV.frz,cond_true,encEditM_frz]
theorem encEditSM_frz(l:List (List GEdit)):AV.frzL (l.map (encEditS true))=l.map (encEditS false):=frzL_map _ _ encEditS_frz l
def szEditS(l:List GEdit)(r:Int):Int:=szSl szEdit l r
structure GVersion where
 fTree:List GNode
 fBy:Int
 fAt:Int
instance:Inhabited GVersion:=⟨⟨[],0,0⟩⟩
@[go_sem] def encVersion(o:Bool)(x:GVersion):AV:=.agg [.sl o 3 (x.fTree.map (encNode o)),.v (.int .i64 x.fBy),.v (.int .i64 x.fAt)]
theorem encVersion_frz(x:GVersion):(encVersion true x).frz=encVersion false x:=by
 simp only [encVersion,AV.frz,AV.frzL,cond_true,encNodeM_frz]
theorem encVersionM_frz(l:List GVersion):AV.frzL (l.map (encVersion true))=l.map (encVersion false):=frzL_map _ _ encVersion_frz l
def szVersion(x:GVersion)(left:Int):Int:=thn (szSl szNode x.fTree left) (id)
theorem szVersion_le(x:GVersion)(r:Int)(h:0≤r):szVersion x r≤r:=thn_le (fun _ _=>Int.le_refl _) (szSl_le szNode szNode_le x.fTree r h) h
structure GPending where
 fOn:Bool
 fUntil:Int
 fBy:Int
 fName:Str
 fBack:List GNode
instance:Inhabited GPending:=⟨⟨false,0,0,[],[]⟩⟩
@[go_sem] def encPending(o:Bool)(x:GPending):AV:=.agg [.v (.bool x.fOn),.v (.int .i64 x.fUntil),.v (.int .i64 x.fBy),.str x.fName,.sl o 3 (x.fBack.map (encNode o))]
def szPending(x:GPending)(left:Int):Int:=thn (szStr x.fName left) (fun a0=>thn (szSl szNode x.fBack a0) (id))
theorem szPending_le(x:GPending)(r:Int)(h:0≤r):szPending x r≤r:=thn_le (fun a0 g0=>thn_le (fun _ _=>Int.le_refl _) (szSl_le szNode szNode_le x.fBack a0 g0) g0) (szStr_le x.fName r h) h
structure GStore where
 fSchema:List GSchema
 fRunning:List GNode
 fDraft:List GNode
 fOwner:Int
 fPast:List GVersion
 fWait:GPending
instance:Inhabited GStore:=⟨⟨[],[],[],0,[],default⟩⟩
@[go_sem] def encStore(o:Bool)(x:GStore):AV:=.agg [.sl o 19 (x.fSchema.map (encSchema o)),.sl o 3 (x.fRunning.map (encNode o)),.sl o 3 (x.fDraft.map (encNode o)),.v (.int .i64 x.fOwner),.sl o 3 (x.fPast.map (encVersion o)),.v (.bool x.fWait.fOn),.v (.int .i64 x.fWait.fUntil),.v (.int .i64 x.fWait.fBy),.str x.fWait.fName,.sl o 3 (x.fWait.fBack.map (encNode o))]
def szStore(x:GStore)(left:Int):Int:=thn (szSl szSchema x.fSchema left) (fun a0=>thn (szSl szNode x.fRunning a0) (fun a1=>thn (szSl szNode x.fDraft a1) (fun a2=>thn (szSl szVersion x.fPast a2) (fun a3=>thn (szPending x.fWait a3) (id)))))
theorem szStore_le(x:GStore)(r:Int)(h:0≤r):szStore x r≤r:=thn_le (fun a0 g0=>thn_le (fun a1 g1=>thn_le (fun a2 g2=>thn_le (fun a3 g3=>thn_le (fun _ _=>Int.le_refl _) (szPending_le x.fWait a3 g3) g3) (szSl_le szVersion szVersion_le x.fPast a2 g2) g2) (szSl_le szNode szNode_le x.fDraft a1 g1) g1) (szSl_le szNode szNode_le x.fRunning a0 g0) g0) (szSl_le szSchema szSchema_le x.fSchema r h) h
structure GChange where
 fAt:Int
 fBy:Int
 fEdits:List GEdit
instance:Inhabited GChange:=⟨⟨0,0,[]⟩⟩
@[go_sem] def encChange(o:Bool)(x:GChange):AV:=.agg [.v (.int .i64 x.fAt),.v (.int .i64 x.fBy),.sl o 4 (x.fEdits.map (encEdit o))]
def szChange(x:GChange)(left:Int):Int:=thn (szSl szEdit x.fEdits left) (id)
structure GJournal where
 fBase:List GNode
 fList:List GChange
instance:Inhabited GJournal:=⟨⟨[],[]⟩⟩
@[go_sem] def encJournal(o:Bool)(x:GJournal):AV:=.agg [.sl o 3 (x.fBase.map (encNode o)),.sl o 3 (x.fList.map (encChange o))]
def szJournal(x:GJournal)(left:Int):Int:=thn (szSl szNode x.fBase left) (fun a0=>thn (szSl szChange x.fList a0) (id))
structure GWatcher where
 fNames:List Str
 fSeen:List GNode
 fNotices:List (List GEdit)
instance:Inhabited GWatcher:=⟨⟨[],[],[]⟩⟩
@[go_sem] def encWatcher(o:Bool)(x:GWatcher):AV:=.agg [.sl o 1 (x.fNames.map AV.str),.sl o 3 (x.fSeen.map (encNode o)),.sl o 1 (x.fNotices.map (encEditS o))]
def szWatcher(x:GWatcher)(left:Int):Int:=thn (szSl szStr x.fNames left) (fun a0=>thn (szSl szNode x.fSeen a0) (fun a1=>thn (szSl szEditS x.fNotices a1) (id)))
structure GArg where
 fName:Str
 fValue:Str
instance:Inhabited GArg:=⟨⟨[],[]⟩⟩
@[go_sem] def encArg(o:Bool)(x:GArg):AV:=.agg [.str x.fName,.str x.fValue]
def szArg(x:GArg)(left:Int):Int:=thn (szStr x.fName left) (fun a0=>thn (szStr x.fValue a0) (id))
structure GParam where
 fName:Str
 fType:GType
instance:Inhabited GParam:=⟨⟨[],default⟩⟩
@[go_sem] def encParam(o:Bool)(x:GParam):AV:=.agg [.str x.fName,.v (.int .i64 x.fType.fKind),.sl o 2 (x.fType.fRanges.map (encRange o)),.sl o 1 (x.fType.fNames.map AV.str),.str x.fType.fPattern,.str x.fType.fPath]
theorem encParam_frz(x:GParam):(encParam true x).frz=encParam false x:=by
 simp only [encParam,AV.frz,AV.frzL,cond_true,encRangeM_frz,frzL_str]
theorem encParamM_frz(l:List GParam):AV.frzL (l.map (encParam true))=l.map (encParam false):=frzL_map _ _ encParam_frz l
def szParam(x:GParam)(left:Int):Int:=thn (szStr x.fName left) (fun a0=>thn (szType x.fType a0) (id))
structure GTemplate where
 fName:Str
 fParams:List GParam
 fBody:List GNode
instance:Inhabited GTemplate:=⟨⟨[],[],[]⟩⟩
@[go_sem] def encTemplate(o:Bool)(x:GTemplate):AV:=.agg [.str x.fName,.sl o 6 (x.fParams.map (encParam o)),.sl o 3 (x.fBody.map (encNode o))]
def szTemplate(x:GTemplate)(left:Int):Int:=thn (szStr x.fName left) (fun a0=>thn (szSl szParam x.fParams a0) (fun a1=>thn (szSl szNode x.fBody a1) (id)))
structure GService where
 fName:Str
 fTemplate:Str
 fArgs:List GArg
 fTargets:List Str
instance:Inhabited GService:=⟨⟨[],[],[],[]⟩⟩
@[go_sem] def encService(o:Bool)(x:GService):AV:=.agg [.str x.fName,.str x.fTemplate,.sl o 2 (x.fArgs.map (encArg o)),.sl o 1 (x.fTargets.map AV.str)]
def szService(x:GService)(left:Int):Int:=thn (szStr x.fName left) (fun a0=>thn (szStr x.fTemplate a0) (fun a1=>thn (szSl szArg x.fArgs a1) (fun a2=>thn (szSl szStr x.fTargets a2) (id))))
structure GPlan where
 fTemplates:List GTemplate
 fServices:List GService
instance:Inhabited GPlan:=⟨⟨[],[]⟩⟩
@[go_sem] def encPlan(o:Bool)(x:GPlan):AV:=.agg [.sl o 3 (x.fTemplates.map (encTemplate o)),.sl o 4 (x.fServices.map (encService o))]
def szPlan(x:GPlan)(left:Int):Int:=thn (szSl szTemplate x.fTemplates left) (fun a0=>thn (szSl szService x.fServices a0) (id))
structure GDevice where
 fName:Str
 fStore:GStore
 fBase:List GNode
 fUp:Bool
 fWeak:Int
 fHeld:Bool
instance:Inhabited GDevice:=⟨⟨[],default,[],false,0,false⟩⟩
@[go_sem] def encDevice(o:Bool)(x:GDevice):AV:=.agg [.str x.fName,.sl o 19 (x.fStore.fSchema.map (encSchema o)),.sl o 3 (x.fStore.fRunning.map (encNode o)),.sl o 3 (x.fStore.fDraft.map (encNode o)),.v (.int .i64 x.fStore.fOwner),.sl o 3 (x.fStore.fPast.map (encVersion o)),.v (.bool x.fStore.fWait.fOn),.v (.int .i64 x.fStore.fWait.fUntil),.v (.int .i64 x.fStore.fWait.fBy),.str x.fStore.fWait.fName,.sl o 3 (x.fStore.fWait.fBack.map (encNode o)),.sl o 3 (x.fBase.map (encNode o)),.v (.bool x.fUp),.v (.int .i64 x.fWeak),.v (.bool x.fHeld)]
theorem encDevice_frz(x:GDevice):(encDevice true x).frz=encDevice false x:=by
 simp only [encDevice,AV.frz,AV.frzL,cond_true,encSchemaM_frz,encNodeM_frz,encVersionM_frz]
theorem encDeviceM_frz(l:List GDevice):AV.frzL (l.map (encDevice true))=l.map (encDevice false):=frzL_map _ _ encDevice_frz l
def szDevice(x:GDevice)(left:Int):Int:=thn (szStr x.fName left) (fun a0=>thn (szStore x.fStore a0) (fun a1=>thn (szSl szNode x.fBase a1) (id)))
theorem szDevice_le(x:GDevice)(r:Int)(h:0≤r):szDevice x r≤r:=thn_le (fun a0 g0=>thn_le (fun a1 g1=>thn_le (fun _ _=>Int.le_refl _) (szSl_le szNode szNode_le x.fBase a1 g1) g1) (szStore_le x.fStore a0 g0) g0) (szStr_le x.fName r h) h
def limT:Nat→Nat
 | 0=>2097152+0
 | _=>2147483648
theorem limT_b(n:Nat):1048576≤limT n∧limT n≤4611686018427387904:=by unfold limT;first|(split<;>omega)|omega
def lim(sz:Nat):Nat:=if sz≤1 then 1099511627776 else if sz<1000000000 then 2147483648 else limT (sz - 1000000000)
def rawL(_:Nat):Nat:=140737488355328
end Go.Dt
