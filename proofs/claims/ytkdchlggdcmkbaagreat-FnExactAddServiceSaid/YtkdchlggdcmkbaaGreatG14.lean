/-
  Part of a proof: Opn2, Fa1.
-/
import Derived.Test.YtkdchlggdcmkbaaGreatG8
import Derived.Test.YtkdchlggdcmkbaaGreatG10
import Derived.Test.YtkdchlggdcmkbaaGreatG11
import Derived.Test.YtkdchlggdcmkbaaGreatG12
import Derived.Test.YtkdchlggdcmkbaaGreatG13
set_option linter.unusedSimpArgs false
set_option linter.unusedVariables false
namespace Go.Proofs.YtkdchlggdcmkbaaGreat
open Go.Ab Go.Dt
variable {H : Type} {enc : TypeId × Value → H} {W : World}
theorem hreach (z : Nat) : reachBytes ≤ rawL z := by
  have := reachBytes_lt
  unfold rawL; omega

instance : Inhabited Dt.GRange := ⟨0, 0⟩
def celRange (x : Dt.GRange) : List AV := [.v (.int .i64 x.fLo), .v (.int .i64 x.fHi)]
theorem pkRange {L : Nat → Nat} : Packs L W celRange (encRange false) 2 := by
  have : encRange false = fun x => .agg (celRange x) := by funext x; simp only [go_sem, celRange]
  rw [this]; exact Packs.agg fun _ => rfl
theorem opRange (n : Nat) : Opens enc Tryz.prog W rawL n 293 celRange (fun _ => True) := by
  refine Opens.mono (n := n + 1 + 1) ?_ (by omega)
  exact Opens.struct (P := Tryz.prog) (t := 293) (fl := [(3, 0, 1), (3, 1, 1)]) (tot := 2) (by kernel_rfl)
      (OpensFs.cons (Opens.int (k := .i64) (by kernel_rfl)) (OpensFs.cons (Opens.int (k := .i64) (by kernel_rfl)) OpensFs.nil))
      (fun p => ⟨p.1, p.2.1⟩) (fun p _ => ⟨trivial, rfl⟩)
theorem fitRange (x : Dt.GRange) (r : Int) (h0 : 0 ≤ r) (h1 : r ≤ 1048576) (h : 0 ≤ szRange x r) : (encRange false x).fits lim := by
  simp only [encRange, AV.fits, AV.fitsL]
  exact ⟨trivial, trivial, trivial⟩
instance : Inhabited Dt.GType := ⟨0, [], [], [], []⟩
def celType (x : Dt.GType) : List AV := [.v (.int .i64 x.fKind), .sl false 2 (x.fRanges.map (encRange false)), .sl false 1 (x.fNames.map AV.str), .str x.fPattern, .str x.fPath]
theorem opType (n : Nat) : Opens enc Tryz.prog W rawL n 208 celType (fun _ => True) := by
  refine Opens.mono (n := n + 1 + 1) ?_ (by omega)
  exact Opens.struct (P := Tryz.prog) (t := 208) (fl := [(3, 0, 1), (206, 1, 1), (66, 2, 1), (9, 3, 1), (9, 4, 1)]) (tot := 5) (by kernel_rfl)
      (OpensFs.cons (Opens.int (k := .i64) (by kernel_rfl)) (OpensFs.cons (Opens.slice (e := 293) (bytes := 16) (by kernel_rfl) (by decide) (by decide) (hreach _) pkRange (opRange n)) (OpensFs.cons (Opens.slice (e := 9) (bytes := 16) (by kernel_rfl) (by decide) (by decide) (hreach _) Packs.str (Opens.str (by kernel_rfl))) (OpensFs.cons (Opens.str (by kernel_rfl)) (OpensFs.cons (Opens.str (by kernel_rfl)) OpensFs.nil)))))
      (fun p => ⟨p.1, p.2.1, p.2.2.1, p.2.2.2.1, p.2.2.2.2.1⟩) (fun p _ => ⟨trivial, rfl⟩)
theorem fitType (x : Dt.GType) (r : Int) (h0 : 0 ≤ r) (h1 : r ≤ 1048576) (h : 0 ≤ szType x r) : (encType false x).fits lim := by
  unfold szType at h
  obtain ⟨a0, h⟩ := thn_get h
  have l0 := szSl_le szRange szRange_le x.fRanges r h0
  obtain ⟨a1, h⟩ := thn_get h
  have l1 := szSl_le szStr szStr_le x.fNames (szSl szRange x.fRanges r) a0
  obtain ⟨a2, h⟩ := thn_get h
  have l2 := szStr_le x.fPattern (szSl szStr x.fNames (szSl szRange x.fRanges r)) a1
  obtain ⟨a3, h⟩ := thn_get h
  have l3 := szStr_le x.fPath (szStr x.fPattern (szSl szStr x.fNames (szSl szRange x.fRanges r))) a2
  have z0 : (AV.sl false 2 (x.fRanges.map (encRange false))).fits lim := fits_sl (f := szRange) szRange_le x.fRanges r h0 (by omega) a0 (fun y hy r' p q s => fitRange y r' p q s)
  have z1 : (AV.sl false 1 (x.fNames.map AV.str)).fits lim := fits_sl (f := szStr) szStr_le x.fNames (szSl szRange x.fRanges r) a0 (by omega) a1 (fun _ _ _ _ _ _ => trivial)
  simp only [AV.fits, AV.fitsL] at z0 z1
  simp only [encType, AV.fits, AV.fitsL]
  exact ⟨trivial, z0, z1, trivial, trivial, trivial⟩
instance : Inhabited Dt.GTest := ⟨[], []⟩
def celTest (x : Dt.GTest) : List AV := [.str x.fName, .str x.fValue]
instance : Inhabited Dt.GStep := ⟨[], []⟩
def celStep (x : Dt.GStep) : List AV := [.str x.fName, .sl false 2 (x.fTests.map (encTest false))]
instance : Inhabited Dt.GPath := ⟨false, 0, []⟩
def celPath (x : Dt.GPath) : List AV := [.v (.bool x.fRoot), .v (.int .i64 x.fUps), .sl false 2 (x.fSteps.map (encStep false))]
instance : Inhabited Dt.GExpr := ⟨.mk 0 0 [] default []⟩
def celExpr (x : Dt.GExpr) : List AV := [.v (.int .i64 x.fOp), .v (.int .i64 x.fNum), .str x.fText, .v (.bool x.fPath.fRoot), .v (.int .i64 x.fPath.fUps), .sl false 2 (x.fPath.fSteps.map (encStep false)), .sl false 7 (x.fKids.map (encExpr false))]
instance : Inhabited Dt.GSchema := ⟨.mk 0 [] default [] [] [] false false false false 0 0 [] [] []⟩
def celSchema (x : Dt.GSchema) : List AV := [.v (.int .i64 x.fKind), .str x.fName, .v (.int .i64 x.fType.fKind), .sl false 2 (x.fType.fRanges.map (encRange false)), .sl false 1 (x.fType.fNames.map AV.str), .str x.fType.fPattern, .str x.fType.fPath, .sl false 1 (x.fKeys.map AV.str), .sl false 1 (x.fUnique.map AV.str), .str x.fDefault, .v (.bool x.fGiven), .v (.bool x.fNeeded), .v (.bool x.fPresent), .v (.bool x.fFixed), .v (.int .i64 x.fMin), .v (.int .i64 x.fMax), .sl false 7 (x.fWhen.map (encExpr false)), .sl false 7 (x.fMust.map (encExpr false)), .sl false 19 (x.fKids.map (encSchema false))]
instance : Inhabited Dt.GNode := ⟨.mk [] [] []⟩
def celNode (x : Dt.GNode) : List AV := [.str x.fName, .str x.fValue, .sl false 3 (x.fKids.map (encNode false))]
theorem pkNode {L : Nat → Nat} : Packs L W celNode (encNode false) 3 := by
  have : encNode false = fun x => .agg (celNode x) := by funext x; simp only [go_sem, celNode]
  rw [this]; exact Packs.agg fun _ => rfl
theorem opNode (n : Nat) : Opens enc Tryz.prog W rawL n 162 celNode (fun _ => True) := by
  induction n with
  | zero => exact Opens.zero
  | succ n ih =>
    refine Opens.mono (n := n + 1 + 1) ?_ (by omega)
    exact Opens.struct (P := Tryz.prog) (t := 162) (fl := [(9, 0, 1), (9, 1, 1), (36, 2, 1)]) (tot := 3) (by kernel_rfl)
      (OpensFs.cons (Opens.str (by kernel_rfl)) (OpensFs.cons (Opens.str (by kernel_rfl)) (OpensFs.cons (Opens.slice (e := 162) (bytes := 56) (by kernel_rfl) (by decide) (by decide) (hreach _) pkNode ih) OpensFs.nil)))
      (fun p => .mk p.1 p.2.1 p.2.2.1) (fun p _ => ⟨trivial, rfl⟩)
theorem fitNode (x : Dt.GNode) (r : Int) (h0 : 0 ≤ r) (h1 : r ≤ 1048576) (h : 0 ≤ szNode x r) : (encNode false x).fits lim := by
  induction hs : SizeOf.sizeOf x using Nat.strongRecOn generalizing x r with
  | _ n ih =>
    rw [szNode_eq] at h
    obtain ⟨a0, h⟩ := thn_get h
    have l0 := szStr_le x.fName r h0
    obtain ⟨a1, h⟩ := thn_get h
    have l1 := szStr_le x.fValue (szStr x.fName r) a0
    obtain ⟨a2, h⟩ := thn_get h
    have l2 := szSl_le szNode szNode_le x.fKids (szStr x.fValue (szStr x.fName r)) a1
    have z2 : (AV.sl false 3 (x.fKids.map (encNode false))).fits lim := fits_sl (f := szNode) szNode_le x.fKids (szStr x.fValue (szStr x.fName r)) a1 (by omega) a2 (fun y hy r' p q s => ih (SizeOf.sizeOf y) (by have := List.sizeOf_lt_of_mem hy; cases x; simp [Dt.GNode.fKids] at *; omega) y r' p q s rfl)
    simp only [AV.fits, AV.fitsL] at z2
    simp only [encNode_eq, AV.fits, AV.fitsL]
    exact ⟨trivial, trivial, z2, trivial⟩
instance : Inhabited Dt.GVersion := ⟨[], 0, 0⟩
def celVersion (x : Dt.GVersion) : List AV := [.sl false 3 (x.fTree.map (encNode false)), .v (.int .i64 x.fBy), .v (.int .i64 x.fAt)]
instance : Inhabited Dt.GPending := ⟨false, 0, 0, [], []⟩
def celPending (x : Dt.GPending) : List AV := [.v (.bool x.fOn), .v (.int .i64 x.fUntil), .v (.int .i64 x.fBy), .str x.fName, .sl false 3 (x.fBack.map (encNode false))]
instance : Inhabited Dt.GStore := ⟨[], [], [], 0, [], default⟩
def celStore (x : Dt.GStore) : List AV := [.sl false 19 (x.fSchema.map (encSchema false)), .sl false 3 (x.fRunning.map (encNode false)), .sl false 3 (x.fDraft.map (encNode false)), .v (.int .i64 x.fOwner), .sl false 3 (x.fPast.map (encVersion false)), .v (.bool x.fWait.fOn), .v (.int .i64 x.fWait.fUntil), .v (.int .i64 x.fWait.fBy), .str x.fWait.fName, .sl false 3 (x.fWait.fBack.map (encNode false))]
instance : Inhabited Dt.GArg := ⟨[], []⟩
def celArg (x : Dt.GArg) : List AV := [.str x.fName, .str x.fValue]
theorem pkArg {L : Nat → Nat} : Packs L W celArg (encArg false) 2 := by
  have : encArg false = fun x => .agg (celArg x) := by funext x; simp only [go_sem, celArg]
  rw [this]; exact Packs.agg fun _ => rfl
theorem opArg (n : Nat) : Opens enc Tryz.prog W rawL n 186 celArg (fun _ => True) := by
  refine Opens.mono (n := n + 1 + 1) ?_ (by omega)
  exact Opens.struct (P := Tryz.prog) (t := 186) (fl := [(9, 0, 1), (9, 1, 1)]) (tot := 2) (by kernel_rfl)
      (OpensFs.cons (Opens.str (by kernel_rfl)) (OpensFs.cons (Opens.str (by kernel_rfl)) OpensFs.nil))
      (fun p => ⟨p.1, p.2.1⟩) (fun p _ => ⟨trivial, rfl⟩)
theorem fitArg (x : Dt.GArg) (r : Int) (h0 : 0 ≤ r) (h1 : r ≤ 1048576) (h : 0 ≤ szArg x r) : (encArg false x).fits lim := by
  unfold szArg at h
  obtain ⟨a0, h⟩ := thn_get h
  have l0 := szStr_le x.fName r h0
  obtain ⟨a1, h⟩ := thn_get h
  have l1 := szStr_le x.fValue (szStr x.fName r) a0
  simp only [encArg, AV.fits, AV.fitsL]
  exact ⟨trivial, trivial, trivial⟩
instance : Inhabited Dt.GParam := ⟨[], default⟩
def celParam (x : Dt.GParam) : List AV := [.str x.fName, .v (.int .i64 x.fType.fKind), .sl false 2 (x.fType.fRanges.map (encRange false)), .sl false 1 (x.fType.fNames.map AV.str), .str x.fType.fPattern, .str x.fType.fPath]
theorem pkParam {L : Nat → Nat} : Packs L W celParam (encParam false) 6 := by
  have : encParam false = fun x => .agg (celParam x) := by funext x; simp only [go_sem, celParam]
  rw [this]; exact Packs.agg fun _ => rfl
theorem opParam (n : Nat) : Opens enc Tryz.prog W rawL n 237 celParam (fun _ => True) := by
  refine Opens.mono (n := n + 1 + 1) ?_ (by omega)
  exact Opens.struct (P := Tryz.prog) (t := 237) (fl := [(9, 0, 1), (208, 1, 5)]) (tot := 6) (by kernel_rfl)
      (OpensFs.cons (Opens.str (by kernel_rfl)) (OpensFs.cons (opType _) OpensFs.nil))
      (fun p => ⟨p.1, p.2.1⟩) (fun p _ => ⟨trivial, rfl⟩)
theorem fitParam (x : Dt.GParam) (r : Int) (h0 : 0 ≤ r) (h1 : r ≤ 1048576) (h : 0 ≤ szParam x r) : (encParam false x).fits lim := by
  unfold szParam at h
  obtain ⟨a0, h⟩ := thn_get h
  have l0 := szStr_le x.fName r h0
  obtain ⟨a1, h⟩ := thn_get h
  have l1 := szType_le x.fType (szStr x.fName r) a0
  have z1 := fitType x.fType (szStr x.fName r) a0 (by omega) a1
  simp only [encType, AV.fits, AV.fitsL] at z1
  simp only [encParam, AV.fits, AV.fitsL]
  exact ⟨trivial, z1.1, z1.2.1, z1.2.2.1, z1.2.2.2.1, z1.2.2.2.2.1, trivial⟩
instance : Inhabited Dt.GTemplate := ⟨[], [], []⟩
def celTemplate (x : Dt.GTemplate) : List AV := [.str x.fName, .sl false 6 (x.fParams.map (encParam false)), .sl false 3 (x.fBody.map (encNode false))]
theorem pkTemplate {L : Nat → Nat} : Packs L W celTemplate (encTemplate false) 3 := by
  have : encTemplate false = fun x => .agg (celTemplate x) := by funext x; simp only [go_sem, celTemplate]
  rw [this]; exact Packs.agg fun _ => rfl
theorem opTemplate (n : Nat) : Opens enc Tryz.prog W rawL n 141 celTemplate (fun _ => True) := by
  refine Opens.mono (n := n + 1 + 1) ?_ (by omega)
  exact Opens.struct (P := Tryz.prog) (t := 141) (fl := [(9, 0, 1), (139, 1, 1), (36, 2, 1)]) (tot := 3) (by kernel_rfl)
      (OpensFs.cons (Opens.str (by kernel_rfl)) (OpensFs.cons (Opens.slice (e := 237) (bytes := 104) (by kernel_rfl) (by decide) (by decide) (hreach _) pkParam (opParam n)) (OpensFs.cons (Opens.slice (e := 162) (bytes := 56) (by kernel_rfl) (by decide) (by decide) (hreach _) pkNode (opNode n)) OpensFs.nil)))
      (fun p => ⟨p.1, p.2.1, p.2.2.1⟩) (fun p _ => ⟨trivial, rfl⟩)
theorem fitTemplate (x : Dt.GTemplate) (r : Int) (h0 : 0 ≤ r) (h1 : r ≤ 1048576) (h : 0 ≤ szTemplate x r) : (encTemplate false x).fits lim := by
  unfold szTemplate at h
  obtain ⟨a0, h⟩ := thn_get h
  have l0 := szStr_le x.fName r h0
  obtain ⟨a1, h⟩ := thn_get h
  have l1 := szSl_le szParam szParam_le x.fParams (szStr x.fName r) a0
  obtain ⟨a2, h⟩ := thn_get h
  have l2 := szSl_le szNode szNode_le x.fBody (szSl szParam x.fParams (szStr x.fName r)) a1
  have z1 : (AV.sl false 6 (x.fParams.map (encParam false))).fits lim := fits_sl (f := szParam) szParam_le x.fParams (szStr x.fName r) a0 (by omega) a1 (fun y hy r' p q s => fitParam y r' p q s)
  have z2 : (AV.sl false 3 (x.fBody.map (encNode false))).fits lim := fits_sl (f := szNode) szNode_le x.fBody (szSl szParam x.fParams (szStr x.fName r)) a1 (by omega) a2 (fun y hy r' p q s => fitNode y r' p q s)
  simp only [AV.fits, AV.fitsL] at z1 z2
  simp only [encTemplate, AV.fits, AV.fitsL]
  exact ⟨trivial, z1, z2, trivial⟩
instance : Inhabited Dt.GService := ⟨[], [], [], []⟩
def celService (x : Dt.GService) : List AV := [.str x.fName, .str x.fTemplate, .sl false 2 (x.fArgs.map (encArg false)), .sl false 1 (x.fTargets.map AV.str)]
theorem pkService {L : Nat → Nat} : Packs L W celService (encService false) 4 := by
  have : encService false = fun x => .agg (celService x) := by funext x; simp only [go_sem, celService]
  rw [this]; exact Packs.agg fun _ => rfl
theorem opService (n : Nat) : Opens enc Tryz.prog W rawL n 82 celService (fun _ => True) := by
  refine Opens.mono (n := n + 1 + 1) ?_ (by omega)
  exact Opens.struct (P := Tryz.prog) (t := 82) (fl := [(9, 0, 1), (9, 1, 1), (80, 2, 1), (66, 3, 1)]) (tot := 4) (by kernel_rfl)
      (OpensFs.cons (Opens.str (by kernel_rfl)) (OpensFs.cons (Opens.str (by kernel_rfl)) (OpensFs.cons (Opens.slice (e := 186) (bytes := 32) (by kernel_rfl) (by decide) (by decide) (hreach _) pkArg (opArg n)) (OpensFs.cons (Opens.slice (e := 9) (bytes := 16) (by kernel_rfl) (by decide) (by decide) (hreach _) Packs.str (Opens.str (by kernel_rfl))) OpensFs.nil))))
      (fun p => ⟨p.1, p.2.1, p.2.2.1, p.2.2.2.1⟩) (fun p _ => ⟨trivial, rfl⟩)
theorem fitService (x : Dt.GService) (r : Int) (h0 : 0 ≤ r) (h1 : r ≤ 1048576) (h : 0 ≤ szService x r) : (encService false x).fits lim := by
  unfold szService at h
  obtain ⟨a0, h⟩ := thn_get h
  have l0 := szStr_le x.fName r h0
  obtain ⟨a1, h⟩ := thn_get h
  have l1 := szStr_le x.fTemplate (szStr x.fName r) a0
  obtain ⟨a2, h⟩ := thn_get h
  have l2 := szSl_le szArg szArg_le x.fArgs (szStr x.fTemplate (szStr x.fName r)) a1
  obtain ⟨a3, h⟩ := thn_get h
  have l3 := szSl_le szStr szStr_le x.fTargets (szSl szArg x.fArgs (szStr x.fTemplate (szStr x.fName r))) a2
  have z2 : (AV.sl false 2 (x.fArgs.map (encArg false))).fits lim := fits_sl (f := szArg) szArg_le x.fArgs (szStr x.fTemplate (szStr x.fName r)) a1 (by omega) a2 (fun y hy r' p q s => fitArg y r' p q s)
  have z3 : (AV.sl false 1 (x.fTargets.map AV.str)).fits lim := fits_sl (f := szStr) szStr_le x.fTargets (szSl szArg x.fArgs (szStr x.fTemplate (szStr x.fName r))) a2 (by omega) a3 (fun _ _ _ _ _ _ => trivial)
  simp only [AV.fits, AV.fitsL] at z2 z3
  simp only [encService, AV.fits, AV.fitsL]
  exact ⟨trivial, trivial, z2, z3, trivial⟩
instance : Inhabited Dt.GPlan := ⟨[], []⟩
def celPlan (x : Dt.GPlan) : List AV := [.sl false 3 (x.fTemplates.map (encTemplate false)), .sl false 4 (x.fServices.map (encService false))]
theorem opPlan (n : Nat) : Opens enc Tryz.prog W rawL n 25 celPlan (fun _ => True) := by
  refine Opens.mono (n := n + 1 + 1) ?_ (by omega)
  exact Opens.struct (P := Tryz.prog) (t := 25) (fl := [(22, 0, 1), (23, 1, 1)]) (tot := 2) (by kernel_rfl)
      (OpensFs.cons (Opens.slice (e := 141) (bytes := 64) (by kernel_rfl) (by decide) (by decide) (hreach _) pkTemplate (opTemplate n)) (OpensFs.cons (Opens.slice (e := 82) (bytes := 80) (by kernel_rfl) (by decide) (by decide) (hreach _) pkService (opService n)) OpensFs.nil))
      (fun p => ⟨p.1, p.2.1⟩) (fun p _ => ⟨trivial, rfl⟩)
theorem fitPlan (x : Dt.GPlan) (r : Int) (h0 : 0 ≤ r) (h1 : r ≤ 1048576) (h : 0 ≤ szPlan x r) : (encPlan false x).fits lim := by
  unfold szPlan at h
  obtain ⟨a0, h⟩ := thn_get h
  have l0 := szSl_le szTemplate szTemplate_le x.fTemplates r h0
  obtain ⟨a1, h⟩ := thn_get h
  have l1 := szSl_le szService szService_le x.fServices (szSl szTemplate x.fTemplates r) a0
  have z0 : (AV.sl false 3 (x.fTemplates.map (encTemplate false))).fits lim := fits_sl (f := szTemplate) szTemplate_le x.fTemplates r h0 (by omega) a0 (fun y hy r' p q s => fitTemplate y r' p q s)
  have z1 : (AV.sl false 4 (x.fServices.map (encService false))).fits lim := fits_sl (f := szService) szService_le x.fServices (szSl szTemplate x.fTemplates r) a0 (by omega) a1 (fun y hy r' p q s => fitService y r' p q s)
  simp only [AV.fits, AV.fitsL] at z0 z1
  simp only [encPlan, AV.fits, AV.fitsL]
  exact ⟨z0, z1, trivial⟩
instance : Inhabited Dt.GDevice := ⟨[], default, [], false, 0, false⟩
def celDevice (x : Dt.GDevice) : List AV := [.str x.fName, .sl false 19 (x.fStore.fSchema.map (encSchema false)), .sl false 3 (x.fStore.fRunning.map (encNode false)), .sl false 3 (x.fStore.fDraft.map (encNode false)), .v (.int .i64 x.fStore.fOwner), .sl false 3 (x.fStore.fPast.map (encVersion false)), .v (.bool x.fStore.fWait.fOn), .v (.int .i64 x.fStore.fWait.fUntil), .v (.int .i64 x.fStore.fWait.fBy), .str x.fStore.fWait.fName, .sl false 3 (x.fStore.fWait.fBack.map (encNode false)), .sl false 3 (x.fBase.map (encNode false)), .v (.bool x.fUp), .v (.int .i64 x.fWeak), .v (.bool x.fHeld)]
instance : Inhabited Dt.GTask := ⟨[], [], 0⟩
def celTask (x : Dt.GTask) : List AV := [.str x.fDevice, .sl false 3 (x.fTree.map (encNode false)), .v (.int .i64 x.fState)]
instance : Inhabited Dt.GCampaign := ⟨0, []⟩
def celCampaign (x : Dt.GCampaign) : List AV := [.v (.int .i64 x.fState), .sl false 3 (x.fTasks.map (encTask false))]
instance : Inhabited Dt.GManager := ⟨default, [], default, default, 0⟩
def celManager (x : Dt.GManager) : List AV := [.sl false 3 (x.fPlan.fTemplates.map (encTemplate false)), .sl false 4 (x.fPlan.fServices.map (encService false)), .sl false 15 (x.fDevices.map (encDevice false)), .v (.int .i64 x.fCampaign.fState), .sl false 3 (x.fCampaign.fTasks.map (encTask false)), .v (.int .i64 x.fLast.fState), .sl false 3 (x.fLast.fTasks.map (encTask false)), .v (.int .i64 x.fNow)]
end Go.Proofs.YtkdchlggdcmkbaaGreat
namespace Go.Proofs.YtkdchlggdcmkbaaGreat
open Go.Ab Go.Dt
set_option maxRecDepth 20000
set_option maxHeartbeats 2000000

instance markText_i (k : Int) : Ctr lim Tryz.prog 72 [] [.v (.int .i64 k)] (.str (mkT k)) [] (k ≤ 1099511627776) := by
  refine Ctr.of_body en72 Tryz.func72 rfl rfl fun hp => (?_); rw [Tryz.ntmps72]
  (repeat' first | (with_reducible first | refine Z ?_ | refine Y ?_ | (refine hK _ _ ?_; clear hK K) | refine And.intro ?_ ?_ | exact Ct | intro (K : _ → _ → Prop) hK | (refine gI fun hg => ?_; try simp only [hC, reduceCtorEq] at hg; try simp only [hg])) | (refine AW.i rfl (fun h => ?_) (fun h => ?_) <;> try simp only [hC, reduceCtorEq] at h) | ((with_reducible refine E ?_; repeat refine Y ?_); refine eF rfl ?_) | simp (disch := omega) only [go_sem] | (with_reducible intro hg; try simp only [hC, reduceCtorEq] at hg) | exact Cl | fail)
  · rw [mkT, if_pos h]
  obtain ⟨n, rfl⟩ : ∃ n : Nat, k = n := ⟨k.toNat, by omega⟩
  refine AW.loopV [0, 3] [] (fun m xs o => ∃ (j : Nat) (out : Str), xs = [.v (.int .i64 j), .str out] ∧ o = [] ∧ m = j ∧ out.length + j ≤ n ∧ digs j out = digs n []) n [] trivial ⟨n, [], ?_, rfl, rfl, ?_, rfl⟩ ?_
  · rfl
  · simp
  rintro m xs o ⟨j, out, rfl, rfl, rfl, hl, hR⟩
  (repeat' first | (with_reducible first | refine Z ?_ | refine Y ?_ | (refine hK _ _ ?_; clear hK K) | refine And.intro ?_ ?_ | exact Ct | intro (K : _ → _ → Prop) hK | (refine gI fun hg => ?_; try simp only [hC, reduceCtorEq] at hg; try simp only [hg])) | (refine AW.i rfl (fun h => ?_) (fun h => ?_) <;> try simp only [hC, reduceCtorEq] at h) | ((with_reducible refine E ?_; repeat refine Y ?_); refine eF rfl ?_) | simp (disch := omega) only [go_sem] | (with_reducible intro hg; try simp only [hC, reduceCtorEq] at hg) | exact Cl | fail)
  · rw [digs_pos (by omega)] at hR
    exact ⟨_, [_, _], [], by omega, ⟨m / 10, _, rfl, rfl, rfl, by simp; omega, hR⟩, by rw [show (48 + ((m % 10 : Nat) : Int)).toNat = 48 + m % 10 by omega]; rfl, trivial⟩
  · have : m = 0 := by omega
    subst this
    rw [digs_zero] at hR
    rw [mkT, if_neg (by omega), Int.toNat_natCast, hR]

instance eqStringS_i (L : Nat → Nat) [hL : Lok L] (l : List Str) : Ctr L Tryz.prog 23 [] [.sl false 1 (l.map AV.str), .sl false 1 (l.map AV.str)] (.v (.bool true)) [] True := by
  refine Ctr.of_body en23 Tryz.func23 rfl rfl fun hp => (?_); rw [Tryz.ntmps23]
  refine AW.fact 0 fun hf => ?_
  simp (disch := omega) only [go_sem, Nat.reduceBEq] at hf
  have hf := Nat.le_trans hf (hL.le 1)
  (repeat' first | (with_reducible first | refine Z ?_ | refine Y ?_ | (refine hK _ _ ?_; clear hK K) | refine And.intro ?_ ?_ | exact Ct | intro (K : _ → _ → Prop) hK | (refine gI fun hg => ?_; try simp only [hC, reduceCtorEq] at hg; try simp only [hg])) | (refine AW.i rfl (fun h => ?_) (fun h => ?_) <;> try simp only [hC, reduceCtorEq] at h) | ((with_reducible refine E ?_; repeat refine Y ?_); refine eF rfl ?_) | simp (disch := omega) only [go_sem] | (with_reducible intro hg; try simp only [hC, reduceCtorEq] at hg) | exact Cl | fail)
  refine AW.loopV [5] [0, 1] (fun m xs o => ∃ k : Nat, xs = [.v (.int .i64 k)] ∧ o = [] ∧ m = l.length - k ∧ k ≤ l.length) l.length [] trivial ⟨0, ?_, rfl, rfl, ?_⟩ ?_
  · rfl
  · omega
  rintro m xs o ⟨k, rfl, rfl, rfl, hk⟩
  (repeat' first | (with_reducible first | refine Z ?_ | refine Y ?_ | (refine hK _ _ ?_; clear hK K) | refine And.intro ?_ ?_ | exact Ct | intro (K : _ → _ → Prop) hK | (refine gI fun hg => ?_; try simp only [hC, reduceCtorEq] at hg; try simp only [hg])) | (refine AW.i rfl (fun h => ?_) (fun h => ?_) <;> try simp only [hC, reduceCtorEq] at h) | ((with_reducible refine E ?_; repeat refine Y ?_); refine eF rfl ?_) | simp (disch := omega) only [go_sem] | (with_reducible intro hg; try simp only [hC, reduceCtorEq] at hg) | exact Cl | fail)
  exact ⟨_, [_], [], by omega, ⟨k + 1, rfl, rfl, rfl, by omega⟩, rfl, trivial⟩

theorem markStringS_g (b : Nat) (l : List Str) (k : Int) : Ctr lim Tryz.prog 26 [(b, some ((l.map AV.str).flatMap AV.cells))] [.arr b 0 (l.map AV.str).length 1, .v (.int .i64 k)] (.v (.int .i64 (k + l.length))) [some (((mks l.length k).map AV.str).flatMap AV.cells)] (0 ≤ k ∧ k + l.length ≤ 1099511627776) := by
  simp only [fl_str, List.length_map]
  refine Ctr.of_body en26 Tryz.func26 rfl rfl fun hp => (?_); rw [Tryz.ntmps26]
  (repeat' first | (with_reducible first | refine Z ?_ | refine Y ?_ | (refine hK _ _ ?_; clear hK K) | refine And.intro ?_ ?_ | exact Ct | intro (K : _ → _ → Prop) hK | (refine gI fun hg => ?_; try simp only [hC, reduceCtorEq] at hg; try simp only [hg])) | (refine AW.i rfl (fun h => ?_) (fun h => ?_) <;> try simp only [hC, reduceCtorEq] at h) | ((with_reducible refine E ?_; repeat refine Y ?_); refine eF rfl ?_) | simp (disch := omega) only [go_sem] | (with_reducible intro hg; try simp only [hC, reduceCtorEq] at hg) | exact Cl | fail)
  refine AW.loopV [1, 5] [0] (fun m xs o => ∃ i : Nat, xs = [.v (.int .i64 (k + i)), .v (.int .i64 i)] ∧ o = [(b, some ((mkd l k i).map AV.str))] ∧ m = l.length - i ∧ i ≤ l.length) l.length [(b, some (l.map AV.str))] (subO_one rfl) ⟨0, ?_, ?_, rfl, ?_⟩ ?_
  · simp [T]
  · simp [mkd, mks]
  · omega
  rintro m xs o ⟨i, rfl, rfl, rfl, hi⟩
  have hml := mkd_len l k i hi
  (repeat' first | (with_reducible first | refine Z ?_ | refine Y ?_ | (refine hK _ _ ?_; clear hK K) | refine And.intro ?_ ?_ | exact Ct | intro (K : _ → _ → Prop) hK | (refine gI fun hg => ?_; try simp only [hC, reduceCtorEq] at hg; try simp only [hg])) | (refine AW.i rfl (fun h => ?_) (fun h => ?_) <;> try simp only [hC, reduceCtorEq] at h) | ((with_reducible refine E ?_; repeat refine Y ?_); refine eF rfl ?_) | simp (disch := omega) only [go_sem] | (with_reducible intro hg; try simp only [hC, reduceCtorEq] at hg) | exact Cl | fail)
  · exact ⟨_, [_, _], _, by omega, ⟨i + 1, by rw [show k + ((i + 1 : Nat) : Int) = k + i + 1 by omega], rfl, rfl, by omega⟩, rfl, subO_one (mkd_step l k i h).symm⟩
  · rw [show i = l.length by omega]
  · rw [show i = l.length by omega, mkd, List.drop_of_length_le (Nat.le_refl _), List.append_nil]

instance markStringS_i (l : List Str) (k : Int) : BCtr lim Tryz.prog 26 1 (l.map AV.str) [.v (.int .i64 k)] (.v (.int .i64 (k + l.length))) ((mks l.length k).map AV.str) (0 ≤ k ∧ k + l.length ≤ 1099511627776) := by
  refine BCtr.of en26 (fun b => markStringS_g b l k) (fun e => ?_) (by simp [mks_len]) (by simpa [List.all_eq_true] using str_all l) (by simpa [List.all_eq_true] using str_all (mks l.length k))
  have : l = [] := by simpa using e
  subst this
  refine ⟨?_, rfl⟩
  refine Ctr.of_body en26 Tryz.func26 rfl rfl fun hp => (?_); rw [Tryz.ntmps26]
  (repeat' first | (with_reducible first | refine Z ?_ | refine Y ?_ | (refine hK _ _ ?_; clear hK K) | refine And.intro ?_ ?_ | exact Ct | intro (K : _ → _ → Prop) hK | (refine gI fun hg => ?_; try simp only [hC, reduceCtorEq] at hg; try simp only [hg])) | (refine AW.i rfl (fun h => ?_) (fun h => ?_) <;> try simp only [hC, reduceCtorEq] at h) | ((with_reducible refine E ?_; repeat refine Y ?_); refine eF rfl ?_) | simp (disch := omega) only [go_sem] | (with_reducible intro hg; try simp only [hC, reduceCtorEq] at hg) | exact Cl | fail)
  refine AW.loopV [] [0, 1, 5] (fun m xs o => xs = [] ∧ o = []) 0 [] trivial ⟨rfl, rfl⟩ ?_
  rintro m xs o ⟨rfl, rfl⟩
  (repeat' first | (with_reducible first | refine Z ?_ | refine Y ?_ | (refine hK _ _ ?_; clear hK K) | refine And.intro ?_ ?_ | exact Ct | intro (K : _ → _ → Prop) hK | (refine gI fun hg => ?_; try simp only [hC, reduceCtorEq] at hg; try simp only [hg])) | (refine AW.i rfl (fun h => ?_) (fun h => ?_) <;> try simp only [hC, reduceCtorEq] at h) | ((with_reducible refine E ?_; repeat refine Y ?_); refine eF rfl ?_) | simp (disch := omega) only [go_sem] | (with_reducible intro hg; try simp only [hC, reduceCtorEq] at hg) | exact Cl | fail)
  simp

instance heldStringS_i (n : Nat) (k : Int) : Ctr lim Tryz.prog 27 [] [.sl false 1 ((mks n k).map AV.str), .v (.int .i64 k)] (.v (.int .i64 (k + n))) [] (0 ≤ k ∧ k + n ≤ 1099511627776) := by
  refine Ctr.of_body en27 Tryz.func27 rfl rfl fun hp => (?_); rw [Tryz.ntmps27]
  (repeat' first | (with_reducible first | refine Z ?_ | refine Y ?_ | (refine hK _ _ ?_; clear hK K) | refine And.intro ?_ ?_ | exact Ct | intro (K : _ → _ → Prop) hK | (refine gI fun hg => ?_; try simp only [hC, reduceCtorEq] at hg; try simp only [hg])) | (refine AW.i rfl (fun h => ?_) (fun h => ?_) <;> try simp only [hC, reduceCtorEq] at h) | ((with_reducible refine E ?_; repeat refine Y ?_); refine eF rfl ?_) | simp (disch := omega) only [go_sem] | (with_reducible intro hg; try simp only [hC, reduceCtorEq] at hg) | exact Cl | fail)
  refine AW.loopV [1, 5] [0] (fun m xs o => ∃ i : Nat, xs = [.v (.int .i64 (k + i)), .v (.int .i64 i)] ∧ o = [] ∧ m = n - i ∧ i ≤ n) n [] trivial ⟨0, ?_, rfl, rfl, ?_⟩ ?_
  · simp [T]
  · omega
  rintro m xs o ⟨i, rfl, rfl, rfl, hi⟩
  have hml := mks_len n k
  have hat := mks_at n k i
  (repeat' first | (with_reducible first | refine Z ?_ | refine Y ?_ | (refine hK _ _ ?_; clear hK K) | refine And.intro ?_ ?_ | exact Ct | intro (K : _ → _ → Prop) hK | (refine gI fun hg => ?_; try simp only [hC, reduceCtorEq] at hg; try simp only [hg])) | (refine AW.i rfl (fun h => ?_) (fun h => ?_) <;> try simp only [hC, reduceCtorEq] at h) | ((with_reducible refine E ?_; repeat refine Y ?_); refine eF rfl ?_) | simp (disch := omega) only [go_sem] | (with_reducible intro hg; try simp only [hC, reduceCtorEq] at hg) | exact Cl | fail)
  · exact absurd (hat (by omega)) h
  · exact ⟨_, [_, _], _, by omega, ⟨i + 1, by rw [show k + ((i + 1 : Nat) : Int) = k + i + 1 by omega], rfl, rfl, by omega⟩, rfl, trivial⟩
  · rw [show i = n by omega]

end Go.Proofs.YtkdchlggdcmkbaaGreat
