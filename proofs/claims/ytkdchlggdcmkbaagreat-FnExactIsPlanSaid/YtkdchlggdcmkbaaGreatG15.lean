/-
  Part of a proof: Opn2, Fa1, Fam5, Fam6, La8.
-/
import Derived.Test.YtkdchlggdcmkbaaGreatG1
import Derived.Test.YtkdchlggdcmkbaaGreatG4
import Derived.Test.YtkdchlggdcmkbaaGreatG6
import Derived.Test.YtkdchlggdcmkbaaGreatG12
import Derived.Test.YtkdchlggdcmkbaaGreatG13
import Derived.Test.YtkdchlggdcmkbaaGreatG14
set_option linter.unusedSimpArgs false
set_option linter.unusedVariables false
namespace Go.Proofs.YtkdchlggdcmkbaaGreat
open Go.Ab Go.Dt
variable {H : Type} {enc : TypeId × Value → H} {W : World}
theorem hreach (z : Nat) : reachBytes ≤ rawL z := by
  have := reachBytes_lt
  unfold rawL; omega

instance : Inhabited Dt.GRange := ⟨0, 0⟩
def celRange (x : Dt.GRange) : List AV := [.v (.int .i64 x.fLo), .v (.int .i64 x.fHi)]
theorem pkRange {L : Nat → Nat} : Packs L W celRange (encRange false) 2 := by
  have : encRange false = fun x => .agg (celRange x) := by funext x; simp only [go_sem, celRange]
  rw [this]; exact Packs.agg fun _ => rfl
theorem opRange (n : Nat) : Opens enc Tryz.prog W rawL n 293 celRange (fun _ => True) := by
  refine Opens.mono (n := n + 1 + 1) ?_ (by omega)
  exact Opens.struct (P := Tryz.prog) (t := 293) (fl := [(3, 0, 1), (3, 1, 1)]) (tot := 2) (by kernel_rfl)
      (OpensFs.cons (Opens.int (k := .i64) (by kernel_rfl)) (OpensFs.cons (Opens.int (k := .i64) (by kernel_rfl)) OpensFs.nil))
      (fun p => ⟨p.1, p.2.1⟩) (fun p _ => ⟨trivial, rfl⟩)
theorem fitRange (x : Dt.GRange) (r : Int) (h0 : 0 ≤ r) (h1 : r ≤ 1048576) (h : 0 ≤ szRange x r) : (encRange false x).fits lim := by
  simp only [encRange, AV.fits, AV.fitsL]
  exact ⟨trivial, trivial, trivial⟩
instance : Inhabited Dt.GType := ⟨0, [], [], [], []⟩
def celType (x : Dt.GType) : List AV := [.v (.int .i64 x.fKind), .sl false 2 (x.fRanges.map (encRange false)), .sl false 1 (x.fNames.map AV.str), .str x.fPattern, .str x.fPath]
theorem opType (n : Nat) : Opens enc Tryz.prog W rawL n 208 celType (fun _ => True) := by
  refine Opens.mono (n := n + 1 + 1) ?_ (by omega)
  exact Opens.struct (P := Tryz.prog) (t := 208) (fl := [(3, 0, 1), (206, 1, 1), (66, 2, 1), (9, 3, 1), (9, 4, 1)]) (tot := 5) (by kernel_rfl)
      (OpensFs.cons (Opens.int (k := .i64) (by kernel_rfl)) (OpensFs.cons (Opens.slice (e := 293) (bytes := 16) (by kernel_rfl) (by decide) (by decide) (hreach _) pkRange (opRange n)) (OpensFs.cons (Opens.slice (e := 9) (bytes := 16) (by kernel_rfl) (by decide) (by decide) (hreach _) Packs.str (Opens.str (by kernel_rfl))) (OpensFs.cons (Opens.str (by kernel_rfl)) (OpensFs.cons (Opens.str (by kernel_rfl)) OpensFs.nil)))))
      (fun p => ⟨p.1, p.2.1, p.2.2.1, p.2.2.2.1, p.2.2.2.2.1⟩) (fun p _ => ⟨trivial, rfl⟩)
theorem fitType (x : Dt.GType) (r : Int) (h0 : 0 ≤ r) (h1 : r ≤ 1048576) (h : 0 ≤ szType x r) : (encType false x).fits lim := by
  unfold szType at h
  obtain ⟨a0, h⟩ := thn_get h
  have l0 := szSl_le szRange szRange_le x.fRanges r h0
  obtain ⟨a1, h⟩ := thn_get h
  have l1 := szSl_le szStr szStr_le x.fNames (szSl szRange x.fRanges r) a0
  obtain ⟨a2, h⟩ := thn_get h
  have l2 := szStr_le x.fPattern (szSl szStr x.fNames (szSl szRange x.fRanges r)) a1
  obtain ⟨a3, h⟩ := thn_get h
  have l3 := szStr_le x.fPath (szStr x.fPattern (szSl szStr x.fNames (szSl szRange x.fRanges r))) a2
  have z0 : (AV.sl false 2 (x.fRanges.map (encRange false))).fits lim := fits_sl (f := szRange) szRange_le x.fRanges r h0 (by omega) a0 (fun y hy r' p q s => fitRange y r' p q s)
  have z1 : (AV.sl false 1 (x.fNames.map AV.str)).fits lim := fits_sl (f := szStr) szStr_le x.fNames (szSl szRange x.fRanges r) a0 (by omega) a1 (fun _ _ _ _ _ _ => trivial)
  simp only [AV.fits, AV.fitsL] at z0 z1
  simp only [encType, AV.fits, AV.fitsL]
  exact ⟨trivial, z0, z1, trivial, trivial, trivial⟩
instance : Inhabited Dt.GTest := ⟨[], []⟩
def celTest (x : Dt.GTest) : List AV := [.str x.fName, .str x.fValue]
instance : Inhabited Dt.GStep := ⟨[], []⟩
def celStep (x : Dt.GStep) : List AV := [.str x.fName, .sl false 2 (x.fTests.map (encTest false))]
instance : Inhabited Dt.GPath := ⟨false, 0, []⟩
def celPath (x : Dt.GPath) : List AV := [.v (.bool x.fRoot), .v (.int .i64 x.fUps), .sl false 2 (x.fSteps.map (encStep false))]
instance : Inhabited Dt.GExpr := ⟨.mk 0 0 [] default []⟩
def celExpr (x : Dt.GExpr) : List AV := [.v (.int .i64 x.fOp), .v (.int .i64 x.fNum), .str x.fText, .v (.bool x.fPath.fRoot), .v (.int .i64 x.fPath.fUps), .sl false 2 (x.fPath.fSteps.map (encStep false)), .sl false 7 (x.fKids.map (encExpr false))]
instance : Inhabited Dt.GSchema := ⟨.mk 0 [] default [] [] [] false false false false 0 0 [] [] []⟩
def celSchema (x : Dt.GSchema) : List AV := [.v (.int .i64 x.fKind), .str x.fName, .v (.int .i64 x.fType.fKind), .sl false 2 (x.fType.fRanges.map (encRange false)), .sl false 1 (x.fType.fNames.map AV.str), .str x.fType.fPattern, .str x.fType.fPath, .sl false 1 (x.fKeys.map AV.str), .sl false 1 (x.fUnique.map AV.str), .str x.fDefault, .v (.bool x.fGiven), .v (.bool x.fNeeded), .v (.bool x.fPresent), .v (.bool x.fFixed), .v (.int .i64 x.fMin), .v (.int .i64 x.fMax), .sl false 7 (x.fWhen.map (encExpr false)), .sl false 7 (x.fMust.map (encExpr false)), .sl false 19 (x.fKids.map (encSchema false))]
instance : Inhabited Dt.GNode := ⟨.mk [] [] []⟩
def celNode (x : Dt.GNode) : List AV := [.str x.fName, .str x.fValue, .sl false 3 (x.fKids.map (encNode false))]
theorem pkNode {L : Nat → Nat} : Packs L W celNode (encNode false) 3 := by
  have : encNode false = fun x => .agg (celNode x) := by funext x; simp only [go_sem, celNode]
  rw [this]; exact Packs.agg fun _ => rfl
theorem opNode (n : Nat) : Opens enc Tryz.prog W rawL n 162 celNode (fun _ => True) := by
  induction n with
  | zero => exact Opens.zero
  | succ n ih =>
    refine Opens.mono (n := n + 1 + 1) ?_ (by omega)
    exact Opens.struct (P := Tryz.prog) (t := 162) (fl := [(9, 0, 1), (9, 1, 1), (36, 2, 1)]) (tot := 3) (by kernel_rfl)
      (OpensFs.cons (Opens.str (by kernel_rfl)) (OpensFs.cons (Opens.str (by kernel_rfl)) (OpensFs.cons (Opens.slice (e := 162) (bytes := 56) (by kernel_rfl) (by decide) (by decide) (hreach _) pkNode ih) OpensFs.nil)))
      (fun p => .mk p.1 p.2.1 p.2.2.1) (fun p _ => ⟨trivial, rfl⟩)
theorem fitNode (x : Dt.GNode) (r : Int) (h0 : 0 ≤ r) (h1 : r ≤ 1048576) (h : 0 ≤ szNode x r) : (encNode false x).fits lim := by
  induction hs : SizeOf.sizeOf x using Nat.strongRecOn generalizing x r with
  | _ n ih =>
    rw [szNode_eq] at h
    obtain ⟨a0, h⟩ := thn_get h
    have l0 := szStr_le x.fName r h0
    obtain ⟨a1, h⟩ := thn_get h
    have l1 := szStr_le x.fValue (szStr x.fName r) a0
    obtain ⟨a2, h⟩ := thn_get h
    have l2 := szSl_le szNode szNode_le x.fKids (szStr x.fValue (szStr x.fName r)) a1
    have z2 : (AV.sl false 3 (x.fKids.map (encNode false))).fits lim := fits_sl (f := szNode) szNode_le x.fKids (szStr x.fValue (szStr x.fName r)) a1 (by omega) a2 (fun y hy r' p q s => ih (SizeOf.sizeOf y) (by have := List.sizeOf_lt_of_mem hy; cases x; simp [Dt.GNode.fKids] at *; omega) y r' p q s rfl)
    simp only [AV.fits, AV.fitsL] at z2
    simp only [encNode_eq, AV.fits, AV.fitsL]
    exact ⟨trivial, trivial, z2, trivial⟩
instance : Inhabited Dt.GVersion := ⟨[], 0, 0⟩
def celVersion (x : Dt.GVersion) : List AV := [.sl false 3 (x.fTree.map (encNode false)), .v (.int .i64 x.fBy), .v (.int .i64 x.fAt)]
instance : Inhabited Dt.GPending := ⟨false, 0, 0, [], []⟩
def celPending (x : Dt.GPending) : List AV := [.v (.bool x.fOn), .v (.int .i64 x.fUntil), .v (.int .i64 x.fBy), .str x.fName, .sl false 3 (x.fBack.map (encNode false))]
instance : Inhabited Dt.GStore := ⟨[], [], [], 0, [], default⟩
def celStore (x : Dt.GStore) : List AV := [.sl false 19 (x.fSchema.map (encSchema false)), .sl false 3 (x.fRunning.map (encNode false)), .sl false 3 (x.fDraft.map (encNode false)), .v (.int .i64 x.fOwner), .sl false 3 (x.fPast.map (encVersion false)), .v (.bool x.fWait.fOn), .v (.int .i64 x.fWait.fUntil), .v (.int .i64 x.fWait.fBy), .str x.fWait.fName, .sl false 3 (x.fWait.fBack.map (encNode false))]
instance : Inhabited Dt.GArg := ⟨[], []⟩
def celArg (x : Dt.GArg) : List AV := [.str x.fName, .str x.fValue]
theorem pkArg {L : Nat → Nat} : Packs L W celArg (encArg false) 2 := by
  have : encArg false = fun x => .agg (celArg x) := by funext x; simp only [go_sem, celArg]
  rw [this]; exact Packs.agg fun _ => rfl
theorem opArg (n : Nat) : Opens enc Tryz.prog W rawL n 186 celArg (fun _ => True) := by
  refine Opens.mono (n := n + 1 + 1) ?_ (by omega)
  exact Opens.struct (P := Tryz.prog) (t := 186) (fl := [(9, 0, 1), (9, 1, 1)]) (tot := 2) (by kernel_rfl)
      (OpensFs.cons (Opens.str (by kernel_rfl)) (OpensFs.cons (Opens.str (by kernel_rfl)) OpensFs.nil))
      (fun p => ⟨p.1, p.2.1⟩) (fun p _ => ⟨trivial, rfl⟩)
theorem fitArg (x : Dt.GArg) (r : Int) (h0 : 0 ≤ r) (h1 : r ≤ 1048576) (h : 0 ≤ szArg x r) : (encArg false x).fits lim := by
  unfold szArg at h
  obtain ⟨a0, h⟩ := thn_get h
  have l0 := szStr_le x.fName r h0
  obtain ⟨a1, h⟩ := thn_get h
  have l1 := szStr_le x.fValue (szStr x.fName r) a0
  simp only [encArg, AV.fits, AV.fitsL]
  exact ⟨trivial, trivial, trivial⟩
instance : Inhabited Dt.GParam := ⟨[], default⟩
def celParam (x : Dt.GParam) : List AV := [.str x.fName, .v (.int .i64 x.fType.fKind), .sl false 2 (x.fType.fRanges.map (encRange false)), .sl false 1 (x.fType.fNames.map AV.str), .str x.fType.fPattern, .str x.fType.fPath]
theorem pkParam {L : Nat → Nat} : Packs L W celParam (encParam false) 6 := by
  have : encParam false = fun x => .agg (celParam x) := by funext x; simp only [go_sem, celParam]
  rw [this]; exact Packs.agg fun _ => rfl
theorem opParam (n : Nat) : Opens enc Tryz.prog W rawL n 237 celParam (fun _ => True) := by
  refine Opens.mono (n := n + 1 + 1) ?_ (by omega)
  exact Opens.struct (P := Tryz.prog) (t := 237) (fl := [(9, 0, 1), (208, 1, 5)]) (tot := 6) (by kernel_rfl)
      (OpensFs.cons (Opens.str (by kernel_rfl)) (OpensFs.cons (opType _) OpensFs.nil))
      (fun p => ⟨p.1, p.2.1⟩) (fun p _ => ⟨trivial, rfl⟩)
theorem fitParam (x : Dt.GParam) (r : Int) (h0 : 0 ≤ r) (h1 : r ≤ 1048576) (h : 0 ≤ szParam x r) : (encParam false x).fits lim := by
  unfold szParam at h
  obtain ⟨a0, h⟩ := thn_get h
  have l0 := szStr_le x.fName r h0
  obtain ⟨a1, h⟩ := thn_get h
  have l1 := szType_le x.fType (szStr x.fName r) a0
  have z1 := fitType x.fType (szStr x.fName r) a0 (by omega) a1
  simp only [encType, AV.fits, AV.fitsL] at z1
  simp only [encParam, AV.fits, AV.fitsL]
  exact ⟨trivial, z1.1, z1.2.1, z1.2.2.1, z1.2.2.2.1, z1.2.2.2.2.1, trivial⟩
instance : Inhabited Dt.GTemplate := ⟨[], [], []⟩
def celTemplate (x : Dt.GTemplate) : List AV := [.str x.fName, .sl false 6 (x.fParams.map (encParam false)), .sl false 3 (x.fBody.map (encNode false))]
theorem pkTemplate {L : Nat → Nat} : Packs L W celTemplate (encTemplate false) 3 := by
  have : encTemplate false = fun x => .agg (celTemplate x) := by funext x; simp only [go_sem, celTemplate]
  rw [this]; exact Packs.agg fun _ => rfl
theorem opTemplate (n : Nat) : Opens enc Tryz.prog W rawL n 141 celTemplate (fun _ => True) := by
  refine Opens.mono (n := n + 1 + 1) ?_ (by omega)
  exact Opens.struct (P := Tryz.prog) (t := 141) (fl := [(9, 0, 1), (139, 1, 1), (36, 2, 1)]) (tot := 3) (by kernel_rfl)
      (OpensFs.cons (Opens.str (by kernel_rfl)) (OpensFs.cons (Opens.slice (e := 237) (bytes := 104) (by kernel_rfl) (by decide) (by decide) (hreach _) pkParam (opParam n)) (OpensFs.cons (Opens.slice (e := 162) (bytes := 56) (by kernel_rfl) (by decide) (by decide) (hreach _) pkNode (opNode n)) OpensFs.nil)))
      (fun p => ⟨p.1, p.2.1, p.2.2.1⟩) (fun p _ => ⟨trivial, rfl⟩)
theorem fitTemplate (x : Dt.GTemplate) (r : Int) (h0 : 0 ≤ r) (h1 : r ≤ 1048576) (h : 0 ≤ szTemplate x r) : (encTemplate false x).fits lim := by
  unfold szTemplate at h
  obtain ⟨a0, h⟩ := thn_get h
  have l0 := szStr_le x.fName r h0
  obtain ⟨a1, h⟩ := thn_get h
  have l1 := szSl_le szParam szParam_le x.fParams (szStr x.fName r) a0
  obtain ⟨a2, h⟩ := thn_get h
  have l2 := szSl_le szNode szNode_le x.fBody (szSl szParam x.fParams (szStr x.fName r)) a1
  have z1 : (AV.sl false 6 (x.fParams.map (encParam false))).fits lim := fits_sl (f := szParam) szParam_le x.fParams (szStr x.fName r) a0 (by omega) a1 (fun y hy r' p q s => fitParam y r' p q s)
  have z2 : (AV.sl false 3 (x.fBody.map (encNode false))).fits lim := fits_sl (f := szNode) szNode_le x.fBody (szSl szParam x.fParams (szStr x.fName r)) a1 (by omega) a2 (fun y hy r' p q s => fitNode y r' p q s)
  simp only [AV.fits, AV.fitsL] at z1 z2
  simp only [encTemplate, AV.fits, AV.fitsL]
  exact ⟨trivial, z1, z2, trivial⟩
instance : Inhabited Dt.GService := ⟨[], [], [], []⟩
def celService (x : Dt.GService) : List AV := [.str x.fName, .str x.fTemplate, .sl false 2 (x.fArgs.map (encArg false)), .sl false 1 (x.fTargets.map AV.str)]
theorem pkService {L : Nat → Nat} : Packs L W celService (encService false) 4 := by
  have : encService false = fun x => .agg (celService x) := by funext x; simp only [go_sem, celService]
  rw [this]; exact Packs.agg fun _ => rfl
theorem opService (n : Nat) : Opens enc Tryz.prog W rawL n 82 celService (fun _ => True) := by
  refine Opens.mono (n := n + 1 + 1) ?_ (by omega)
  exact Opens.struct (P := Tryz.prog) (t := 82) (fl := [(9, 0, 1), (9, 1, 1), (80, 2, 1), (66, 3, 1)]) (tot := 4) (by kernel_rfl)
      (OpensFs.cons (Opens.str (by kernel_rfl)) (OpensFs.cons (Opens.str (by kernel_rfl)) (OpensFs.cons (Opens.slice (e := 186) (bytes := 32) (by kernel_rfl) (by decide) (by decide) (hreach _) pkArg (opArg n)) (OpensFs.cons (Opens.slice (e := 9) (bytes := 16) (by kernel_rfl) (by decide) (by decide) (hreach _) Packs.str (Opens.str (by kernel_rfl))) OpensFs.nil))))
      (fun p => ⟨p.1, p.2.1, p.2.2.1, p.2.2.2.1⟩) (fun p _ => ⟨trivial, rfl⟩)
theorem fitService (x : Dt.GService) (r : Int) (h0 : 0 ≤ r) (h1 : r ≤ 1048576) (h : 0 ≤ szService x r) : (encService false x).fits lim := by
  unfold szService at h
  obtain ⟨a0, h⟩ := thn_get h
  have l0 := szStr_le x.fName r h0
  obtain ⟨a1, h⟩ := thn_get h
  have l1 := szStr_le x.fTemplate (szStr x.fName r) a0
  obtain ⟨a2, h⟩ := thn_get h
  have l2 := szSl_le szArg szArg_le x.fArgs (szStr x.fTemplate (szStr x.fName r)) a1
  obtain ⟨a3, h⟩ := thn_get h
  have l3 := szSl_le szStr szStr_le x.fTargets (szSl szArg x.fArgs (szStr x.fTemplate (szStr x.fName r))) a2
  have z2 : (AV.sl false 2 (x.fArgs.map (encArg false))).fits lim := fits_sl (f := szArg) szArg_le x.fArgs (szStr x.fTemplate (szStr x.fName r)) a1 (by omega) a2 (fun y hy r' p q s => fitArg y r' p q s)
  have z3 : (AV.sl false 1 (x.fTargets.map AV.str)).fits lim := fits_sl (f := szStr) szStr_le x.fTargets (szSl szArg x.fArgs (szStr x.fTemplate (szStr x.fName r))) a2 (by omega) a3 (fun _ _ _ _ _ _ => trivial)
  simp only [AV.fits, AV.fitsL] at z2 z3
  simp only [encService, AV.fits, AV.fitsL]
  exact ⟨trivial, trivial, z2, z3, trivial⟩
instance : Inhabited Dt.GPlan := ⟨[], []⟩
def celPlan (x : Dt.GPlan) : List AV := [.sl false 3 (x.fTemplates.map (encTemplate false)), .sl false 4 (x.fServices.map (encService false))]
theorem opPlan (n : Nat) : Opens enc Tryz.prog W rawL n 25 celPlan (fun _ => True) := by
  refine Opens.mono (n := n + 1 + 1) ?_ (by omega)
  exact Opens.struct (P := Tryz.prog) (t := 25) (fl := [(22, 0, 1), (23, 1, 1)]) (tot := 2) (by kernel_rfl)
      (OpensFs.cons (Opens.slice (e := 141) (bytes := 64) (by kernel_rfl) (by decide) (by decide) (hreach _) pkTemplate (opTemplate n)) (OpensFs.cons (Opens.slice (e := 82) (bytes := 80) (by kernel_rfl) (by decide) (by decide) (hreach _) pkService (opService n)) OpensFs.nil))
      (fun p => ⟨p.1, p.2.1⟩) (fun p _ => ⟨trivial, rfl⟩)
theorem fitPlan (x : Dt.GPlan) (r : Int) (h0 : 0 ≤ r) (h1 : r ≤ 1048576) (h : 0 ≤ szPlan x r) : (encPlan false x).fits lim := by
  unfold szPlan at h
  obtain ⟨a0, h⟩ := thn_get h
  have l0 := szSl_le szTemplate szTemplate_le x.fTemplates r h0
  obtain ⟨a1, h⟩ := thn_get h
  have l1 := szSl_le szService szService_le x.fServices (szSl szTemplate x.fTemplates r) a0
  have z0 : (AV.sl false 3 (x.fTemplates.map (encTemplate false))).fits lim := fits_sl (f := szTemplate) szTemplate_le x.fTemplates r h0 (by omega) a0 (fun y hy r' p q s => fitTemplate y r' p q s)
  have z1 : (AV.sl false 4 (x.fServices.map (encService false))).fits lim := fits_sl (f := szService) szService_le x.fServices (szSl szTemplate x.fTemplates r) a0 (by omega) a1 (fun y hy r' p q s => fitService y r' p q s)
  simp only [AV.fits, AV.fitsL] at z0 z1
  simp only [encPlan, AV.fits, AV.fitsL]
  exact ⟨z0, z1, trivial⟩
instance : Inhabited Dt.GDevice := ⟨[], default, [], false, 0, false⟩
def celDevice (x : Dt.GDevice) : List AV := [.str x.fName, .sl false 19 (x.fStore.fSchema.map (encSchema false)), .sl false 3 (x.fStore.fRunning.map (encNode false)), .sl false 3 (x.fStore.fDraft.map (encNode false)), .v (.int .i64 x.fStore.fOwner), .sl false 3 (x.fStore.fPast.map (encVersion false)), .v (.bool x.fStore.fWait.fOn), .v (.int .i64 x.fStore.fWait.fUntil), .v (.int .i64 x.fStore.fWait.fBy), .str x.fStore.fWait.fName, .sl false 3 (x.fStore.fWait.fBack.map (encNode false)), .sl false 3 (x.fBase.map (encNode false)), .v (.bool x.fUp), .v (.int .i64 x.fWeak), .v (.bool x.fHeld)]
instance : Inhabited Dt.GTask := ⟨[], [], 0⟩
def celTask (x : Dt.GTask) : List AV := [.str x.fDevice, .sl false 3 (x.fTree.map (encNode false)), .v (.int .i64 x.fState)]
instance : Inhabited Dt.GCampaign := ⟨0, []⟩
def celCampaign (x : Dt.GCampaign) : List AV := [.v (.int .i64 x.fState), .sl false 3 (x.fTasks.map (encTask false))]
instance : Inhabited Dt.GManager := ⟨default, [], default, default, 0⟩
def celManager (x : Dt.GManager) : List AV := [.sl false 3 (x.fPlan.fTemplates.map (encTemplate false)), .sl false 4 (x.fPlan.fServices.map (encService false)), .sl false 15 (x.fDevices.map (encDevice false)), .v (.int .i64 x.fCampaign.fState), .sl false 3 (x.fCampaign.fTasks.map (encTask false)), .v (.int .i64 x.fLast.fState), .sl false 3 (x.fLast.fTasks.map (encTask false)), .v (.int .i64 x.fNow)]
end Go.Proofs.YtkdchlggdcmkbaaGreat
namespace Go.Proofs.YtkdchlggdcmkbaaGreat
open Go.Ab Go.Dt
set_option maxRecDepth 20000
set_option maxHeartbeats 2000000

instance eqStringS_i (L : Nat → Nat) [hL : Lok L] (l : List Str) : Ctr L Tryz.prog 23 [] [.sl false 1 (l.map AV.str), .sl false 1 (l.map AV.str)] (.v (.bool true)) [] True := by
  refine Ctr.of_body en23 Tryz.func23 rfl rfl fun hp => (?_); rw [Tryz.ntmps23]
  refine AW.fact 0 fun hf => ?_
  simp (disch := omega) only [go_sem, Nat.reduceBEq] at hf
  have hf := Nat.le_trans hf (hL.le 1)
  (repeat' (first | (with_reducible first | refine Z ?_ | refine Y ?_ | (refine hK _ _ ?_; clear hK K) | exact trivial | refine And.intro ?_ ?_) | (refine AW.i rfl (fun h => ?_) (fun h => ?_) <;> try simp only [hC, reduceCtorEq] at h) | with_reducible rfl | ((with_reducible refine E ?_); (with_reducible repeat refine Y ?_); refine eF rfl ?_) | (with_reducible refine fun (K : _ → _ → Prop) hK => ?_) | (with_reducible show drawOK _ _ = true; kernel_rfl) | (with_reducible refine gI fun hg => ?_; try simp only [hC, reduceCtorEq] at hg; try simp only [hg]) | simp (maxSteps := 2000000) (disch := omega) only [go_sem] | (with_reducible intro hg; try simp only [hC, reduceCtorEq] at hg) | (with_reducible show List.Nodup _; decide) | (with_reducible show (_ : Bool) = false; first | rfl | (simp [*]; done)) | with_reducible exact at8_le _ _ | with_reducible exact at8_ge _ _ | (simp only [hC, reduceCtorEq]; omega) | omega | with_reducible assumption | (with_reducible show (_ : Bool) = true; first | (simp [*]; done) | (simp only [hC, reduceCtorEq]; (repeat' (first | assumption | apply And.intro)); done))))
  refine AW.loopV [5] [0, 1] (fun m xs o => ∃ k : Nat, xs = [.v (.int .i64 k)] ∧ o = [] ∧ m = l.length - k ∧ k ≤ l.length) l.length [] trivial ⟨0, ?_, rfl, rfl, ?_⟩ ?_
  · rfl
  · omega
  rintro m xs o ⟨k, rfl, rfl, rfl, hk⟩
  (repeat' (first | (with_reducible first | refine Z ?_ | refine Y ?_ | (refine hK _ _ ?_; clear hK K) | exact trivial | refine And.intro ?_ ?_) | (refine AW.i rfl (fun h => ?_) (fun h => ?_) <;> try simp only [hC, reduceCtorEq] at h) | with_reducible rfl | ((with_reducible refine E ?_); (with_reducible repeat refine Y ?_); refine eF rfl ?_) | (with_reducible refine fun (K : _ → _ → Prop) hK => ?_) | (with_reducible show drawOK _ _ = true; kernel_rfl) | (with_reducible refine gI fun hg => ?_; try simp only [hC, reduceCtorEq] at hg; try simp only [hg]) | simp (maxSteps := 2000000) (disch := omega) only [go_sem] | (with_reducible intro hg; try simp only [hC, reduceCtorEq] at hg) | (with_reducible show List.Nodup _; decide) | (with_reducible show (_ : Bool) = false; first | rfl | (simp [*]; done)) | with_reducible exact at8_le _ _ | with_reducible exact at8_ge _ _ | (simp only [hC, reduceCtorEq]; omega) | omega | with_reducible assumption | (with_reducible show (_ : Bool) = true; first | (simp [*]; done) | (simp only [hC, reduceCtorEq]; (repeat' (first | assumption | apply And.intro)); done))))
  exact ⟨_, [_], [], by omega, ⟨k + 1, rfl, rfl, rfl, by omega⟩, rfl, trivial⟩

end Go.Proofs.YtkdchlggdcmkbaaGreat
namespace Go.Proofs.YtkdchlggdcmkbaaGreat
open Go.Ab Go.Dt
set_option maxRecDepth 20000
set_option maxHeartbeats 4000000
theorem strLen {L : Nat → Nat} {P : Program} {c : Code} {n : Nat} {t : List (Nat × AV)} {o : Sto} {Q : Exit → AS → Prop} (i : Nat) {own : Bool} {l : List Str} (hi : T t i = .sl own 1 (l.map AV.str)) (h : (∀ k, k < l.length → (at_ l k).length ≤ 4611686018427387904) → AW L P c ⟨n, t, o⟩ Q) : AW L P c ⟨n, t, o⟩ Q := by
  intro B F0 w0 a w hd
  refine h (fun k hk => ?_) B F0 w0 a w hd
  obtain ⟨F, ow, fp, fs, h⟩ := hd
  have hr := h.slots i
  simp only at hr
  rw [hi] at hr
  simp only [Rep] at hr
  rcases hr with ⟨_, e, _⟩ | ⟨b, off, cap, vals, fp', _, _, _, _, he, _⟩
  · have : l = [] := by simpa using e
    subst this; simp at hk
  · obtain ⟨y, f, _, _, hr, _⟩ := he.get (i := k) (x := .str (at_ l k)) (by rw [List.getElem?_map, at_get hk]; rfl)
    simp only [Rep] at hr
    exact hr.2.1
instance szStringS_i (L : Nat → Nat) [hL : Lok L] (l : List Str) (r : Int) : Ctr L Tryz.prog 74 [] [.sl false 1 (l.map AV.str), .v (.int .i64 r)] (.v (.int .i64 (szSl szStr l r))) [] (0 ≤ r ∧ r ≤ 1048576) := by
  refine Ctr.of_body en74 Tryz.func74 rfl rfl fun hp => (?_); rw [Tryz.ntmps74]
  refine strLen 0 rfl fun hfs => ?_
  refine AW.fact 0 fun hf => ?_
  simp (disch := omega) only [go_sem, Nat.reduceBEq] at hf
  have hf := Nat.le_trans hf (hL.le 1)
  (repeat' (first | (with_reducible first | refine Z ?_ | refine Y ?_ | (refine hK _ _ ?_; clear hK K) | exact trivial | refine And.intro ?_ ?_) | (refine AW.i rfl (fun h => ?_) (fun h => ?_) <;> try simp only [hC, reduceCtorEq] at h) | with_reducible rfl | ((with_reducible refine E ?_); (with_reducible repeat refine Y ?_); refine eF rfl ?_) | (with_reducible refine fun (K : _ → _ → Prop) hK => ?_) | (with_reducible show drawOK _ _ = true; kernel_rfl) | (with_reducible refine gI fun hg => ?_; try simp only [hC, reduceCtorEq] at hg; try simp only [hg]) | simp (maxSteps := 2000000) (disch := omega) only [go_sem] | (with_reducible intro hg; try simp only [hC, reduceCtorEq] at hg) | (with_reducible show List.Nodup _; decide) | (with_reducible show (_ : Bool) = false; first | rfl | (simp [*]; done)) | with_reducible exact at8_le _ _ | with_reducible exact at8_ge _ _ | (simp only [hC, reduceCtorEq]; omega) | omega | with_reducible assumption | (with_reducible show (_ : Bool) = true; first | (simp [*]; done) | (simp only [hC, reduceCtorEq]; (repeat' (first | assumption | apply And.intro)); done))))
  · rw [szSl_neg h]
  rw [szSl_pos h]
  refine AW.loopV [1, 5] [0] (fun m xs o => ∃ (k : Nat) (q : Int), xs = [.v (.int .i64 q), .v (.int .i64 k)] ∧ o = [] ∧ m = l.length - k ∧ k ≤ l.length ∧ 0 ≤ q ∧ q ≤ 1048576 ∧ szGo szStr (l.drop k) q = szGo szStr l (r - l.length)) l.length [] trivial ⟨0, _, ?_, rfl, rfl, ?_, ?_, ?_, rfl⟩ ?_
  · rfl
  · omega
  · omega
  · omega
  rintro m xs o ⟨k, q, rfl, rfl, rfl, hk, h0, h1, hR⟩
  have hle := szStr_le (at_ l k) q h0
  have hse := hfs k
  have hsz : szStr (at_ l k) q = q - (at_ l k).length := rfl
  (repeat' (first | (with_reducible first | refine Z ?_ | refine Y ?_ | (refine hK _ _ ?_; clear hK K) | exact trivial | refine And.intro ?_ ?_) | (refine AW.i rfl (fun h => ?_) (fun h => ?_) <;> try simp only [hC, reduceCtorEq] at h) | with_reducible rfl | ((with_reducible refine E ?_); (with_reducible repeat refine Y ?_); refine eF rfl ?_) | (with_reducible refine fun (K : _ → _ → Prop) hK => ?_) | (with_reducible show drawOK _ _ = true; kernel_rfl) | (with_reducible refine gI fun hg => ?_; try simp only [hC, reduceCtorEq] at hg; try simp only [hg]) | simp (maxSteps := 2000000) (disch := omega) only [go_sem] | (with_reducible intro hg; try simp only [hC, reduceCtorEq] at hg) | (with_reducible show List.Nodup _; decide) | (with_reducible show (_ : Bool) = false; first | rfl | (simp [*]; done)) | with_reducible exact at8_le _ _ | with_reducible exact at8_ge _ _ | (simp only [hC, reduceCtorEq]; omega) | omega | with_reducible assumption | (with_reducible show (_ : Bool) = true; first | (simp [*]; done) | (simp only [hC, reduceCtorEq]; (repeat' (first | assumption | apply And.intro)); done))))
  · rw [szGo_at (by assumption), if_pos (by first | exact h | (rw [hsz]; exact h))] at hR; rw [hR]
  · rw [szGo_at (by assumption), if_neg (by omega)] at hR
    exact ⟨_, [_, _], [], by omega, ⟨k + 1, _, rfl, rfl, rfl, by omega, by omega, by omega, hR⟩, rfl, trivial⟩
  · rw [szGo_end h] at hR; rw [hR]
instance toStringS_i (l : List Str) : Ctr lim Tryz.prog 78 [] [.sl false 1 (l.map AV.str)] (.sl true 1 (l.map AV.str)) [] True := by
  refine Ctr.of_body en78 Tryz.func78 rfl rfl fun hp => (?_); rw [Tryz.ntmps78]
  refine AW.fact 0 fun hf => ?_
  simp (disch := omega) only [go_sem, Nat.reduceBEq] at hf
  (repeat' (first | (with_reducible first | refine Z ?_ | refine Y ?_ | (refine hK _ _ ?_; clear hK K) | exact trivial | refine And.intro ?_ ?_) | (refine AW.i rfl (fun h => ?_) (fun h => ?_) <;> try simp only [hC, reduceCtorEq] at h) | with_reducible rfl | ((with_reducible refine E ?_); (with_reducible repeat refine Y ?_); refine eF rfl ?_) | (with_reducible refine fun (K : _ → _ → Prop) hK => ?_) | (with_reducible show drawOK _ _ = true; kernel_rfl) | (with_reducible refine gI fun hg => ?_; try simp only [hC, reduceCtorEq] at hg; try simp only [hg]) | simp (maxSteps := 2000000) (disch := omega) only [go_sem] | (with_reducible intro hg; try simp only [hC, reduceCtorEq] at hg) | (with_reducible show List.Nodup _; decide) | (with_reducible show (_ : Bool) = false; first | rfl | (simp [*]; done)) | with_reducible exact at8_le _ _ | with_reducible exact at8_ge _ _ | (simp only [hC, reduceCtorEq]; omega) | omega | with_reducible assumption | (with_reducible show (_ : Bool) = true; first | (simp [*]; done) | (simp only [hC, reduceCtorEq]; (repeat' (first | assumption | apply And.intro)); done))))
  refine AW.loopV [4] [0, 3] (fun m xs o => ∃ k : Nat, xs = [.v (.int .i64 k)] ∧ o = [(hg, some (mkC AV.str [.string ⟨#[]⟩] l k))] ∧ m = l.length - k ∧ k ≤ l.length) l.length [(hg, some (mkC AV.str [.string ⟨#[]⟩] l 0))] (subO_one (mkC_zero _ _ _)) ⟨0, ?_, rfl, rfl, ?_⟩ ?_
  · rfl
  · omega
  rintro m xs o ⟨k, rfl, rfl, rfl, hk⟩
  have hml := mkC_len AV.str [.string ⟨#[]⟩] 1 (fun _ => rfl) rfl l k hk
  (repeat' (first | (with_reducible first | refine Z ?_ | refine Y ?_ | (refine hK _ _ ?_; clear hK K) | exact trivial | refine And.intro ?_ ?_) | (refine AW.i rfl (fun h => ?_) (fun h => ?_) <;> try simp only [hC, reduceCtorEq] at h) | with_reducible rfl | (with_reducible refine fun (K : _ → _ → Prop) hK => ?_) | (with_reducible show drawOK _ _ = true; kernel_rfl) | (with_reducible refine gI fun hg => ?_; try simp only [hC, reduceCtorEq] at hg; try simp only [hg]) | simp (maxSteps := 2000000) (disch := omega) only [go_sem] | (with_reducible intro hg; try simp only [hC, reduceCtorEq] at hg) | (with_reducible show List.Nodup _; decide) | (with_reducible show (_ : Bool) = false; first | rfl | (simp [*]; done)) | with_reducible exact at8_le _ _ | with_reducible exact at8_ge _ _ | (simp only [hC, reduceCtorEq]; omega) | omega | with_reducible assumption | (with_reducible show (_ : Bool) = true; first | (simp [*]; done) | (simp only [hC, reduceCtorEq]; (repeat' (first | assumption | apply And.intro)); done))))
  · exact ⟨_, [_], _, by omega, ⟨k + 1, rfl, rfl, rfl, by omega⟩, rfl, subO_one (by have := mkC_at AV.str [.string ⟨#[]⟩] 1 (fun _ => rfl) rfl l k h; simp only [go_sem, Nat.mul_one] at this ⊢; exact this.symm)⟩
  · refine AW.made 2 rfl h hk (fun _ => rfl) ?_
    (repeat' (first | (with_reducible first | refine Z ?_ | refine Y ?_ | (refine hK _ _ ?_; clear hK K) | exact trivial | refine And.intro ?_ ?_) | (refine AW.i rfl (fun h => ?_) (fun h => ?_) <;> try simp only [hC, reduceCtorEq] at h) | with_reducible rfl | ((with_reducible refine E ?_); (with_reducible repeat refine Y ?_); refine eF rfl ?_) | (with_reducible refine fun (K : _ → _ → Prop) hK => ?_) | (with_reducible show drawOK _ _ = true; kernel_rfl) | (with_reducible refine gI fun hg => ?_; try simp only [hC, reduceCtorEq] at hg; try simp only [hg]) | simp (maxSteps := 2000000) (disch := omega) only [go_sem] | (with_reducible intro hg; try simp only [hC, reduceCtorEq] at hg) | (with_reducible show List.Nodup _; decide) | (with_reducible show (_ : Bool) = false; first | rfl | (simp [*]; done)) | with_reducible exact at8_le _ _ | with_reducible exact at8_ge _ _ | (simp only [hC, reduceCtorEq]; omega) | omega | with_reducible assumption | (with_reducible show (_ : Bool) = true; first | (simp [*]; done) | (simp only [hC, reduceCtorEq]; (repeat' (first | assumption | apply And.intro)); done))))
instance eqRange_i (L : Nat → Nat) [hL : Lok L] (x : GRange) : Ctr L Tryz.prog 225 [] [.agg [.v (.int .i64 x.fLo), .v (.int .i64 x.fHi)], .agg [.v (.int .i64 x.fLo), .v (.int .i64 x.fHi)]] (.v (.bool true)) [] True := by
  refine Ctr.of_body en225 Tryz.func225 rfl rfl fun hp => (?_); rw [Tryz.ntmps225]
  (repeat' (first | (with_reducible first | refine Z ?_ | refine Y ?_ | (refine hK _ _ ?_; clear hK K) | exact trivial | refine And.intro ?_ ?_) | (refine AW.i rfl (fun h => ?_) (fun h => ?_) <;> try simp only [hC, reduceCtorEq] at h) | with_reducible rfl | ((with_reducible refine E ?_); (with_reducible repeat refine Y ?_); refine eF rfl ?_) | (with_reducible refine fun (K : _ → _ → Prop) hK => ?_) | (with_reducible show drawOK _ _ = true; kernel_rfl) | (with_reducible refine gI fun hg => ?_; try simp only [hC, reduceCtorEq] at hg; try simp only [hg]) | simp (maxSteps := 2000000) (disch := omega) only [go_sem] | (with_reducible intro hg; try simp only [hC, reduceCtorEq] at hg) | (with_reducible show List.Nodup _; decide) | (with_reducible show (_ : Bool) = false; first | rfl | (simp [*]; done)) | with_reducible exact at8_le _ _ | with_reducible exact at8_ge _ _ | (simp only [hC, reduceCtorEq]; omega) | omega | with_reducible assumption | (with_reducible show (_ : Bool) = true; first | (simp [*]; done) | (simp only [hC, reduceCtorEq]; (repeat' (first | assumption | apply And.intro)); done))))
instance eqRangeS_i (L : Nat → Nat) [hL : Lok L] (l : List GRange) : Ctr L Tryz.prog 212 [] [.sl false 2 (l.map (encRange false)), .sl false 2 (l.map (encRange false))] (.v (.bool true)) [] True := by
  refine Ctr.of_body en212 Tryz.func212 rfl rfl fun hp => (?_); rw [Tryz.ntmps212]
  refine AW.fact 0 fun hf => ?_
  simp (disch := omega) only [go_sem, Nat.reduceBEq] at hf
  have hf := Nat.le_trans hf (hL.le 2)
  (repeat' (first | (with_reducible first | refine Z ?_ | refine Y ?_ | (refine hK _ _ ?_; clear hK K) | exact trivial | refine And.intro ?_ ?_) | (refine AW.i rfl (fun h => ?_) (fun h => ?_) <;> try simp only [hC, reduceCtorEq] at h) | with_reducible rfl | ((with_reducible refine E ?_); (with_reducible repeat refine Y ?_); refine eF rfl ?_) | (with_reducible refine fun (K : _ → _ → Prop) hK => ?_) | (with_reducible show drawOK _ _ = true; kernel_rfl) | (with_reducible refine gI fun hg => ?_; try simp only [hC, reduceCtorEq] at hg; try simp only [hg]) | simp (maxSteps := 2000000) (disch := omega) only [go_sem] | (with_reducible intro hg; try simp only [hC, reduceCtorEq] at hg) | (with_reducible show List.Nodup _; decide) | (with_reducible show (_ : Bool) = false; first | rfl | (simp [*]; done)) | with_reducible exact at8_le _ _ | with_reducible exact at8_ge _ _ | (simp only [hC, reduceCtorEq]; omega) | omega | with_reducible assumption | (with_reducible show (_ : Bool) = true; first | (simp [*]; done) | (simp only [hC, reduceCtorEq]; (repeat' (first | assumption | apply And.intro)); done))))
  refine AW.loopV [5] [0, 1] (fun m xs o => ∃ k : Nat, xs = [.v (.int .i64 k)] ∧ o = [] ∧ m = l.length - k ∧ k ≤ l.length) l.length [] trivial ⟨0, ?_, rfl, rfl, ?_⟩ ?_
  · rfl
  · omega
  rintro m xs o ⟨k, rfl, rfl, rfl, hk⟩
  (repeat' (first | (with_reducible first | refine Z ?_ | refine Y ?_ | (refine hK _ _ ?_; clear hK K) | exact trivial | refine And.intro ?_ ?_) | (refine AW.i rfl (fun h => ?_) (fun h => ?_) <;> try simp only [hC, reduceCtorEq] at h) | with_reducible rfl | ((with_reducible refine E ?_); (with_reducible repeat refine Y ?_); refine eF rfl ?_) | (with_reducible refine fun (K : _ → _ → Prop) hK => ?_) | (with_reducible show drawOK _ _ = true; kernel_rfl) | (with_reducible refine gI fun hg => ?_; try simp only [hC, reduceCtorEq] at hg; try simp only [hg]) | simp (maxSteps := 2000000) (disch := omega) only [go_sem] | (with_reducible intro hg; try simp only [hC, reduceCtorEq] at hg) | (with_reducible show List.Nodup _; decide) | (with_reducible show (_ : Bool) = false; first | rfl | (simp [*]; done)) | with_reducible exact at8_le _ _ | with_reducible exact at8_ge _ _ | (simp only [hC, reduceCtorEq]; omega) | omega | with_reducible assumption | (with_reducible show (_ : Bool) = true; first | (simp [*]; done) | (simp only [hC, reduceCtorEq]; (repeat' (first | assumption | apply And.intro)); done))))
  exact ⟨_, [_], [], by omega, ⟨k + 1, rfl, rfl, rfl, by omega⟩, rfl, trivial⟩
theorem szGo_Range : ∀ (l : List GRange) (r : Int), 0 ≤ r → szGo szRange l r = r
  | [], _, _ => rfl
  | x :: xs, r, h => by
    rw [szGo, show szRange x r = r from rfl, thn, if_neg (by omega)]; exact szGo_Range xs r h
instance szRangeS_i (L : Nat → Nat) [hL : Lok L] (l : List GRange) (r : Int) : Ctr L Tryz.prog 206 [] [.sl false 2 (l.map (encRange false)), .v (.int .i64 r)] (.v (.int .i64 (szSl szRange l r))) [] (0 ≤ r ∧ r ≤ 1048576) := by
  refine Ctr.of_body en206 Tryz.func206 rfl rfl fun hp => (?_); rw [Tryz.ntmps206]
  refine AW.fact 0 fun hf => ?_
  simp (disch := omega) only [go_sem, Nat.reduceBEq] at hf
  have hf := Nat.le_trans hf (hL.le 2)
  (repeat' (first | (with_reducible first | refine Z ?_ | refine Y ?_ | (refine hK _ _ ?_; clear hK K) | exact trivial | refine And.intro ?_ ?_) | (refine AW.i rfl (fun h => ?_) (fun h => ?_) <;> try simp only [hC, reduceCtorEq] at h) | with_reducible rfl | ((with_reducible refine E ?_); (with_reducible repeat refine Y ?_); refine eF rfl ?_) | (with_reducible refine fun (K : _ → _ → Prop) hK => ?_) | (with_reducible show drawOK _ _ = true; kernel_rfl) | (with_reducible refine gI fun hg => ?_; try simp only [hC, reduceCtorEq] at hg; try simp only [hg]) | simp (maxSteps := 2000000) (disch := omega) only [go_sem] | (with_reducible intro hg; try simp only [hC, reduceCtorEq] at hg) | (with_reducible show List.Nodup _; decide) | (with_reducible show (_ : Bool) = false; first | rfl | (simp [*]; done)) | with_reducible exact at8_le _ _ | with_reducible exact at8_ge _ _ | (simp only [hC, reduceCtorEq]; omega) | omega | with_reducible assumption | (with_reducible show (_ : Bool) = true; first | (simp [*]; done) | (simp only [hC, reduceCtorEq]; (repeat' (first | assumption | apply And.intro)); done))))
  · rw [szSl_neg h]
  · rw [szSl_pos h, szGo_Range _ _ h]
instance toRange_i (x : GRange) : Ctr lim Tryz.prog 222 [] [.agg [.v (.int .i64 x.fLo), .v (.int .i64 x.fHi)]] (.agg [.v (.int .i64 x.fLo), .v (.int .i64 x.fHi)]) [] True := by
  refine Ctr.of_body en222 Tryz.func222 rfl rfl fun hp => (?_); rw [Tryz.ntmps222]
  (repeat' (first | (with_reducible first | refine Z ?_ | refine Y ?_ | (refine hK _ _ ?_; clear hK K) | exact trivial | refine And.intro ?_ ?_) | (refine AW.i rfl (fun h => ?_) (fun h => ?_) <;> try simp only [hC, reduceCtorEq] at h) | with_reducible rfl | ((with_reducible refine E ?_); (with_reducible repeat refine Y ?_); refine eF rfl ?_) | (with_reducible refine fun (K : _ → _ → Prop) hK => ?_) | (with_reducible show drawOK _ _ = true; kernel_rfl) | (with_reducible refine gI fun hg => ?_; try simp only [hC, reduceCtorEq] at hg; try simp only [hg]) | simp (maxSteps := 2000000) (disch := omega) only [go_sem] | (with_reducible intro hg; try simp only [hC, reduceCtorEq] at hg) | (with_reducible show List.Nodup _; decide) | (with_reducible show (_ : Bool) = false; first | rfl | (simp [*]; done)) | with_reducible exact at8_le _ _ | with_reducible exact at8_ge _ _ | (simp only [hC, reduceCtorEq]; omega) | omega | with_reducible assumption | (with_reducible show (_ : Bool) = true; first | (simp [*]; done) | (simp only [hC, reduceCtorEq]; (repeat' (first | assumption | apply And.intro)); done))))
instance toRangeS_i (l : List GRange) : Ctr lim Tryz.prog 209 [] [.sl false 2 (l.map (encRange false))] (.sl true 2 (l.map (encRange true))) [] True := by
  refine Ctr.of_body en209 Tryz.func209 rfl rfl fun hp => (?_); rw [Tryz.ntmps209]
  refine AW.fact 0 fun hf => ?_
  simp (disch := omega) only [go_sem, Nat.reduceBEq] at hf
  (repeat' (first | (with_reducible first | refine Z ?_ | refine Y ?_ | (refine hK _ _ ?_; clear hK K) | exact trivial | refine And.intro ?_ ?_) | (refine AW.i rfl (fun h => ?_) (fun h => ?_) <;> try simp only [hC, reduceCtorEq] at h) | with_reducible rfl | ((with_reducible refine E ?_); (with_reducible repeat refine Y ?_); refine eF rfl ?_) | (with_reducible refine fun (K : _ → _ → Prop) hK => ?_) | (with_reducible show drawOK _ _ = true; kernel_rfl) | (with_reducible refine gI fun hg => ?_; try simp only [hC, reduceCtorEq] at hg; try simp only [hg]) | simp (maxSteps := 2000000) (disch := omega) only [go_sem] | (with_reducible intro hg; try simp only [hC, reduceCtorEq] at hg) | (with_reducible show List.Nodup _; decide) | (with_reducible show (_ : Bool) = false; first | rfl | (simp [*]; done)) | with_reducible exact at8_le _ _ | with_reducible exact at8_ge _ _ | (simp only [hC, reduceCtorEq]; omega) | omega | with_reducible assumption | (with_reducible show (_ : Bool) = true; first | (simp [*]; done) | (simp only [hC, reduceCtorEq]; (repeat' (first | assumption | apply And.intro)); done))))
  refine AW.loopV [4] [0, 3] (fun m xs o => ∃ k : Nat, xs = [.v (.int .i64 k)] ∧ o = [(hg, some (mkC (encRange true) [.int .i64 0, .int .i64 0] l k))] ∧ m = l.length - k ∧ k ≤ l.length) l.length [(hg, some (mkC (encRange true) [.int .i64 0, .int .i64 0] l 0))] (subO_one (mkC_zero _ _ _)) ⟨0, ?_, rfl, rfl, ?_⟩ ?_
  · rfl
  · omega
  rintro m xs o ⟨k, rfl, rfl, rfl, hk⟩
  have hml := mkC_len (encRange true) [.int .i64 0, .int .i64 0] 2 (fun _ => rfl) rfl l k hk
  (repeat' (first | (with_reducible first | refine Z ?_ | refine Y ?_ | (refine hK _ _ ?_; clear hK K) | exact trivial | refine And.intro ?_ ?_) | (refine AW.i rfl (fun h => ?_) (fun h => ?_) <;> try simp only [hC, reduceCtorEq] at h) | with_reducible rfl | (with_reducible refine fun (K : _ → _ → Prop) hK => ?_) | (with_reducible show drawOK _ _ = true; kernel_rfl) | (with_reducible refine gI fun hg => ?_; try simp only [hC, reduceCtorEq] at hg; try simp only [hg]) | simp (maxSteps := 2000000) (disch := omega) only [go_sem] | (with_reducible intro hg; try simp only [hC, reduceCtorEq] at hg) | (with_reducible show List.Nodup _; decide) | (with_reducible show (_ : Bool) = false; first | rfl | (simp [*]; done)) | with_reducible exact at8_le _ _ | with_reducible exact at8_ge _ _ | (simp only [hC, reduceCtorEq]; omega) | omega | with_reducible assumption | (with_reducible show (_ : Bool) = true; first | (simp [*]; done) | (simp only [hC, reduceCtorEq]; (repeat' (first | assumption | apply And.intro)); done))))
  · exact ⟨_, [_], _, by omega, ⟨k + 1, rfl, rfl, rfl, by omega⟩, rfl, subO_one (by have := mkC_at (encRange true) [.int .i64 0, .int .i64 0] 2 (fun _ => rfl) rfl l k h; simp only [go_sem, Nat.mul_one] at this ⊢; exact this.symm)⟩
  · refine AW.made 2 rfl h hk (fun _ => rfl) ?_
    (repeat' (first | (with_reducible first | refine Z ?_ | refine Y ?_ | (refine hK _ _ ?_; clear hK K) | exact trivial | refine And.intro ?_ ?_) | (refine AW.i rfl (fun h => ?_) (fun h => ?_) <;> try simp only [hC, reduceCtorEq] at h) | with_reducible rfl | ((with_reducible refine E ?_); (with_reducible repeat refine Y ?_); refine eF rfl ?_) | (with_reducible refine fun (K : _ → _ → Prop) hK => ?_) | (with_reducible show drawOK _ _ = true; kernel_rfl) | (with_reducible refine gI fun hg => ?_; try simp only [hC, reduceCtorEq] at hg; try simp only [hg]) | simp (maxSteps := 2000000) (disch := omega) only [go_sem] | (with_reducible intro hg; try simp only [hC, reduceCtorEq] at hg) | (with_reducible show List.Nodup _; decide) | (with_reducible show (_ : Bool) = false; first | rfl | (simp [*]; done)) | with_reducible exact at8_le _ _ | with_reducible exact at8_ge _ _ | (simp only [hC, reduceCtorEq]; omega) | omega | with_reducible assumption | (with_reducible show (_ : Bool) = true; first | (simp [*]; done) | (simp only [hC, reduceCtorEq]; (repeat' (first | assumption | apply And.intro)); done))))
instance eqType_i (L : Nat → Nat) [hL : Lok L] (x : GType) : Ctr L Tryz.prog 197 [] [.agg [.v (.int .i64 x.fKind), .sl false 2 (x.fRanges.map (encRange false)), .sl false 1 (x.fNames.map AV.str), .str x.fPattern, .str x.fPath], .agg [.v (.int .i64 x.fKind), .sl false 2 (x.fRanges.map (encRange false)), .sl false 1 (x.fNames.map AV.str), .str x.fPattern, .str x.fPath]] (.v (.bool true)) [] True := by
  refine Ctr.of_body en197 Tryz.func197 rfl rfl fun hp => (?_); rw [Tryz.ntmps197]
  (repeat' (first | (with_reducible first | refine Z ?_ | refine Y ?_ | (refine hK _ _ ?_; clear hK K) | exact trivial | refine And.intro ?_ ?_) | (refine AW.i rfl (fun h => ?_) (fun h => ?_) <;> try simp only [hC, reduceCtorEq] at h) | with_reducible rfl | ((with_reducible refine E ?_); (with_reducible repeat refine Y ?_); refine eF rfl ?_) | (with_reducible refine fun (K : _ → _ → Prop) hK => ?_) | (with_reducible show drawOK _ _ = true; kernel_rfl) | (with_reducible refine gI fun hg => ?_; try simp only [hC, reduceCtorEq] at hg; try simp only [hg]) | simp (maxSteps := 2000000) (disch := omega) only [go_sem] | (with_reducible intro hg; try simp only [hC, reduceCtorEq] at hg) | (with_reducible show List.Nodup _; decide) | (with_reducible show (_ : Bool) = false; first | rfl | (simp [*]; done)) | with_reducible exact at8_le _ _ | with_reducible exact at8_ge _ _ | (simp only [hC, reduceCtorEq]; omega) | omega | with_reducible assumption | (with_reducible show (_ : Bool) = true; first | (simp [*]; done) | (simp only [hC, reduceCtorEq]; (repeat' (first | assumption | apply And.intro)); done))))
instance szType_i (L : Nat → Nat) [hL : Lok L] (x : GType) (r : Int) : Ctr L Tryz.prog 191 [] [.agg [.v (.int .i64 x.fKind), .sl false 2 (x.fRanges.map (encRange false)), .sl false 1 (x.fNames.map AV.str), .str x.fPattern, .str x.fPath], .v (.int .i64 r)] (.v (.int .i64 (szType x r))) [] (0 ≤ r ∧ r ≤ 1048576) := by
  refine Ctr.of_body en191 Tryz.func191 rfl rfl fun hp => (?_); rw [Tryz.ntmps191]
  refine AW.fact 0 fun hf => ?_
  simp (disch := omega) only [go_sem, Nat.reduceBEq] at hf
  have le0 := szSl_le szRange szRange_le x.fRanges r
  have le1 := szSl_le szStr szStr_le x.fNames (szSl szRange x.fRanges r)
  unfold szType
  (repeat' (first | (with_reducible first | refine Z ?_ | refine Y ?_ | (refine hK _ _ ?_; clear hK K) | exact trivial | refine And.intro ?_ ?_) | (refine AW.i rfl (fun h => ?_) (fun h => ?_) <;> try simp only [hC, reduceCtorEq] at h) | with_reducible rfl | ((with_reducible refine E ?_); (with_reducible repeat refine Y ?_); refine eF rfl ?_) | (with_reducible refine fun (K : _ → _ → Prop) hK => ?_) | (with_reducible show drawOK _ _ = true; kernel_rfl) | (with_reducible refine gI fun hg => ?_; try simp only [hC, reduceCtorEq] at hg; try simp only [hg]) | simp (maxSteps := 2000000) (disch := omega) only [go_sem] | (with_reducible intro hg; try simp only [hC, reduceCtorEq] at hg) | (with_reducible show List.Nodup _; decide) | (with_reducible show (_ : Bool) = false; first | rfl | (simp [*]; done)) | with_reducible exact at8_le _ _ | with_reducible exact at8_ge _ _ | (simp only [hC, reduceCtorEq]; omega) | omega | with_reducible assumption | (with_reducible show (_ : Bool) = true; first | (simp [*]; done) | (simp only [hC, reduceCtorEq]; (repeat' (first | assumption | apply And.intro)); done))))
  all_goals simp only [thn, szStr, id]
  all_goals refine congrArg (fun z => AV.v (.int .i64 z)) ?_
  all_goals (repeat' split)
  all_goals omega
instance toType_i (x : GType) : Ctr lim Tryz.prog 194 [] [.agg [.v (.int .i64 x.fKind), .sl false 2 (x.fRanges.map (encRange false)), .sl false 1 (x.fNames.map AV.str), .str x.fPattern, .str x.fPath]] (.agg [.v (.int .i64 x.fKind), .sl true 2 (x.fRanges.map (encRange true)), .sl true 1 (x.fNames.map AV.str), .str x.fPattern, .str x.fPath]) [] True := by
  refine Ctr.of_body en194 Tryz.func194 rfl rfl fun hp => (?_); rw [Tryz.ntmps194]
  (repeat' (first | (with_reducible first | refine Z ?_ | refine Y ?_ | (refine hK _ _ ?_; clear hK K) | exact trivial | refine And.intro ?_ ?_) | (refine AW.i rfl (fun h => ?_) (fun h => ?_) <;> try simp only [hC, reduceCtorEq] at h) | with_reducible rfl | ((with_reducible refine E ?_); (with_reducible repeat refine Y ?_); refine eF rfl ?_) | (with_reducible refine fun (K : _ → _ → Prop) hK => ?_) | (with_reducible show drawOK _ _ = true; kernel_rfl) | (with_reducible refine gI fun hg => ?_; try simp only [hC, reduceCtorEq] at hg; try simp only [hg]) | simp (maxSteps := 2000000) (disch := omega) only [go_sem] | (with_reducible intro hg; try simp only [hC, reduceCtorEq] at hg) | (with_reducible show List.Nodup _; decide) | (with_reducible show (_ : Bool) = false; first | rfl | (simp [*]; done)) | with_reducible exact at8_le _ _ | with_reducible exact at8_ge _ _ | (simp only [hC, reduceCtorEq]; omega) | omega | with_reducible assumption | (with_reducible show (_ : Bool) = true; first | (simp [*]; done) | (simp only [hC, reduceCtorEq]; (repeat' (first | assumption | apply And.intro)); done))))
end Go.Proofs.YtkdchlggdcmkbaaGreat
namespace Go.Proofs.YtkdchlggdcmkbaaGreat
open Go.Ab Go.Dt
set_option maxRecDepth 20000
set_option maxHeartbeats 4000000
theorem GNode.kids_lt {x : GNode} {l : List GNode} (h : x ∈ l) : SizeOf.sizeOf x.fKids < SizeOf.sizeOf l := by
  have := List.sizeOf_lt_of_mem h
  cases x; simp [GNode.fKids] at *; omega
theorem eqNode_n (L : Nat → Nat) [hL : Lok L] (n : Nat) (ih : ∀ l : List GNode, Ctr L Tryz.prog 59 [] [.sl false 3 (l.map (encNode false)), .sl false 3 (l.map (encNode false))] (.v (.bool true)) [] (SizeOf.sizeOf l < n)) (x : GNode) : Ctr L Tryz.prog 124 [] [.agg [.str x.fName, .str x.fValue, .sl false 3 (x.fKids.map (encNode false))], .agg [.str x.fName, .str x.fValue, .sl false 3 (x.fKids.map (encNode false))]] (.v (.bool true)) [] (SizeOf.sizeOf x.fKids < n) := by
  refine Ctr.of_body en124 Tryz.func124 rfl rfl fun hp => (?_); rw [Tryz.ntmps124]
  (repeat' (first | (with_reducible first | refine Z ?_ | refine Y ?_ | (refine hK _ _ ?_; clear hK K) | exact trivial | refine And.intro ?_ ?_) | (refine AW.i rfl (fun h => ?_) (fun h => ?_) <;> try simp only [hC, reduceCtorEq] at h) | with_reducible rfl | ((with_reducible refine E ?_); (with_reducible repeat refine Y ?_); refine eF rfl ?_) | (with_reducible refine fun (K : _ → _ → Prop) hK => ?_) | (with_reducible show drawOK _ _ = true; kernel_rfl) | (with_reducible refine gI fun hg => ?_; try simp only [hC, reduceCtorEq] at hg; try simp only [hg]) | simp (maxSteps := 2000000) (disch := omega) only [go_sem] | (with_reducible intro hg; try simp only [hC, reduceCtorEq] at hg) | (with_reducible show List.Nodup _; decide) | (with_reducible show (_ : Bool) = false; first | rfl | (simp [*]; done)) | with_reducible exact at8_le _ _ | with_reducible exact at8_ge _ _ | (simp only [hC, reduceCtorEq]; omega) | omega | with_reducible assumption | (with_reducible show (_ : Bool) = true; first | (simp [*]; done) | (simp only [hC, reduceCtorEq]; (repeat' (first | assumption | apply And.intro)); done))))
theorem eqNodeS_n (L : Nat → Nat) [hL : Lok L] : ∀ (n : Nat) (l : List GNode), Ctr L Tryz.prog 59 [] [.sl false 3 (l.map (encNode false)), .sl false 3 (l.map (encNode false))] (.v (.bool true)) [] (SizeOf.sizeOf l < n)
  | 0, l => ⟨en59, fun h => absurd h (Nat.not_lt_zero _)⟩
  | n + 1, l => by
    have hx := eqNode_n L n (eqNodeS_n L n)
    refine Ctr.of_body en59 Tryz.func59 rfl rfl fun hp => (?_); rw [Tryz.ntmps59]
    refine AW.fact 0 fun hf => ?_
    simp (disch := omega) only [go_sem, Nat.reduceBEq] at hf
    have hf := Nat.le_trans hf (hL.le 3)
    (repeat' (first | (with_reducible first | refine Z ?_ | refine Y ?_ | (refine hK _ _ ?_; clear hK K) | exact trivial | refine And.intro ?_ ?_) | (refine AW.i rfl (fun h => ?_) (fun h => ?_) <;> try simp only [hC, reduceCtorEq] at h) | with_reducible rfl | ((with_reducible refine E ?_); (with_reducible repeat refine Y ?_); refine eF rfl ?_) | (with_reducible refine fun (K : _ → _ → Prop) hK => ?_) | (with_reducible show drawOK _ _ = true; kernel_rfl) | (with_reducible refine gI fun hg => ?_; try simp only [hC, reduceCtorEq] at hg; try simp only [hg]) | simp (maxSteps := 2000000) (disch := omega) only [go_sem] | (with_reducible intro hg; try simp only [hC, reduceCtorEq] at hg) | (with_reducible show List.Nodup _; decide) | (with_reducible show (_ : Bool) = false; first | rfl | (simp [*]; done)) | with_reducible exact at8_le _ _ | with_reducible exact at8_ge _ _ | (simp only [hC, reduceCtorEq]; omega) | omega | with_reducible assumption | (with_reducible show (_ : Bool) = true; first | (simp [*]; done) | (simp only [hC, reduceCtorEq]; (repeat' (first | assumption | apply And.intro)); done))))
    refine AW.loopV [5] [0, 1] (fun m xs o => ∃ k : Nat, xs = [.v (.int .i64 k)] ∧ o = [] ∧ m = l.length - k ∧ k ≤ l.length) l.length [] trivial ⟨0, ?_, rfl, rfl, ?_⟩ ?_
    · rfl
    · omega
    rintro m xs o ⟨k, rfl, rfl, rfl, hk⟩
    have hkk : k < l.length → SizeOf.sizeOf (at_ l k).fKids < n := fun h => by have := GNode.kids_lt (at_mem h); omega
    (repeat' (first | (with_reducible first | refine Z ?_ | refine Y ?_ | (refine hK _ _ ?_; clear hK K) | exact trivial | refine And.intro ?_ ?_) | (refine AW.i rfl (fun h => ?_) (fun h => ?_) <;> try simp only [hC, reduceCtorEq] at h) | with_reducible rfl | ((with_reducible refine E ?_); (with_reducible repeat refine Y ?_); refine eF rfl ?_) | (with_reducible refine fun (K : _ → _ → Prop) hK => ?_) | (with_reducible show drawOK _ _ = true; kernel_rfl) | (with_reducible refine gI fun hg => ?_; try simp only [hC, reduceCtorEq] at hg; try simp only [hg]) | simp (maxSteps := 2000000) (disch := omega) only [go_sem] | (with_reducible intro hg; try simp only [hC, reduceCtorEq] at hg) | (with_reducible show List.Nodup _; decide) | (with_reducible show (_ : Bool) = false; first | rfl | (simp [*]; done)) | with_reducible exact at8_le _ _ | with_reducible exact at8_ge _ _ | (simp only [hC, reduceCtorEq]; omega) | omega | with_reducible assumption | (with_reducible show (_ : Bool) = true; first | (simp [*]; done) | (simp only [hC, reduceCtorEq]; (repeat' (first | assumption | apply And.intro)); done))))
    exact ⟨_, [_], [], by omega, ⟨k + 1, rfl, rfl, rfl, by omega⟩, rfl, trivial⟩
instance eqNodeS_i (L : Nat → Nat) [hL : Lok L] (l : List GNode) : Ctr L Tryz.prog 59 [] [.sl false 3 (l.map (encNode false)), .sl false 3 (l.map (encNode false))] (.v (.bool true)) [] True := ⟨en59, fun _ => (eqNodeS_n L (SizeOf.sizeOf l + 1) l).out (Nat.lt_succ_self _)⟩
theorem szNode_n (L : Nat → Nat) [hL : Lok L] (n : Nat) (ih : ∀ (l : List GNode) (r : Int), Ctr L Tryz.prog 51 [] [.sl false 3 (l.map (encNode false)), .v (.int .i64 r)] (.v (.int .i64 (szSl szNode l r))) [] (SizeOf.sizeOf l < n ∧ 0 ≤ r ∧ r ≤ 1048576)) (x : GNode) (r : Int) : Ctr L Tryz.prog 110 [] [.agg [.str x.fName, .str x.fValue, .sl false 3 (x.fKids.map (encNode false))], .v (.int .i64 r)] (.v (.int .i64 (szNode x r))) [] (SizeOf.sizeOf x.fKids < n ∧ 0 ≤ r ∧ r ≤ 1048576) := by
  refine Ctr.of_body en110 Tryz.func110 rfl rfl fun hp => (?_); rw [Tryz.ntmps110]
  refine AW.fact 0 fun hf => ?_
  simp (disch := omega) only [go_sem, Nat.reduceBEq] at hf
  have le2 := szSl_le szNode szNode_le x.fKids ((r - x.fName.length) - x.fValue.length)
  rw [szNode_eq]
  (repeat' (first | (with_reducible first | refine Z ?_ | refine Y ?_ | (refine hK _ _ ?_; clear hK K) | exact trivial | refine And.intro ?_ ?_) | (refine AW.i rfl (fun h => ?_) (fun h => ?_) <;> try simp only [hC, reduceCtorEq] at h) | with_reducible rfl | ((with_reducible refine E ?_); (with_reducible repeat refine Y ?_); refine eF rfl ?_) | (with_reducible refine fun (K : _ → _ → Prop) hK => ?_) | (with_reducible show drawOK _ _ = true; kernel_rfl) | (with_reducible refine gI fun hg => ?_; try simp only [hC, reduceCtorEq] at hg; try simp only [hg]) | simp (maxSteps := 2000000) (disch := omega) only [go_sem] | (with_reducible intro hg; try simp only [hC, reduceCtorEq] at hg) | (with_reducible show List.Nodup _; decide) | (with_reducible show (_ : Bool) = false; first | rfl | (simp [*]; done)) | with_reducible exact at8_le _ _ | with_reducible exact at8_ge _ _ | (simp only [hC, reduceCtorEq]; omega) | omega | with_reducible assumption | (with_reducible show (_ : Bool) = true; first | (simp [*]; done) | (simp only [hC, reduceCtorEq]; (repeat' (first | assumption | apply And.intro)); done))))
  all_goals simp only [thn, szStr, id]
  all_goals refine congrArg (fun z => AV.v (.int .i64 z)) ?_
  all_goals (repeat' split)
  all_goals omega
theorem szNodeS_n (L : Nat → Nat) [hL : Lok L] : ∀ (n : Nat) (l : List GNode) (r : Int), Ctr L Tryz.prog 51 [] [.sl false 3 (l.map (encNode false)), .v (.int .i64 r)] (.v (.int .i64 (szSl szNode l r))) [] (SizeOf.sizeOf l < n ∧ 0 ≤ r ∧ r ≤ 1048576)
  | 0, l, r => ⟨en51, fun h => absurd h.1 (Nat.not_lt_zero _)⟩
  | n + 1, l, r => by
    have hx := szNode_n L n (szNodeS_n L n)
    refine Ctr.of_body en51 Tryz.func51 rfl rfl fun hp => (?_); rw [Tryz.ntmps51]
    refine AW.fact 0 fun hf => ?_
    simp (disch := omega) only [go_sem, Nat.reduceBEq] at hf
    have hf := Nat.le_trans hf (hL.le 3)
    (repeat' (first | (with_reducible first | refine Z ?_ | refine Y ?_ | (refine hK _ _ ?_; clear hK K) | exact trivial | refine And.intro ?_ ?_) | (refine AW.i rfl (fun h => ?_) (fun h => ?_) <;> try simp only [hC, reduceCtorEq] at h) | with_reducible rfl | ((with_reducible refine E ?_); (with_reducible repeat refine Y ?_); refine eF rfl ?_) | (with_reducible refine fun (K : _ → _ → Prop) hK => ?_) | (with_reducible show drawOK _ _ = true; kernel_rfl) | (with_reducible refine gI fun hg => ?_; try simp only [hC, reduceCtorEq] at hg; try simp only [hg]) | simp (maxSteps := 2000000) (disch := omega) only [go_sem] | (with_reducible intro hg; try simp only [hC, reduceCtorEq] at hg) | (with_reducible show List.Nodup _; decide) | (with_reducible show (_ : Bool) = false; first | rfl | (simp [*]; done)) | with_reducible exact at8_le _ _ | with_reducible exact at8_ge _ _ | (simp only [hC, reduceCtorEq]; omega) | omega | with_reducible assumption | (with_reducible show (_ : Bool) = true; first | (simp [*]; done) | (simp only [hC, reduceCtorEq]; (repeat' (first | assumption | apply And.intro)); done))))
    · rw [szSl_neg h]
    rw [szSl_pos h]
    refine AW.loopV [1, 5] [0] (fun m xs o => ∃ (k : Nat) (q : Int), xs = [.v (.int .i64 q), .v (.int .i64 k)] ∧ o = [] ∧ m = l.length - k ∧ k ≤ l.length ∧ 0 ≤ q ∧ q ≤ 1048576 ∧ szGo szNode (l.drop k) q = szGo szNode l (r - l.length)) l.length [] trivial ⟨0, _, ?_, rfl, rfl, ?_, ?_, ?_, rfl⟩ ?_
    · rfl
    · omega
    · omega
    · omega
    rintro m xs o ⟨k, q, rfl, rfl, rfl, hk, h0, h1, hR⟩
    have hle := szNode_le (at_ l k) q h0
    have hkk : k < l.length → SizeOf.sizeOf (at_ l k).fKids < n := fun h => by have := GNode.kids_lt (at_mem h); omega
    (repeat' (first | (with_reducible first | refine Z ?_ | refine Y ?_ | (refine hK _ _ ?_; clear hK K) | exact trivial | refine And.intro ?_ ?_) | (refine AW.i rfl (fun h => ?_) (fun h => ?_) <;> try simp only [hC, reduceCtorEq] at h) | with_reducible rfl | ((with_reducible refine E ?_); (with_reducible repeat refine Y ?_); refine eF rfl ?_) | (with_reducible refine fun (K : _ → _ → Prop) hK => ?_) | (with_reducible show drawOK _ _ = true; kernel_rfl) | (with_reducible refine gI fun hg => ?_; try simp only [hC, reduceCtorEq] at hg; try simp only [hg]) | simp (maxSteps := 2000000) (disch := omega) only [go_sem] | (with_reducible intro hg; try simp only [hC, reduceCtorEq] at hg) | (with_reducible show List.Nodup _; decide) | (with_reducible show (_ : Bool) = false; first | rfl | (simp [*]; done)) | with_reducible exact at8_le _ _ | with_reducible exact at8_ge _ _ | (simp only [hC, reduceCtorEq]; omega) | omega | with_reducible assumption | (with_reducible show (_ : Bool) = true; first | (simp [*]; done) | (simp only [hC, reduceCtorEq]; (repeat' (first | assumption | apply And.intro)); done))))
    · rw [szGo_at (by assumption), if_pos (by first | exact h | (rw [hsz]; exact h))] at hR; rw [hR]
    · rw [szGo_at (by assumption), if_neg (by omega)] at hR
      exact ⟨_, [_, _], [], by omega, ⟨k + 1, _, rfl, rfl, rfl, by omega, by omega, by omega, hR⟩, rfl, trivial⟩
    · rw [szGo_end h] at hR; rw [hR]
instance szNodeS_i (L : Nat → Nat) [hL : Lok L] (l : List GNode) (r : Int) : Ctr L Tryz.prog 51 [] [.sl false 3 (l.map (encNode false)), .v (.int .i64 r)] (.v (.int .i64 (szSl szNode l r))) [] (0 ≤ r ∧ r ≤ 1048576) := ⟨en51, fun h => (szNodeS_n L (SizeOf.sizeOf l + 1) l r).out ⟨Nat.lt_succ_self _, h⟩⟩
theorem toNode_n (n : Nat) (ih : ∀ l : List GNode, Ctr lim Tryz.prog 55 [] [.sl false 3 (l.map (encNode false))] (.sl true 3 (l.map (encNode true))) [] (SizeOf.sizeOf l < n)) (x : GNode) : Ctr lim Tryz.prog 117 [] [.agg [.str x.fName, .str x.fValue, .sl false 3 (x.fKids.map (encNode false))]] (.agg [.str x.fName, .str x.fValue, .sl true 3 (x.fKids.map (encNode true))]) [] (SizeOf.sizeOf x.fKids < n) := by
  refine Ctr.of_body en117 Tryz.func117 rfl rfl fun hp => (?_); rw [Tryz.ntmps117]
  (repeat' (first | (with_reducible first | refine Z ?_ | refine Y ?_ | (refine hK _ _ ?_; clear hK K) | exact trivial | refine And.intro ?_ ?_) | (refine AW.i rfl (fun h => ?_) (fun h => ?_) <;> try simp only [hC, reduceCtorEq] at h) | with_reducible rfl | ((with_reducible refine E ?_); (with_reducible repeat refine Y ?_); refine eF rfl ?_) | (with_reducible refine fun (K : _ → _ → Prop) hK => ?_) | (with_reducible show drawOK _ _ = true; kernel_rfl) | (with_reducible refine gI fun hg => ?_; try simp only [hC, reduceCtorEq] at hg; try simp only [hg]) | simp (maxSteps := 2000000) (disch := omega) only [go_sem] | (with_reducible intro hg; try simp only [hC, reduceCtorEq] at hg) | (with_reducible show List.Nodup _; decide) | (with_reducible show (_ : Bool) = false; first | rfl | (simp [*]; done)) | with_reducible exact at8_le _ _ | with_reducible exact at8_ge _ _ | (simp only [hC, reduceCtorEq]; omega) | omega | with_reducible assumption | (with_reducible show (_ : Bool) = true; first | (simp [*]; done) | (simp only [hC, reduceCtorEq]; (repeat' (first | assumption | apply And.intro)); done))))
theorem toNodeS_n : ∀ (n : Nat) (l : List GNode), Ctr lim Tryz.prog 55 [] [.sl false 3 (l.map (encNode false))] (.sl true 3 (l.map (encNode true))) [] (SizeOf.sizeOf l < n)
  | 0, l => ⟨en55, fun h => absurd h (Nat.not_lt_zero _)⟩
  | n + 1, l => by
    have hx := toNode_n n (toNodeS_n n)
    refine Ctr.of_body en55 Tryz.func55 rfl rfl fun hp => (?_); rw [Tryz.ntmps55]
    refine AW.fact 0 fun hf => ?_
    simp (disch := omega) only [go_sem, Nat.reduceBEq] at hf
    (repeat' (first | (with_reducible first | refine Z ?_ | refine Y ?_ | (refine hK _ _ ?_; clear hK K) | exact trivial | refine And.intro ?_ ?_) | (refine AW.i rfl (fun h => ?_) (fun h => ?_) <;> try simp only [hC, reduceCtorEq] at h) | with_reducible rfl | ((with_reducible refine E ?_); (with_reducible repeat refine Y ?_); refine eF rfl ?_) | (with_reducible refine fun (K : _ → _ → Prop) hK => ?_) | (with_reducible show drawOK _ _ = true; kernel_rfl) | (with_reducible refine gI fun hg => ?_; try simp only [hC, reduceCtorEq] at hg; try simp only [hg]) | simp (maxSteps := 2000000) (disch := omega) only [go_sem] | (with_reducible intro hg; try simp only [hC, reduceCtorEq] at hg) | (with_reducible show List.Nodup _; decide) | (with_reducible show (_ : Bool) = false; first | rfl | (simp [*]; done)) | with_reducible exact at8_le _ _ | with_reducible exact at8_ge _ _ | (simp only [hC, reduceCtorEq]; omega) | omega | with_reducible assumption | (with_reducible show (_ : Bool) = true; first | (simp [*]; done) | (simp only [hC, reduceCtorEq]; (repeat' (first | assumption | apply And.intro)); done))))
    refine AW.loopV [4] [0, 3] (fun m xs o => ∃ k : Nat, xs = [.v (.int .i64 k)] ∧ o = [(hg, some (mkC (encNode true) [.string ⟨#[]⟩, .string ⟨#[]⟩, .slice none 0 0] l k))] ∧ m = l.length - k ∧ k ≤ l.length) l.length [(hg, some (mkC (encNode true) [.string ⟨#[]⟩, .string ⟨#[]⟩, .slice none 0 0] l 0))] (subO_one (mkC_zero _ _ _)) ⟨0, ?_, rfl, rfl, ?_⟩ ?_
    · rfl
    · omega
    rintro m xs o ⟨k, rfl, rfl, rfl, hk⟩
    have hml := mkC_len (encNode true) [.string ⟨#[]⟩, .string ⟨#[]⟩, .slice none 0 0] 3 (fun x => by rw [encNode_eq]; rfl) rfl l k hk
    have hkk : k < l.length → SizeOf.sizeOf (at_ l k).fKids < n := fun h => by have := GNode.kids_lt (at_mem h); omega
    (repeat' (first | (with_reducible first | refine Z ?_ | refine Y ?_ | (refine hK _ _ ?_; clear hK K) | exact trivial | refine And.intro ?_ ?_) | (refine AW.i rfl (fun h => ?_) (fun h => ?_) <;> try simp only [hC, reduceCtorEq] at h) | with_reducible rfl | (with_reducible refine fun (K : _ → _ → Prop) hK => ?_) | (with_reducible show drawOK _ _ = true; kernel_rfl) | (with_reducible refine gI fun hg => ?_; try simp only [hC, reduceCtorEq] at hg; try simp only [hg]) | simp (maxSteps := 2000000) (disch := omega) only [go_sem] | (with_reducible intro hg; try simp only [hC, reduceCtorEq] at hg) | (with_reducible show List.Nodup _; decide) | (with_reducible show (_ : Bool) = false; first | rfl | (simp [*]; done)) | with_reducible exact at8_le _ _ | with_reducible exact at8_ge _ _ | (simp only [hC, reduceCtorEq]; omega) | omega | with_reducible assumption | (with_reducible show (_ : Bool) = true; first | (simp [*]; done) | (simp only [hC, reduceCtorEq]; (repeat' (first | assumption | apply And.intro)); done))))
    · exact ⟨_, [_], _, by omega, ⟨k + 1, rfl, rfl, rfl, by omega⟩, rfl, subO_one (by have := mkC_at (encNode true) [.string ⟨#[]⟩, .string ⟨#[]⟩, .slice none 0 0] 3 (fun x => by rw [encNode_eq]; rfl) rfl l k h; simp only [go_sem, Nat.mul_one] at this ⊢; exact this.symm)⟩
    · refine AW.made 2 rfl h hk (fun x => by rw [encNode_eq]; rfl) ?_
      (repeat' (first | (with_reducible first | refine Z ?_ | refine Y ?_ | (refine hK _ _ ?_; clear hK K) | exact trivial | refine And.intro ?_ ?_) | (refine AW.i rfl (fun h => ?_) (fun h => ?_) <;> try simp only [hC, reduceCtorEq] at h) | with_reducible rfl | ((with_reducible refine E ?_); (with_reducible repeat refine Y ?_); refine eF rfl ?_) | (with_reducible refine fun (K : _ → _ → Prop) hK => ?_) | (with_reducible show drawOK _ _ = true; kernel_rfl) | (with_reducible refine gI fun hg => ?_; try simp only [hC, reduceCtorEq] at hg; try simp only [hg]) | simp (maxSteps := 2000000) (disch := omega) only [go_sem] | (with_reducible intro hg; try simp only [hC, reduceCtorEq] at hg) | (with_reducible show List.Nodup _; decide) | (with_reducible show (_ : Bool) = false; first | rfl | (simp [*]; done)) | with_reducible exact at8_le _ _ | with_reducible exact at8_ge _ _ | (simp only [hC, reduceCtorEq]; omega) | omega | with_reducible assumption | (with_reducible show (_ : Bool) = true; first | (simp [*]; done) | (simp only [hC, reduceCtorEq]; (repeat' (first | assumption | apply And.intro)); done))))
instance toNodeS_i (l : List GNode) : Ctr lim Tryz.prog 55 [] [.sl false 3 (l.map (encNode false))] (.sl true 3 (l.map (encNode true))) [] True := ⟨en55, fun _ => (toNodeS_n (SizeOf.sizeOf l + 1) l).out (Nat.lt_succ_self _)⟩
instance eqParam_i (L : Nat → Nat) [hL : Lok L] (x : GParam) : Ctr L Tryz.prog 190 [] [.agg [.str x.fName, .v (.int .i64 x.fType.fKind), .sl false 2 (x.fType.fRanges.map (encRange false)), .sl false 1 (x.fType.fNames.map AV.str), .str x.fType.fPattern, .str x.fType.fPath], .agg [.str x.fName, .v (.int .i64 x.fType.fKind), .sl false 2 (x.fType.fRanges.map (encRange false)), .sl false 1 (x.fType.fNames.map AV.str), .str x.fType.fPattern, .str x.fType.fPath]] (.v (.bool true)) [] True := by
  refine Ctr.of_body en190 Tryz.func190 rfl rfl fun hp => (?_); rw [Tryz.ntmps190]
  (repeat' (first | (with_reducible first | refine Z ?_ | refine Y ?_ | (refine hK _ _ ?_; clear hK K) | exact trivial | refine And.intro ?_ ?_) | (refine AW.i rfl (fun h => ?_) (fun h => ?_) <;> try simp only [hC, reduceCtorEq] at h) | with_reducible rfl | ((with_reducible refine E ?_); (with_reducible repeat refine Y ?_); refine eF rfl ?_) | (with_reducible refine fun (K : _ → _ → Prop) hK => ?_) | (with_reducible show drawOK _ _ = true; kernel_rfl) | (with_reducible refine gI fun hg => ?_; try simp only [hC, reduceCtorEq] at hg; try simp only [hg]) | simp (maxSteps := 2000000) (disch := omega) only [go_sem] | (with_reducible intro hg; try simp only [hC, reduceCtorEq] at hg) | (with_reducible show List.Nodup _; decide) | (with_reducible show (_ : Bool) = false; first | rfl | (simp [*]; done)) | with_reducible exact at8_le _ _ | with_reducible exact at8_ge _ _ | (simp only [hC, reduceCtorEq]; omega) | omega | with_reducible assumption | (with_reducible show (_ : Bool) = true; first | (simp [*]; done) | (simp only [hC, reduceCtorEq]; (repeat' (first | assumption | apply And.intro)); done))))
instance eqParamS_i (L : Nat → Nat) [hL : Lok L] (l : List GParam) : Ctr L Tryz.prog 163 [] [.sl false 6 (l.map (encParam false)), .sl false 6 (l.map (encParam false))] (.v (.bool true)) [] True := by
  refine Ctr.of_body en163 Tryz.func163 rfl rfl fun hp => (?_); rw [Tryz.ntmps163]
  refine AW.fact 0 fun hf => ?_
  simp (disch := omega) only [go_sem, Nat.reduceBEq] at hf
  have hf := Nat.le_trans hf (hL.le 6)
  (repeat' (first | (with_reducible first | refine Z ?_ | refine Y ?_ | (refine hK _ _ ?_; clear hK K) | exact trivial | refine And.intro ?_ ?_) | (refine AW.i rfl (fun h => ?_) (fun h => ?_) <;> try simp only [hC, reduceCtorEq] at h) | with_reducible rfl | ((with_reducible refine E ?_); (with_reducible repeat refine Y ?_); refine eF rfl ?_) | (with_reducible refine fun (K : _ → _ → Prop) hK => ?_) | (with_reducible show drawOK _ _ = true; kernel_rfl) | (with_reducible refine gI fun hg => ?_; try simp only [hC, reduceCtorEq] at hg; try simp only [hg]) | simp (maxSteps := 2000000) (disch := omega) only [go_sem] | (with_reducible intro hg; try simp only [hC, reduceCtorEq] at hg) | (with_reducible show List.Nodup _; decide) | (with_reducible show (_ : Bool) = false; first | rfl | (simp [*]; done)) | with_reducible exact at8_le _ _ | with_reducible exact at8_ge _ _ | (simp only [hC, reduceCtorEq]; omega) | omega | with_reducible assumption | (with_reducible show (_ : Bool) = true; first | (simp [*]; done) | (simp only [hC, reduceCtorEq]; (repeat' (first | assumption | apply And.intro)); done))))
  refine AW.loopV [5] [0, 1] (fun m xs o => ∃ k : Nat, xs = [.v (.int .i64 k)] ∧ o = [] ∧ m = l.length - k ∧ k ≤ l.length) l.length [] trivial ⟨0, ?_, rfl, rfl, ?_⟩ ?_
  · rfl
  · omega
  rintro m xs o ⟨k, rfl, rfl, rfl, hk⟩
  (repeat' (first | (with_reducible first | refine Z ?_ | refine Y ?_ | (refine hK _ _ ?_; clear hK K) | exact trivial | refine And.intro ?_ ?_) | (refine AW.i rfl (fun h => ?_) (fun h => ?_) <;> try simp only [hC, reduceCtorEq] at h) | with_reducible rfl | ((with_reducible refine E ?_); (with_reducible repeat refine Y ?_); refine eF rfl ?_) | (with_reducible refine fun (K : _ → _ → Prop) hK => ?_) | (with_reducible show drawOK _ _ = true; kernel_rfl) | (with_reducible refine gI fun hg => ?_; try simp only [hC, reduceCtorEq] at hg; try simp only [hg]) | simp (maxSteps := 2000000) (disch := omega) only [go_sem] | (with_reducible intro hg; try simp only [hC, reduceCtorEq] at hg) | (with_reducible show List.Nodup _; decide) | (with_reducible show (_ : Bool) = false; first | rfl | (simp [*]; done)) | with_reducible exact at8_le _ _ | with_reducible exact at8_ge _ _ | (simp only [hC, reduceCtorEq]; omega) | omega | with_reducible assumption | (with_reducible show (_ : Bool) = true; first | (simp [*]; done) | (simp only [hC, reduceCtorEq]; (repeat' (first | assumption | apply And.intro)); done))))
  exact ⟨_, [_], [], by omega, ⟨k + 1, rfl, rfl, rfl, by omega⟩, rfl, trivial⟩
instance szParam_i (L : Nat → Nat) [hL : Lok L] (x : GParam) (r : Int) : Ctr L Tryz.prog 181 [] [.agg [.str x.fName, .v (.int .i64 x.fType.fKind), .sl false 2 (x.fType.fRanges.map (encRange false)), .sl false 1 (x.fType.fNames.map AV.str), .str x.fType.fPattern, .str x.fType.fPath], .v (.int .i64 r)] (.v (.int .i64 (szParam x r))) [] (0 ≤ r ∧ r ≤ 1048576) := by
  refine Ctr.of_body en181 Tryz.func181 rfl rfl fun hp => (?_); rw [Tryz.ntmps181]
  refine AW.fact 0 fun hf => ?_
  simp (disch := omega) only [go_sem, Nat.reduceBEq] at hf
  have le1 := szType_le x.fType (r - x.fName.length)
  unfold szParam
  (repeat' (first | (with_reducible first | refine Z ?_ | refine Y ?_ | (refine hK _ _ ?_; clear hK K) | exact trivial | refine And.intro ?_ ?_) | (refine AW.i rfl (fun h => ?_) (fun h => ?_) <;> try simp only [hC, reduceCtorEq] at h) | with_reducible rfl | ((with_reducible refine E ?_); (with_reducible repeat refine Y ?_); refine eF rfl ?_) | (with_reducible refine fun (K : _ → _ → Prop) hK => ?_) | (with_reducible show drawOK _ _ = true; kernel_rfl) | (with_reducible refine gI fun hg => ?_; try simp only [hC, reduceCtorEq] at hg; try simp only [hg]) | simp (maxSteps := 2000000) (disch := omega) only [go_sem] | (with_reducible intro hg; try simp only [hC, reduceCtorEq] at hg) | (with_reducible show List.Nodup _; decide) | (with_reducible show (_ : Bool) = false; first | rfl | (simp [*]; done)) | with_reducible exact at8_le _ _ | with_reducible exact at8_ge _ _ | (simp only [hC, reduceCtorEq]; omega) | omega | with_reducible assumption | (with_reducible show (_ : Bool) = true; first | (simp [*]; done) | (simp only [hC, reduceCtorEq]; (repeat' (first | assumption | apply And.intro)); done))))
  all_goals simp only [thn, szStr, id]
  all_goals refine congrArg (fun z => AV.v (.int .i64 z)) ?_
  all_goals (repeat' split)
  all_goals omega
instance szParamS_i (L : Nat → Nat) [hL : Lok L] (l : List GParam) (r : Int) : Ctr L Tryz.prog 145 [] [.sl false 6 (l.map (encParam false)), .v (.int .i64 r)] (.v (.int .i64 (szSl szParam l r))) [] (0 ≤ r ∧ r ≤ 1048576) := by
  refine Ctr.of_body en145 Tryz.func145 rfl rfl fun hp => (?_); rw [Tryz.ntmps145]
  refine AW.fact 0 fun hf => ?_
  simp (disch := omega) only [go_sem, Nat.reduceBEq] at hf
  have hf := Nat.le_trans hf (hL.le 6)
  (repeat' (first | (with_reducible first | refine Z ?_ | refine Y ?_ | (refine hK _ _ ?_; clear hK K) | exact trivial | refine And.intro ?_ ?_) | (refine AW.i rfl (fun h => ?_) (fun h => ?_) <;> try simp only [hC, reduceCtorEq] at h) | with_reducible rfl | ((with_reducible refine E ?_); (with_reducible repeat refine Y ?_); refine eF rfl ?_) | (with_reducible refine fun (K : _ → _ → Prop) hK => ?_) | (with_reducible show drawOK _ _ = true; kernel_rfl) | (with_reducible refine gI fun hg => ?_; try simp only [hC, reduceCtorEq] at hg; try simp only [hg]) | simp (maxSteps := 2000000) (disch := omega) only [go_sem] | (with_reducible intro hg; try simp only [hC, reduceCtorEq] at hg) | (with_reducible show List.Nodup _; decide) | (with_reducible show (_ : Bool) = false; first | rfl | (simp [*]; done)) | with_reducible exact at8_le _ _ | with_reducible exact at8_ge _ _ | (simp only [hC, reduceCtorEq]; omega) | omega | with_reducible assumption | (with_reducible show (_ : Bool) = true; first | (simp [*]; done) | (simp only [hC, reduceCtorEq]; (repeat' (first | assumption | apply And.intro)); done))))
  · rw [szSl_neg h]
  rw [szSl_pos h]
  refine AW.loopV [1, 5] [0] (fun m xs o => ∃ (k : Nat) (q : Int), xs = [.v (.int .i64 q), .v (.int .i64 k)] ∧ o = [] ∧ m = l.length - k ∧ k ≤ l.length ∧ 0 ≤ q ∧ q ≤ 1048576 ∧ szGo szParam (l.drop k) q = szGo szParam l (r - l.length)) l.length [] trivial ⟨0, _, ?_, rfl, rfl, ?_, ?_, ?_, rfl⟩ ?_
  · rfl
  · omega
  · omega
  · omega
  rintro m xs o ⟨k, q, rfl, rfl, rfl, hk, h0, h1, hR⟩
  have hle := szParam_le (at_ l k) q h0
  (repeat' (first | (with_reducible first | refine Z ?_ | refine Y ?_ | (refine hK _ _ ?_; clear hK K) | exact trivial | refine And.intro ?_ ?_) | (refine AW.i rfl (fun h => ?_) (fun h => ?_) <;> try simp only [hC, reduceCtorEq] at h) | with_reducible rfl | ((with_reducible refine E ?_); (with_reducible repeat refine Y ?_); refine eF rfl ?_) | (with_reducible refine fun (K : _ → _ → Prop) hK => ?_) | (with_reducible show drawOK _ _ = true; kernel_rfl) | (with_reducible refine gI fun hg => ?_; try simp only [hC, reduceCtorEq] at hg; try simp only [hg]) | simp (maxSteps := 2000000) (disch := omega) only [go_sem] | (with_reducible intro hg; try simp only [hC, reduceCtorEq] at hg) | (with_reducible show List.Nodup _; decide) | (with_reducible show (_ : Bool) = false; first | rfl | (simp [*]; done)) | with_reducible exact at8_le _ _ | with_reducible exact at8_ge _ _ | (simp only [hC, reduceCtorEq]; omega) | omega | with_reducible assumption | (with_reducible show (_ : Bool) = true; first | (simp [*]; done) | (simp only [hC, reduceCtorEq]; (repeat' (first | assumption | apply And.intro)); done))))
  · rw [szGo_at (by assumption), if_pos (by first | exact h | (rw [hsz]; exact h))] at hR; rw [hR]
  · rw [szGo_at (by assumption), if_neg (by omega)] at hR
    exact ⟨_, [_, _], [], by omega, ⟨k + 1, _, rfl, rfl, rfl, by omega, by omega, by omega, hR⟩, rfl, trivial⟩
  · rw [szGo_end h] at hR; rw [hR]
instance toParam_i (x : GParam) : Ctr lim Tryz.prog 184 [] [.agg [.str x.fName, .v (.int .i64 x.fType.fKind), .sl false 2 (x.fType.fRanges.map (encRange false)), .sl false 1 (x.fType.fNames.map AV.str), .str x.fType.fPattern, .str x.fType.fPath]] (.agg [.str x.fName, .v (.int .i64 x.fType.fKind), .sl true 2 (x.fType.fRanges.map (encRange true)), .sl true 1 (x.fType.fNames.map AV.str), .str x.fType.fPattern, .str x.fType.fPath]) [] True := by
  refine Ctr.of_body en184 Tryz.func184 rfl rfl fun hp => (?_); rw [Tryz.ntmps184]
  (repeat' (first | (with_reducible first | refine Z ?_ | refine Y ?_ | (refine hK _ _ ?_; clear hK K) | exact trivial | refine And.intro ?_ ?_) | (refine AW.i rfl (fun h => ?_) (fun h => ?_) <;> try simp only [hC, reduceCtorEq] at h) | with_reducible rfl | ((with_reducible refine E ?_); (with_reducible repeat refine Y ?_); refine eF rfl ?_) | (with_reducible refine fun (K : _ → _ → Prop) hK => ?_) | (with_reducible show drawOK _ _ = true; kernel_rfl) | (with_reducible refine gI fun hg => ?_; try simp only [hC, reduceCtorEq] at hg; try simp only [hg]) | simp (maxSteps := 2000000) (disch := omega) only [go_sem] | (with_reducible intro hg; try simp only [hC, reduceCtorEq] at hg) | (with_reducible show List.Nodup _; decide) | (with_reducible show (_ : Bool) = false; first | rfl | (simp [*]; done)) | with_reducible exact at8_le _ _ | with_reducible exact at8_ge _ _ | (simp only [hC, reduceCtorEq]; omega) | omega | with_reducible assumption | (with_reducible show (_ : Bool) = true; first | (simp [*]; done) | (simp only [hC, reduceCtorEq]; (repeat' (first | assumption | apply And.intro)); done))))
instance toParamS_i (l : List GParam) : Ctr lim Tryz.prog 153 [] [.sl false 6 (l.map (encParam false))] (.sl true 6 (l.map (encParam true))) [] True := by
  refine Ctr.of_body en153 Tryz.func153 rfl rfl fun hp => (?_); rw [Tryz.ntmps153]
  refine AW.fact 0 fun hf => ?_
  simp (disch := omega) only [go_sem, Nat.reduceBEq] at hf
  (repeat' (first | (with_reducible first | refine Z ?_ | refine Y ?_ | (refine hK _ _ ?_; clear hK K) | exact trivial | refine And.intro ?_ ?_) | (refine AW.i rfl (fun h => ?_) (fun h => ?_) <;> try simp only [hC, reduceCtorEq] at h) | with_reducible rfl | ((with_reducible refine E ?_); (with_reducible repeat refine Y ?_); refine eF rfl ?_) | (with_reducible refine fun (K : _ → _ → Prop) hK => ?_) | (with_reducible show drawOK _ _ = true; kernel_rfl) | (with_reducible refine gI fun hg => ?_; try simp only [hC, reduceCtorEq] at hg; try simp only [hg]) | simp (maxSteps := 2000000) (disch := omega) only [go_sem] | (with_reducible intro hg; try simp only [hC, reduceCtorEq] at hg) | (with_reducible show List.Nodup _; decide) | (with_reducible show (_ : Bool) = false; first | rfl | (simp [*]; done)) | with_reducible exact at8_le _ _ | with_reducible exact at8_ge _ _ | (simp only [hC, reduceCtorEq]; omega) | omega | with_reducible assumption | (with_reducible show (_ : Bool) = true; first | (simp [*]; done) | (simp only [hC, reduceCtorEq]; (repeat' (first | assumption | apply And.intro)); done))))
  refine AW.loopV [4] [0, 3] (fun m xs o => ∃ k : Nat, xs = [.v (.int .i64 k)] ∧ o = [(hg, some (mkC (encParam true) [.string ⟨#[]⟩, .int .i64 0, .slice none 0 0, .slice none 0 0, .string ⟨#[]⟩, .string ⟨#[]⟩] l k))] ∧ m = l.length - k ∧ k ≤ l.length) l.length [(hg, some (mkC (encParam true) [.string ⟨#[]⟩, .int .i64 0, .slice none 0 0, .slice none 0 0, .string ⟨#[]⟩, .string ⟨#[]⟩] l 0))] (subO_one (mkC_zero _ _ _)) ⟨0, ?_, rfl, rfl, ?_⟩ ?_
  · rfl
  · omega
  rintro m xs o ⟨k, rfl, rfl, rfl, hk⟩
  have hml := mkC_len (encParam true) [.string ⟨#[]⟩, .int .i64 0, .slice none 0 0, .slice none 0 0, .string ⟨#[]⟩, .string ⟨#[]⟩] 6 (fun _ => rfl) rfl l k hk
  (repeat' (first | (with_reducible first | refine Z ?_ | refine Y ?_ | (refine hK _ _ ?_; clear hK K) | exact trivial | refine And.intro ?_ ?_) | (refine AW.i rfl (fun h => ?_) (fun h => ?_) <;> try simp only [hC, reduceCtorEq] at h) | with_reducible rfl | (with_reducible refine fun (K : _ → _ → Prop) hK => ?_) | (with_reducible show drawOK _ _ = true; kernel_rfl) | (with_reducible refine gI fun hg => ?_; try simp only [hC, reduceCtorEq] at hg; try simp only [hg]) | simp (maxSteps := 2000000) (disch := omega) only [go_sem] | (with_reducible intro hg; try simp only [hC, reduceCtorEq] at hg) | (with_reducible show List.Nodup _; decide) | (with_reducible show (_ : Bool) = false; first | rfl | (simp [*]; done)) | with_reducible exact at8_le _ _ | with_reducible exact at8_ge _ _ | (simp only [hC, reduceCtorEq]; omega) | omega | with_reducible assumption | (with_reducible show (_ : Bool) = true; first | (simp [*]; done) | (simp only [hC, reduceCtorEq]; (repeat' (first | assumption | apply And.intro)); done))))
  · exact ⟨_, [_], _, by omega, ⟨k + 1, rfl, rfl, rfl, by omega⟩, rfl, subO_one (by have := mkC_at (encParam true) [.string ⟨#[]⟩, .int .i64 0, .slice none 0 0, .slice none 0 0, .string ⟨#[]⟩, .string ⟨#[]⟩] 6 (fun _ => rfl) rfl l k h; simp only [go_sem, Nat.mul_one] at this ⊢; exact this.symm)⟩
  · refine AW.made 2 rfl h hk (fun _ => rfl) ?_
    (repeat' (first | (with_reducible first | refine Z ?_ | refine Y ?_ | (refine hK _ _ ?_; clear hK K) | exact trivial | refine And.intro ?_ ?_) | (refine AW.i rfl (fun h => ?_) (fun h => ?_) <;> try simp only [hC, reduceCtorEq] at h) | with_reducible rfl | ((with_reducible refine E ?_); (with_reducible repeat refine Y ?_); refine eF rfl ?_) | (with_reducible refine fun (K : _ → _ → Prop) hK => ?_) | (with_reducible show drawOK _ _ = true; kernel_rfl) | (with_reducible refine gI fun hg => ?_; try simp only [hC, reduceCtorEq] at hg; try simp only [hg]) | simp (maxSteps := 2000000) (disch := omega) only [go_sem] | (with_reducible intro hg; try simp only [hC, reduceCtorEq] at hg) | (with_reducible show List.Nodup _; decide) | (with_reducible show (_ : Bool) = false; first | rfl | (simp [*]; done)) | with_reducible exact at8_le _ _ | with_reducible exact at8_ge _ _ | (simp only [hC, reduceCtorEq]; omega) | omega | with_reducible assumption | (with_reducible show (_ : Bool) = true; first | (simp [*]; done) | (simp only [hC, reduceCtorEq]; (repeat' (first | assumption | apply And.intro)); done))))
instance eqTemplate_i (L : Nat → Nat) [hL : Lok L] (x : GTemplate) : Ctr L Tryz.prog 106 [] [.agg [.str x.fName, .sl false 6 (x.fParams.map (encParam false)), .sl false 3 (x.fBody.map (encNode false))], .agg [.str x.fName, .sl false 6 (x.fParams.map (encParam false)), .sl false 3 (x.fBody.map (encNode false))]] (.v (.bool true)) [] True := by
  refine Ctr.of_body en106 Tryz.func106 rfl rfl fun hp => (?_); rw [Tryz.ntmps106]
  (repeat' (first | (with_reducible first | refine Z ?_ | refine Y ?_ | (refine hK _ _ ?_; clear hK K) | exact trivial | refine And.intro ?_ ?_) | (refine AW.i rfl (fun h => ?_) (fun h => ?_) <;> try simp only [hC, reduceCtorEq] at h) | with_reducible rfl | ((with_reducible refine E ?_); (with_reducible repeat refine Y ?_); refine eF rfl ?_) | (with_reducible refine fun (K : _ → _ → Prop) hK => ?_) | (with_reducible show drawOK _ _ = true; kernel_rfl) | (with_reducible refine gI fun hg => ?_; try simp only [hC, reduceCtorEq] at hg; try simp only [hg]) | simp (maxSteps := 2000000) (disch := omega) only [go_sem] | (with_reducible intro hg; try simp only [hC, reduceCtorEq] at hg) | (with_reducible show List.Nodup _; decide) | (with_reducible show (_ : Bool) = false; first | rfl | (simp [*]; done)) | with_reducible exact at8_le _ _ | with_reducible exact at8_ge _ _ | (simp only [hC, reduceCtorEq]; omega) | omega | with_reducible assumption | (with_reducible show (_ : Bool) = true; first | (simp [*]; done) | (simp only [hC, reduceCtorEq]; (repeat' (first | assumption | apply And.intro)); done))))
instance eqTemplateS_i (L : Nat → Nat) [hL : Lok L] (l : List GTemplate) : Ctr L Tryz.prog 48 [] [.sl false 3 (l.map (encTemplate false)), .sl false 3 (l.map (encTemplate false))] (.v (.bool true)) [] True := by
  refine Ctr.of_body en48 Tryz.func48 rfl rfl fun hp => (?_); rw [Tryz.ntmps48]
  refine AW.fact 0 fun hf => ?_
  simp (disch := omega) only [go_sem, Nat.reduceBEq] at hf
  have hf := Nat.le_trans hf (hL.le 3)
  (repeat' (first | (with_reducible first | refine Z ?_ | refine Y ?_ | (refine hK _ _ ?_; clear hK K) | exact trivial | refine And.intro ?_ ?_) | (refine AW.i rfl (fun h => ?_) (fun h => ?_) <;> try simp only [hC, reduceCtorEq] at h) | with_reducible rfl | ((with_reducible refine E ?_); (with_reducible repeat refine Y ?_); refine eF rfl ?_) | (with_reducible refine fun (K : _ → _ → Prop) hK => ?_) | (with_reducible show drawOK _ _ = true; kernel_rfl) | (with_reducible refine gI fun hg => ?_; try simp only [hC, reduceCtorEq] at hg; try simp only [hg]) | simp (maxSteps := 2000000) (disch := omega) only [go_sem] | (with_reducible intro hg; try simp only [hC, reduceCtorEq] at hg) | (with_reducible show List.Nodup _; decide) | (with_reducible show (_ : Bool) = false; first | rfl | (simp [*]; done)) | with_reducible exact at8_le _ _ | with_reducible exact at8_ge _ _ | (simp only [hC, reduceCtorEq]; omega) | omega | with_reducible assumption | (with_reducible show (_ : Bool) = true; first | (simp [*]; done) | (simp only [hC, reduceCtorEq]; (repeat' (first | assumption | apply And.intro)); done))))
  refine AW.loopV [5] [0, 1] (fun m xs o => ∃ k : Nat, xs = [.v (.int .i64 k)] ∧ o = [] ∧ m = l.length - k ∧ k ≤ l.length) l.length [] trivial ⟨0, ?_, rfl, rfl, ?_⟩ ?_
  · rfl
  · omega
  rintro m xs o ⟨k, rfl, rfl, rfl, hk⟩
  (repeat' (first | (with_reducible first | refine Z ?_ | refine Y ?_ | (refine hK _ _ ?_; clear hK K) | exact trivial | refine And.intro ?_ ?_) | (refine AW.i rfl (fun h => ?_) (fun h => ?_) <;> try simp only [hC, reduceCtorEq] at h) | with_reducible rfl | ((with_reducible refine E ?_); (with_reducible repeat refine Y ?_); refine eF rfl ?_) | (with_reducible refine fun (K : _ → _ → Prop) hK => ?_) | (with_reducible show drawOK _ _ = true; kernel_rfl) | (with_reducible refine gI fun hg => ?_; try simp only [hC, reduceCtorEq] at hg; try simp only [hg]) | simp (maxSteps := 2000000) (disch := omega) only [go_sem] | (with_reducible intro hg; try simp only [hC, reduceCtorEq] at hg) | (with_reducible show List.Nodup _; decide) | (with_reducible show (_ : Bool) = false; first | rfl | (simp [*]; done)) | with_reducible exact at8_le _ _ | with_reducible exact at8_ge _ _ | (simp only [hC, reduceCtorEq]; omega) | omega | with_reducible assumption | (with_reducible show (_ : Bool) = true; first | (simp [*]; done) | (simp only [hC, reduceCtorEq]; (repeat' (first | assumption | apply And.intro)); done))))
  exact ⟨_, [_], [], by omega, ⟨k + 1, rfl, rfl, rfl, by omega⟩, rfl, trivial⟩
instance szTemplate_i (L : Nat → Nat) [hL : Lok L] (x : GTemplate) (r : Int) : Ctr L Tryz.prog 90 [] [.agg [.str x.fName, .sl false 6 (x.fParams.map (encParam false)), .sl false 3 (x.fBody.map (encNode false))], .v (.int .i64 r)] (.v (.int .i64 (szTemplate x r))) [] (0 ≤ r ∧ r ≤ 1048576) := by
  refine Ctr.of_body en90 Tryz.func90 rfl rfl fun hp => (?_); rw [Tryz.ntmps90]
  refine AW.fact 0 fun hf => ?_
  simp (disch := omega) only [go_sem, Nat.reduceBEq] at hf
  have le1 := szSl_le szParam szParam_le x.fParams (r - x.fName.length)
  have le2 := szSl_le szNode szNode_le x.fBody (szSl szParam x.fParams (r - x.fName.length))
  unfold szTemplate
  (repeat' (first | (with_reducible first | refine Z ?_ | refine Y ?_ | (refine hK _ _ ?_; clear hK K) | exact trivial | refine And.intro ?_ ?_) | (refine AW.i rfl (fun h => ?_) (fun h => ?_) <;> try simp only [hC, reduceCtorEq] at h) | with_reducible rfl | ((with_reducible refine E ?_); (with_reducible repeat refine Y ?_); refine eF rfl ?_) | (with_reducible refine fun (K : _ → _ → Prop) hK => ?_) | (with_reducible show drawOK _ _ = true; kernel_rfl) | (with_reducible refine gI fun hg => ?_; try simp only [hC, reduceCtorEq] at hg; try simp only [hg]) | simp (maxSteps := 2000000) (disch := omega) only [go_sem] | (with_reducible intro hg; try simp only [hC, reduceCtorEq] at hg) | (with_reducible show List.Nodup _; decide) | (with_reducible show (_ : Bool) = false; first | rfl | (simp [*]; done)) | with_reducible exact at8_le _ _ | with_reducible exact at8_ge _ _ | (simp only [hC, reduceCtorEq]; omega) | omega | with_reducible assumption | (with_reducible show (_ : Bool) = true; first | (simp [*]; done) | (simp only [hC, reduceCtorEq]; (repeat' (first | assumption | apply And.intro)); done))))
  all_goals simp only [thn, szStr, id]
  all_goals refine congrArg (fun z => AV.v (.int .i64 z)) ?_
  all_goals (repeat' split)
  all_goals omega
instance szTemplateS_i (L : Nat → Nat) [hL : Lok L] (l : List GTemplate) (r : Int) : Ctr L Tryz.prog 36 [] [.sl false 3 (l.map (encTemplate false)), .v (.int .i64 r)] (.v (.int .i64 (szSl szTemplate l r))) [] (0 ≤ r ∧ r ≤ 1048576) := by
  refine Ctr.of_body en36 Tryz.func36 rfl rfl fun hp => (?_); rw [Tryz.ntmps36]
  refine AW.fact 0 fun hf => ?_
  simp (disch := omega) only [go_sem, Nat.reduceBEq] at hf
  have hf := Nat.le_trans hf (hL.le 3)
  (repeat' (first | (with_reducible first | refine Z ?_ | refine Y ?_ | (refine hK _ _ ?_; clear hK K) | exact trivial | refine And.intro ?_ ?_) | (refine AW.i rfl (fun h => ?_) (fun h => ?_) <;> try simp only [hC, reduceCtorEq] at h) | with_reducible rfl | ((with_reducible refine E ?_); (with_reducible repeat refine Y ?_); refine eF rfl ?_) | (with_reducible refine fun (K : _ → _ → Prop) hK => ?_) | (with_reducible show drawOK _ _ = true; kernel_rfl) | (with_reducible refine gI fun hg => ?_; try simp only [hC, reduceCtorEq] at hg; try simp only [hg]) | simp (maxSteps := 2000000) (disch := omega) only [go_sem] | (with_reducible intro hg; try simp only [hC, reduceCtorEq] at hg) | (with_reducible show List.Nodup _; decide) | (with_reducible show (_ : Bool) = false; first | rfl | (simp [*]; done)) | with_reducible exact at8_le _ _ | with_reducible exact at8_ge _ _ | (simp only [hC, reduceCtorEq]; omega) | omega | with_reducible assumption | (with_reducible show (_ : Bool) = true; first | (simp [*]; done) | (simp only [hC, reduceCtorEq]; (repeat' (first | assumption | apply And.intro)); done))))
  · rw [szSl_neg h]
  rw [szSl_pos h]
  refine AW.loopV [1, 5] [0] (fun m xs o => ∃ (k : Nat) (q : Int), xs = [.v (.int .i64 q), .v (.int .i64 k)] ∧ o = [] ∧ m = l.length - k ∧ k ≤ l.length ∧ 0 ≤ q ∧ q ≤ 1048576 ∧ szGo szTemplate (l.drop k) q = szGo szTemplate l (r - l.length)) l.length [] trivial ⟨0, _, ?_, rfl, rfl, ?_, ?_, ?_, rfl⟩ ?_
  · rfl
  · omega
  · omega
  · omega
  rintro m xs o ⟨k, q, rfl, rfl, rfl, hk, h0, h1, hR⟩
  have hle := szTemplate_le (at_ l k) q h0
  (repeat' (first | (with_reducible first | refine Z ?_ | refine Y ?_ | (refine hK _ _ ?_; clear hK K) | exact trivial | refine And.intro ?_ ?_) | (refine AW.i rfl (fun h => ?_) (fun h => ?_) <;> try simp only [hC, reduceCtorEq] at h) | with_reducible rfl | ((with_reducible refine E ?_); (with_reducible repeat refine Y ?_); refine eF rfl ?_) | (with_reducible refine fun (K : _ → _ → Prop) hK => ?_) | (with_reducible show drawOK _ _ = true; kernel_rfl) | (with_reducible refine gI fun hg => ?_; try simp only [hC, reduceCtorEq] at hg; try simp only [hg]) | simp (maxSteps := 2000000) (disch := omega) only [go_sem] | (with_reducible intro hg; try simp only [hC, reduceCtorEq] at hg) | (with_reducible show List.Nodup _; decide) | (with_reducible show (_ : Bool) = false; first | rfl | (simp [*]; done)) | with_reducible exact at8_le _ _ | with_reducible exact at8_ge _ _ | (simp only [hC, reduceCtorEq]; omega) | omega | with_reducible assumption | (with_reducible show (_ : Bool) = true; first | (simp [*]; done) | (simp only [hC, reduceCtorEq]; (repeat' (first | assumption | apply And.intro)); done))))
  · rw [szGo_at (by assumption), if_pos (by first | exact h | (rw [hsz]; exact h))] at hR; rw [hR]
  · rw [szGo_at (by assumption), if_neg (by omega)] at hR
    exact ⟨_, [_, _], [], by omega, ⟨k + 1, _, rfl, rfl, rfl, by omega, by omega, by omega, hR⟩, rfl, trivial⟩
  · rw [szGo_end h] at hR; rw [hR]
instance toTemplate_i (x : GTemplate) : Ctr lim Tryz.prog 97 [] [.agg [.str x.fName, .sl false 6 (x.fParams.map (encParam false)), .sl false 3 (x.fBody.map (encNode false))]] (.agg [.str x.fName, .sl true 6 (x.fParams.map (encParam true)), .sl true 3 (x.fBody.map (encNode true))]) [] True := by
  refine Ctr.of_body en97 Tryz.func97 rfl rfl fun hp => (?_); rw [Tryz.ntmps97]
  (repeat' (first | (with_reducible first | refine Z ?_ | refine Y ?_ | (refine hK _ _ ?_; clear hK K) | exact trivial | refine And.intro ?_ ?_) | (refine AW.i rfl (fun h => ?_) (fun h => ?_) <;> try simp only [hC, reduceCtorEq] at h) | with_reducible rfl | ((with_reducible refine E ?_); (with_reducible repeat refine Y ?_); refine eF rfl ?_) | (with_reducible refine fun (K : _ → _ → Prop) hK => ?_) | (with_reducible show drawOK _ _ = true; kernel_rfl) | (with_reducible refine gI fun hg => ?_; try simp only [hC, reduceCtorEq] at hg; try simp only [hg]) | simp (maxSteps := 2000000) (disch := omega) only [go_sem] | (with_reducible intro hg; try simp only [hC, reduceCtorEq] at hg) | (with_reducible show List.Nodup _; decide) | (with_reducible show (_ : Bool) = false; first | rfl | (simp [*]; done)) | with_reducible exact at8_le _ _ | with_reducible exact at8_ge _ _ | (simp only [hC, reduceCtorEq]; omega) | omega | with_reducible assumption | (with_reducible show (_ : Bool) = true; first | (simp [*]; done) | (simp only [hC, reduceCtorEq]; (repeat' (first | assumption | apply And.intro)); done))))
instance toTemplateS_i (l : List GTemplate) : Ctr lim Tryz.prog 41 [] [.sl false 3 (l.map (encTemplate false))] (.sl true 3 (l.map (encTemplate true))) [] True := by
  refine Ctr.of_body en41 Tryz.func41 rfl rfl fun hp => (?_); rw [Tryz.ntmps41]
  refine AW.fact 0 fun hf => ?_
  simp (disch := omega) only [go_sem, Nat.reduceBEq] at hf
  (repeat' (first | (with_reducible first | refine Z ?_ | refine Y ?_ | (refine hK _ _ ?_; clear hK K) | exact trivial | refine And.intro ?_ ?_) | (refine AW.i rfl (fun h => ?_) (fun h => ?_) <;> try simp only [hC, reduceCtorEq] at h) | with_reducible rfl | ((with_reducible refine E ?_); (with_reducible repeat refine Y ?_); refine eF rfl ?_) | (with_reducible refine fun (K : _ → _ → Prop) hK => ?_) | (with_reducible show drawOK _ _ = true; kernel_rfl) | (with_reducible refine gI fun hg => ?_; try simp only [hC, reduceCtorEq] at hg; try simp only [hg]) | simp (maxSteps := 2000000) (disch := omega) only [go_sem] | (with_reducible intro hg; try simp only [hC, reduceCtorEq] at hg) | (with_reducible show List.Nodup _; decide) | (with_reducible show (_ : Bool) = false; first | rfl | (simp [*]; done)) | with_reducible exact at8_le _ _ | with_reducible exact at8_ge _ _ | (simp only [hC, reduceCtorEq]; omega) | omega | with_reducible assumption | (with_reducible show (_ : Bool) = true; first | (simp [*]; done) | (simp only [hC, reduceCtorEq]; (repeat' (first | assumption | apply And.intro)); done))))
  refine AW.loopV [4] [0, 3] (fun m xs o => ∃ k : Nat, xs = [.v (.int .i64 k)] ∧ o = [(hg, some (mkC (encTemplate true) [.string ⟨#[]⟩, .slice none 0 0, .slice none 0 0] l k))] ∧ m = l.length - k ∧ k ≤ l.length) l.length [(hg, some (mkC (encTemplate true) [.string ⟨#[]⟩, .slice none 0 0, .slice none 0 0] l 0))] (subO_one (mkC_zero _ _ _)) ⟨0, ?_, rfl, rfl, ?_⟩ ?_
  · rfl
  · omega
  rintro m xs o ⟨k, rfl, rfl, rfl, hk⟩
  have hml := mkC_len (encTemplate true) [.string ⟨#[]⟩, .slice none 0 0, .slice none 0 0] 3 (fun _ => rfl) rfl l k hk
  (repeat' (first | (with_reducible first | refine Z ?_ | refine Y ?_ | (refine hK _ _ ?_; clear hK K) | exact trivial | refine And.intro ?_ ?_) | (refine AW.i rfl (fun h => ?_) (fun h => ?_) <;> try simp only [hC, reduceCtorEq] at h) | with_reducible rfl | (with_reducible refine fun (K : _ → _ → Prop) hK => ?_) | (with_reducible show drawOK _ _ = true; kernel_rfl) | (with_reducible refine gI fun hg => ?_; try simp only [hC, reduceCtorEq] at hg; try simp only [hg]) | simp (maxSteps := 2000000) (disch := omega) only [go_sem] | (with_reducible intro hg; try simp only [hC, reduceCtorEq] at hg) | (with_reducible show List.Nodup _; decide) | (with_reducible show (_ : Bool) = false; first | rfl | (simp [*]; done)) | with_reducible exact at8_le _ _ | with_reducible exact at8_ge _ _ | (simp only [hC, reduceCtorEq]; omega) | omega | with_reducible assumption | (with_reducible show (_ : Bool) = true; first | (simp [*]; done) | (simp only [hC, reduceCtorEq]; (repeat' (first | assumption | apply And.intro)); done))))
  · exact ⟨_, [_], _, by omega, ⟨k + 1, rfl, rfl, rfl, by omega⟩, rfl, subO_one (by have := mkC_at (encTemplate true) [.string ⟨#[]⟩, .slice none 0 0, .slice none 0 0] 3 (fun _ => rfl) rfl l k h; simp only [go_sem, Nat.mul_one] at this ⊢; exact this.symm)⟩
  · refine AW.made 2 rfl h hk (fun _ => rfl) ?_
    (repeat' (first | (with_reducible first | refine Z ?_ | refine Y ?_ | (refine hK _ _ ?_; clear hK K) | exact trivial | refine And.intro ?_ ?_) | (refine AW.i rfl (fun h => ?_) (fun h => ?_) <;> try simp only [hC, reduceCtorEq] at h) | with_reducible rfl | ((with_reducible refine E ?_); (with_reducible repeat refine Y ?_); refine eF rfl ?_) | (with_reducible refine fun (K : _ → _ → Prop) hK => ?_) | (with_reducible show drawOK _ _ = true; kernel_rfl) | (with_reducible refine gI fun hg => ?_; try simp only [hC, reduceCtorEq] at hg; try simp only [hg]) | simp (maxSteps := 2000000) (disch := omega) only [go_sem] | (with_reducible intro hg; try simp only [hC, reduceCtorEq] at hg) | (with_reducible show List.Nodup _; decide) | (with_reducible show (_ : Bool) = false; first | rfl | (simp [*]; done)) | with_reducible exact at8_le _ _ | with_reducible exact at8_ge _ _ | (simp only [hC, reduceCtorEq]; omega) | omega | with_reducible assumption | (with_reducible show (_ : Bool) = true; first | (simp [*]; done) | (simp only [hC, reduceCtorEq]; (repeat' (first | assumption | apply And.intro)); done))))
end Go.Proofs.YtkdchlggdcmkbaaGreat
namespace Go.Ab
theorem CallP.low {L : Nat → Nat} {P : Program} {os : Sto} {la : List AV} {G : Bool} {f : FuncId} {args : List AV} {K : AV → Prop} {res : AV} {cs : List (Option (List AV))} {pre : Prop} [h : Ctr L P f [] la res cs pre] (hl : LowL os args la) (hc : res.closed = true) (hp : G = true → pre) (hK : K res) : CallP L P os la G f args (K := ⟨K⟩) :=
  ⟨res, fun hg => ⟨h.en, .inr ⟨la, hl, hc, h.pure (hp hg)⟩⟩, hK⟩
end Go.Ab
namespace Go.Proofs.YtkdchlggdcmkbaaGreat
open Go.Ab Go.Dt
set_option maxRecDepth 20000
set_option maxHeartbeats 4000000
attribute [go_sem] encParamM_frz encNodeM_frz
instance iIsType_i (x : GType) : Ctr lim Tryz.prog 98 [] [.agg [.v (.int .i64 x.fKind), .sl false 2 (x.fRanges.map (encRange false)), .sl false 1 (x.fNames.map AV.str), .str x.fPattern, .str x.fPath]] (.v (.bool (isType isPat x))) [] True := iIsType_t isPat x
instance sIsType_i (x : GType) : Ctr lim Tryz.prog 92 [] [.agg [.v (.int .i64 x.fKind), .sl false 2 (x.fRanges.map (encRange false)), .sl false 1 (x.fNames.map AV.str), .str x.fPattern, .str x.fPath]] (.v (.bool (isType isPat x))) [] True := sIsType_t isPat x
instance iIsTemplate_i (x : GTemplate) : Ctr lim Tryz.prog 43 [] [.agg [.str x.fName, .sl false 6 (x.fParams.map (encParam false)), .sl false 3 (x.fBody.map (encNode false))]] (.v (.bool (isTemplate isPat x))) [] (wt x.fBody ≤ 1048576 ∧ x.fParams.length ≤ 1048576) := iIsTemplate_t isPat x
instance sIsTemplate_i (x : GTemplate) : Ctr lim Tryz.prog 38 [] [.agg [.str x.fName, .sl false 6 (x.fParams.map (encParam false)), .sl false 3 (x.fBody.map (encNode false))]] (.v (.bool (isTemplate isPat x))) [] (wt x.fBody ≤ 1048576 ∧ x.fParams.length ≤ 1048576) := sIsTemplate_t isPat x

end Go.Proofs.YtkdchlggdcmkbaaGreat
