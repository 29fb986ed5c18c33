/-
  Part of a proof: Opn2, Fa1, Fam5, Fam6, La8.
-/
import Derived.Test.YtkdchlggdcmkbaaG1
import Derived.Test.YtkdchlggdcmkbaaG4
import Derived.Test.YtkdchlggdcmkbaaG5
import Derived.Test.YtkdchlggdcmkbaaG7
import Derived.Test.YtkdchlggdcmkbaaG14
import Derived.Test.YtkdchlggdcmkbaaG15
import Derived.Test.YtkdchlggdcmkbaaG16
set_option linter.unusedSimpArgs false
set_option linter.unusedVariables false
namespace Go.Proofs.Ytkdchlggdcmkbaa
open Go.Ab Go.Dt
variable {H : Type} {enc : TypeId × Value → H} {W : World}
theorem hreach (z : Nat) : reachBytes ≤ rawL z := by
  have := reachBytes_lt
  unfold rawL; omega

def celRange (x : Dt.GRange) : List AV := [.v (.int .i64 x.fLo), .v (.int .i64 x.fHi)]
theorem pkRange {L : Nat → Nat} : Packs L W celRange (encRange false) 2 := by
  have : encRange false = fun x => .agg (celRange x) := by funext x; simp only [go_sem, celRange]
  rw [this]; exact Packs.agg fun _ => rfl
theorem opRange (n : Nat) : Opens enc Try.prog W rawL n 249 celRange (fun _ => True) := by
  refine Opens.mono (n := n + 1 + 1) ?_ (by omega)
  exact Opens.struct (P := Try.prog) (t := 249) (fl := [(3, 0, 1), (3, 1, 1)]) (tot := 2) (by kernel_rfl)
      (OpensFs.cons (Opens.int (k := .i64) (by kernel_rfl)) (OpensFs.cons (Opens.int (k := .i64) (by kernel_rfl)) OpensFs.nil))
      (fun p => ⟨p.1, p.2.1⟩) (fun p _ => ⟨trivial, rfl⟩)
theorem fitRange (x : Dt.GRange) (r : Int) (h0 : 0 ≤ r) (h1 : r ≤ 1048576) (h : 0 ≤ szRange x r) : (encRange false x).fits lim := by
  simp only [encRange, AV.fits, AV.fitsL]
  exact ⟨trivial, trivial, trivial⟩
def celType (x : Dt.GType) : List AV := [.v (.int .i64 x.fKind), .sl false 2 (x.fRanges.map (encRange false)), .sl false 1 (x.fNames.map AV.str), .str x.fPattern, .str x.fPath]
theorem pkType {L : Nat → Nat} : Packs L W celType (encType false) 5 := by
  have : encType false = fun x => .agg (celType x) := by funext x; simp only [go_sem, celType]
  rw [this]; exact Packs.agg fun _ => rfl
theorem opType (n : Nat) : Opens enc Try.prog W rawL n 178 celType (fun _ => True) := by
  refine Opens.mono (n := n + 1 + 1) ?_ (by omega)
  exact Opens.struct (P := Try.prog) (t := 178) (fl := [(3, 0, 1), (176, 1, 1), (22, 2, 1), (9, 3, 1), (9, 4, 1)]) (tot := 5) (by kernel_rfl)
      (OpensFs.cons (Opens.int (k := .i64) (by kernel_rfl)) (OpensFs.cons (Opens.slice (e := 249) (bytes := 16) (by kernel_rfl) (by decide) (by decide) (hreach _) pkRange (opRange n)) (OpensFs.cons (Opens.slice (e := 9) (bytes := 16) (by kernel_rfl) (by decide) (by decide) (hreach _) Packs.str (Opens.str (by kernel_rfl))) (OpensFs.cons (Opens.str (by kernel_rfl)) (OpensFs.cons (Opens.str (by kernel_rfl)) OpensFs.nil)))))
      (fun p => ⟨p.1, p.2.1, p.2.2.1, p.2.2.2.1, p.2.2.2.2.1⟩) (fun p _ => ⟨trivial, rfl⟩)
theorem fitType (x : Dt.GType) (r : Int) (h0 : 0 ≤ r) (h1 : r ≤ 1048576) (h : 0 ≤ szType x r) : (encType false x).fits lim := by
  unfold szType at h
  obtain ⟨a0, h⟩ := thn_get h
  have l0 := szSl_le szRange szRange_le x.fRanges r h0
  obtain ⟨a1, h⟩ := thn_get h
  have l1 := szSl_le szStr szStr_le x.fNames (szSl szRange x.fRanges r) a0
  obtain ⟨a2, h⟩ := thn_get h
  have l2 := szStr_le x.fPattern (szSl szStr x.fNames (szSl szRange x.fRanges r)) a1
  obtain ⟨a3, h⟩ := thn_get h
  have l3 := szStr_le x.fPath (szStr x.fPattern (szSl szStr x.fNames (szSl szRange x.fRanges r))) a2
  have z0 : (AV.sl false 2 (x.fRanges.map (encRange false))).fits lim := fits_sl (f := szRange) szRange_le x.fRanges r h0 (by omega) a0 (fun y hy r' p q s => fitRange y r' p q s)
  have z1 : (AV.sl false 1 (x.fNames.map AV.str)).fits lim := fits_sl (f := szStr) szStr_le x.fNames (szSl szRange x.fRanges r) a0 (by omega) a1 (fun _ _ _ _ _ _ => trivial)
  simp only [AV.fits, AV.fitsL] at z0 z1
  simp only [encType, AV.fits, AV.fitsL]
  exact ⟨trivial, z0, z1, trivial, trivial, trivial⟩
def celTest (x : Dt.GTest) : List AV := [.str x.fName, .str x.fValue]
theorem pkTest {L : Nat → Nat} : Packs L W celTest (encTest false) 2 := by
  have : encTest false = fun x => .agg (celTest x) := by funext x; simp only [go_sem, celTest]
  rw [this]; exact Packs.agg fun _ => rfl
theorem opTest (n : Nat) : Opens enc Try.prog W rawL n 289 celTest (fun _ => True) := by
  refine Opens.mono (n := n + 1 + 1) ?_ (by omega)
  exact Opens.struct (P := Try.prog) (t := 289) (fl := [(9, 0, 1), (9, 1, 1)]) (tot := 2) (by kernel_rfl)
      (OpensFs.cons (Opens.str (by kernel_rfl)) (OpensFs.cons (Opens.str (by kernel_rfl)) OpensFs.nil))
      (fun p => ⟨p.1, p.2.1⟩) (fun p _ => ⟨trivial, rfl⟩)
theorem fitTest (x : Dt.GTest) (r : Int) (h0 : 0 ≤ r) (h1 : r ≤ 1048576) (h : 0 ≤ szTest x r) : (encTest false x).fits lim := by
  unfold szTest at h
  obtain ⟨a0, h⟩ := thn_get h
  have l0 := szStr_le x.fName r h0
  obtain ⟨a1, h⟩ := thn_get h
  have l1 := szStr_le x.fValue (szStr x.fName r) a0
  simp only [encTest, AV.fits, AV.fitsL]
  exact ⟨trivial, trivial, trivial⟩
def celStep (x : Dt.GStep) : List AV := [.str x.fName, .sl false 2 (x.fTests.map (encTest false))]
theorem pkStep {L : Nat → Nat} : Packs L W celStep (encStep false) 2 := by
  have : encStep false = fun x => .agg (celStep x) := by funext x; simp only [go_sem, celStep]
  rw [this]; exact Packs.agg fun _ => rfl
theorem opStep (n : Nat) : Opens enc Try.prog W rawL n 279 celStep (fun _ => True) := by
  refine Opens.mono (n := n + 1 + 1) ?_ (by omega)
  exact Opens.struct (P := Try.prog) (t := 279) (fl := [(9, 0, 1), (277, 1, 1)]) (tot := 2) (by kernel_rfl)
      (OpensFs.cons (Opens.str (by kernel_rfl)) (OpensFs.cons (Opens.slice (e := 289) (bytes := 32) (by kernel_rfl) (by decide) (by decide) (hreach _) pkTest (opTest n)) OpensFs.nil))
      (fun p => ⟨p.1, p.2.1⟩) (fun p _ => ⟨trivial, rfl⟩)
theorem fitStep (x : Dt.GStep) (r : Int) (h0 : 0 ≤ r) (h1 : r ≤ 1048576) (h : 0 ≤ szStep x r) : (encStep false x).fits lim := by
  unfold szStep at h
  obtain ⟨a0, h⟩ := thn_get h
  have l0 := szStr_le x.fName r h0
  obtain ⟨a1, h⟩ := thn_get h
  have l1 := szSl_le szTest szTest_le x.fTests (szStr x.fName r) a0
  have z1 : (AV.sl false 2 (x.fTests.map (encTest false))).fits lim := fits_sl (f := szTest) szTest_le x.fTests (szStr x.fName r) a0 (by omega) a1 (fun y hy r' p q s => fitTest y r' p q s)
  simp only [AV.fits, AV.fitsL] at z1
  simp only [encStep, AV.fits, AV.fitsL]
  exact ⟨trivial, z1, trivial⟩
def celPath (x : Dt.GPath) : List AV := [.v (.bool x.fRoot), .v (.int .i64 x.fUps), .sl false 2 (x.fSteps.map (encStep false))]
theorem pkPath {L : Nat → Nat} : Packs L W celPath (encPath false) 3 := by
  have : encPath false = fun x => .agg (celPath x) := by funext x; simp only [go_sem, celPath]
  rw [this]; exact Packs.agg fun _ => rfl
theorem opPath (n : Nat) : Opens enc Try.prog W rawL n 254 celPath (fun _ => True) := by
  refine Opens.mono (n := n + 1 + 1) ?_ (by omega)
  exact Opens.struct (P := Try.prog) (t := 254) (fl := [(4, 0, 1), (3, 1, 1), (252, 2, 1)]) (tot := 3) (by kernel_rfl)
      (OpensFs.cons (Opens.bool (by kernel_rfl)) (OpensFs.cons (Opens.int (k := .i64) (by kernel_rfl)) (OpensFs.cons (Opens.slice (e := 279) (bytes := 40) (by kernel_rfl) (by decide) (by decide) (hreach _) pkStep (opStep n)) OpensFs.nil)))
      (fun p => ⟨p.1, p.2.1, p.2.2.1⟩) (fun p _ => ⟨trivial, rfl⟩)
theorem fitPath (x : Dt.GPath) (r : Int) (h0 : 0 ≤ r) (h1 : r ≤ 1048576) (h : 0 ≤ szPath x r) : (encPath false x).fits lim := by
  unfold szPath at h
  obtain ⟨a0, h⟩ := thn_get h
  have l0 := szSl_le szStep szStep_le x.fSteps r h0
  have z0 : (AV.sl false 2 (x.fSteps.map (encStep false))).fits lim := fits_sl (f := szStep) szStep_le x.fSteps r h0 (by omega) a0 (fun y hy r' p q s => fitStep y r' p q s)
  simp only [AV.fits, AV.fitsL] at z0
  simp only [encPath, AV.fits, AV.fitsL]
  exact ⟨trivial, trivial, z0, trivial⟩
def celExpr (x : Dt.GExpr) : List AV := [.v (.int .i64 x.fOp), .v (.int .i64 x.fNum), .str x.fText, .v (.bool x.fPath.fRoot), .v (.int .i64 x.fPath.fUps), .sl false 2 (x.fPath.fSteps.map (encStep false)), .sl false 7 (x.fKids.map (encExpr false))]
theorem pkExpr {L : Nat → Nat} : Packs L W celExpr (encExpr false) 7 := by
  have : encExpr false = fun x => .agg (celExpr x) := by funext x; simp only [go_sem, celExpr]
  rw [this]; exact Packs.agg fun _ => rfl
theorem opExpr (n : Nat) : Opens enc Try.prog W rawL n 256 celExpr (fun _ => True) := by
  induction n with
  | zero => exact Opens.zero
  | succ n ih =>
    refine Opens.mono (n := n + 1 + 1) ?_ (by omega)
    exact Opens.struct (P := Try.prog) (t := 256) (fl := [(3, 0, 1), (3, 1, 1), (9, 2, 1), (254, 3, 3), (218, 6, 1)]) (tot := 7) (by kernel_rfl)
      (OpensFs.cons (Opens.int (k := .i64) (by kernel_rfl)) (OpensFs.cons (Opens.int (k := .i64) (by kernel_rfl)) (OpensFs.cons (Opens.str (by kernel_rfl)) (OpensFs.cons (opPath _) (OpensFs.cons (Opens.slice (e := 256) (bytes := 96) (by kernel_rfl) (by decide) (by decide) (hreach _) pkExpr ih) OpensFs.nil)))))
      (fun p => .mk p.1 p.2.1 p.2.2.1 p.2.2.2.1 p.2.2.2.2.1) (fun p _ => ⟨trivial, rfl⟩)
theorem fitExpr (x : Dt.GExpr) (r : Int) (h0 : 0 ≤ r) (h1 : r ≤ 1048576) (h : 0 ≤ szExpr x r) : (encExpr false x).fits lim := by
  induction hs : SizeOf.sizeOf x using Nat.strongRecOn generalizing x r with
  | _ n ih =>
    rw [szExpr_eq] at h
    obtain ⟨a0, h⟩ := thn_get h
    have l0 := szStr_le x.fText r h0
    obtain ⟨a1, h⟩ := thn_get h
    have l1 := szPath_le x.fPath (szStr x.fText r) a0
    obtain ⟨a2, h⟩ := thn_get h
    have l2 := szSl_le szExpr szExpr_le x.fKids (szPath x.fPath (szStr x.fText r)) a1
    have z1 := fitPath x.fPath (szStr x.fText r) a0 (by omega) a1
    have z2 : (AV.sl false 7 (x.fKids.map (encExpr false))).fits lim := fits_sl (f := szExpr) szExpr_le x.fKids (szPath x.fPath (szStr x.fText r)) a1 (by omega) a2 (fun y hy r' p q s => ih (SizeOf.sizeOf y) (by have := List.sizeOf_lt_of_mem hy; cases x; simp [Dt.GExpr.fKids] at *; omega) y r' p q s rfl)
    simp only [encPath, AV.fits, AV.fitsL] at z1 z2
    simp only [encExpr_eq, AV.fits, AV.fitsL]
    exact ⟨trivial, trivial, trivial, z1.1, z1.2.1, z1.2.2.1, z2, trivial⟩
def celSchema (x : Dt.GSchema) : List AV := [.v (.int .i64 x.fKind), .str x.fName, .v (.int .i64 x.fType.fKind), .sl false 2 (x.fType.fRanges.map (encRange false)), .sl false 1 (x.fType.fNames.map AV.str), .str x.fType.fPattern, .str x.fType.fPath, .sl false 1 (x.fKeys.map AV.str), .sl false 1 (x.fUnique.map AV.str), .str x.fDefault, .v (.bool x.fGiven), .v (.bool x.fNeeded), .v (.bool x.fPresent), .v (.bool x.fFixed), .v (.int .i64 x.fMin), .v (.int .i64 x.fMax), .sl false 7 (x.fWhen.map (encExpr false)), .sl false 7 (x.fMust.map (encExpr false)), .sl false 19 (x.fKids.map (encSchema false))]
theorem pkSchema {L : Nat → Nat} : Packs L W celSchema (encSchema false) 19 := by
  have : encSchema false = fun x => .agg (celSchema x) := by funext x; simp only [go_sem, celSchema]
  rw [this]; exact Packs.agg fun _ => rfl
theorem opSchema (n : Nat) : Opens enc Try.prog W rawL n 220 celSchema (fun _ => True) := by
  induction n with
  | zero => exact Opens.zero
  | succ n ih =>
    refine Opens.mono (n := n + 1 + 1) ?_ (by omega)
    exact Opens.struct (P := Try.prog) (t := 220) (fl := [(3, 0, 1), (9, 1, 1), (178, 2, 5), (22, 7, 1), (22, 8, 1), (9, 9, 1), (4, 10, 1), (4, 11, 1), (4, 12, 1), (4, 13, 1), (3, 14, 1), (3, 15, 1), (218, 16, 1), (218, 17, 1), (102, 18, 1)]) (tot := 19) (by kernel_rfl)
      (OpensFs.cons (Opens.int (k := .i64) (by kernel_rfl)) (OpensFs.cons (Opens.str (by kernel_rfl)) (OpensFs.cons (opType _) (OpensFs.cons (Opens.slice (e := 9) (bytes := 16) (by kernel_rfl) (by decide) (by decide) (hreach _) Packs.str (Opens.str (by kernel_rfl))) (OpensFs.cons (Opens.slice (e := 9) (bytes := 16) (by kernel_rfl) (by decide) (by decide) (hreach _) Packs.str (Opens.str (by kernel_rfl))) (OpensFs.cons (Opens.str (by kernel_rfl)) (OpensFs.cons (Opens.bool (by kernel_rfl)) (OpensFs.cons (Opens.bool (by kernel_rfl)) (OpensFs.cons (Opens.bool (by kernel_rfl)) (OpensFs.cons (Opens.bool (by kernel_rfl)) (OpensFs.cons (Opens.int (k := .i64) (by kernel_rfl)) (OpensFs.cons (Opens.int (k := .i64) (by kernel_rfl)) (OpensFs.cons (Opens.slice (e := 256) (bytes := 96) (by kernel_rfl) (by decide) (by decide) (hreach _) pkExpr (opExpr n)) (OpensFs.cons (Opens.slice (e := 256) (bytes := 96) (by kernel_rfl) (by decide) (by decide) (hreach _) pkExpr (opExpr n)) (OpensFs.cons (Opens.slice (e := 220) (bytes := 272) (by kernel_rfl) (by decide) (by decide) (hreach _) pkSchema ih) OpensFs.nil)))))))))))))))
      (fun p => .mk p.1 p.2.1 p.2.2.1 p.2.2.2.1 p.2.2.2.2.1 p.2.2.2.2.2.1 p.2.2.2.2.2.2.1 p.2.2.2.2.2.2.2.1 p.2.2.2.2.2.2.2.2.1 p.2.2.2.2.2.2.2.2.2.1 p.2.2.2.2.2.2.2.2.2.2.1 p.2.2.2.2.2.2.2.2.2.2.2.1 p.2.2.2.2.2.2.2.2.2.2.2.2.1 p.2.2.2.2.2.2.2.2.2.2.2.2.2.1 p.2.2.2.2.2.2.2.2.2.2.2.2.2.2.1) (fun p _ => ⟨trivial, rfl⟩)
theorem fitSchema (x : Dt.GSchema) (r : Int) (h0 : 0 ≤ r) (h1 : r ≤ 1048576) (h : 0 ≤ szSchema x r) : (encSchema false x).fits lim := by
  induction hs : SizeOf.sizeOf x using Nat.strongRecOn generalizing x r with
  | _ n ih =>
    rw [szSchema_eq] at h
    obtain ⟨a0, h⟩ := thn_get h
    have l0 := szStr_le x.fName r h0
    obtain ⟨a1, h⟩ := thn_get h
    have l1 := szType_le x.fType (szStr x.fName r) a0
    obtain ⟨a2, h⟩ := thn_get h
    have l2 := szSl_le szStr szStr_le x.fKeys (szType x.fType (szStr x.fName r)) a1
    obtain ⟨a3, h⟩ := thn_get h
    have l3 := szSl_le szStr szStr_le x.fUnique (szSl szStr x.fKeys (szType x.fType (szStr x.fName r))) a2
    obtain ⟨a4, h⟩ := thn_get h
    have l4 := szStr_le x.fDefault (szSl szStr x.fUnique (szSl szStr x.fKeys (szType x.fType (szStr x.fName r)))) a3
    obtain ⟨a5, h⟩ := thn_get h
    have l5 := szSl_le szExpr szExpr_le x.fWhen (szStr x.fDefault (szSl szStr x.fUnique (szSl szStr x.fKeys (szType x.fType (szStr x.fName r))))) a4
    obtain ⟨a6, h⟩ := thn_get h
    have l6 := szSl_le szExpr szExpr_le x.fMust (szSl szExpr x.fWhen (szStr x.fDefault (szSl szStr x.fUnique (szSl szStr x.fKeys (szType x.fType (szStr x.fName r)))))) a5
    obtain ⟨a7, h⟩ := thn_get h
    have l7 := szSl_le szSchema szSchema_le x.fKids (szSl szExpr x.fMust (szSl szExpr x.fWhen (szStr x.fDefault (szSl szStr x.fUnique (szSl szStr x.fKeys (szType x.fType (szStr x.fName r))))))) a6
    have z1 := fitType x.fType (szStr x.fName r) a0 (by omega) a1
    have z2 : (AV.sl false 1 (x.fKeys.map AV.str)).fits lim := fits_sl (f := szStr) szStr_le x.fKeys (szType x.fType (szStr x.fName r)) a1 (by omega) a2 (fun _ _ _ _ _ _ => trivial)
    have z3 : (AV.sl false 1 (x.fUnique.map AV.str)).fits lim := fits_sl (f := szStr) szStr_le x.fUnique (szSl szStr x.fKeys (szType x.fType (szStr x.fName r))) a2 (by omega) a3 (fun _ _ _ _ _ _ => trivial)
    have z5 : (AV.sl false 7 (x.fWhen.map (encExpr false))).fits lim := fits_sl (f := szExpr) szExpr_le x.fWhen (szStr x.fDefault (szSl szStr x.fUnique (szSl szStr x.fKeys (szType x.fType (szStr x.fName r))))) a4 (by omega) a5 (fun y hy r' p q s => fitExpr y r' p q s)
    have z6 : (AV.sl false 7 (x.fMust.map (encExpr false))).fits lim := fits_sl (f := szExpr) szExpr_le x.fMust (szSl szExpr x.fWhen (szStr x.fDefault (szSl szStr x.fUnique (szSl szStr x.fKeys (szType x.fType (szStr x.fName r)))))) a5 (by omega) a6 (fun y hy r' p q s => fitExpr y r' p q s)
    have z7 : (AV.sl false 19 (x.fKids.map (encSchema false))).fits lim := fits_sl (f := szSchema) szSchema_le x.fKids (szSl szExpr x.fMust (szSl szExpr x.fWhen (szStr x.fDefault (szSl szStr x.fUnique (szSl szStr x.fKeys (szType x.fType (szStr x.fName r))))))) a6 (by omega) a7 (fun y hy r' p q s => ih (SizeOf.sizeOf y) (by have := List.sizeOf_lt_of_mem hy; cases x; simp [Dt.GSchema.fKids] at *; omega) y r' p q s rfl)
    simp only [encType, AV.fits, AV.fitsL] at z1 z2 z3 z5 z6 z7
    simp only [encSchema_eq, AV.fits, AV.fitsL]
    exact ⟨trivial, trivial, z1.1, z1.2.1, z1.2.2.1, z1.2.2.2.1, z1.2.2.2.2.1, z2, z3, trivial, trivial, trivial, trivial, trivial, trivial, trivial, z5, z6, z7, trivial⟩
def celNode (x : Dt.GNode) : List AV := [.str x.fName, .str x.fValue, .sl false 3 (x.fKids.map (encNode false))]
theorem pkNode {L : Nat → Nat} : Packs L W celNode (encNode false) 3 := by
  have : encNode false = fun x => .agg (celNode x) := by funext x; simp only [go_sem, celNode]
  rw [this]; exact Packs.agg fun _ => rfl
theorem opNode (n : Nat) : Opens enc Try.prog W rawL n 183 celNode (fun _ => True) := by
  induction n with
  | zero => exact Opens.zero
  | succ n ih =>
    refine Opens.mono (n := n + 1 + 1) ?_ (by omega)
    exact Opens.struct (P := Try.prog) (t := 183) (fl := [(9, 0, 1), (9, 1, 1), (70, 2, 1)]) (tot := 3) (by kernel_rfl)
      (OpensFs.cons (Opens.str (by kernel_rfl)) (OpensFs.cons (Opens.str (by kernel_rfl)) (OpensFs.cons (Opens.slice (e := 183) (bytes := 56) (by kernel_rfl) (by decide) (by decide) (hreach _) pkNode ih) OpensFs.nil)))
      (fun p => .mk p.1 p.2.1 p.2.2.1) (fun p _ => ⟨trivial, rfl⟩)
theorem fitNode (x : Dt.GNode) (r : Int) (h0 : 0 ≤ r) (h1 : r ≤ 1048576) (h : 0 ≤ szNode x r) : (encNode false x).fits lim := by
  induction hs : SizeOf.sizeOf x using Nat.strongRecOn generalizing x r with
  | _ n ih =>
    rw [szNode_eq] at h
    obtain ⟨a0, h⟩ := thn_get h
    have l0 := szStr_le x.fName r h0
    obtain ⟨a1, h⟩ := thn_get h
    have l1 := szStr_le x.fValue (szStr x.fName r) a0
    obtain ⟨a2, h⟩ := thn_get h
    have l2 := szSl_le szNode szNode_le x.fKids (szStr x.fValue (szStr x.fName r)) a1
    have z2 : (AV.sl false 3 (x.fKids.map (encNode false))).fits lim := fits_sl (f := szNode) szNode_le x.fKids (szStr x.fValue (szStr x.fName r)) a1 (by omega) a2 (fun y hy r' p q s => ih (SizeOf.sizeOf y) (by have := List.sizeOf_lt_of_mem hy; cases x; simp [Dt.GNode.fKids] at *; omega) y r' p q s rfl)
    simp only [AV.fits, AV.fitsL] at z2
    simp only [encNode_eq, AV.fits, AV.fitsL]
    exact ⟨trivial, trivial, z2, trivial⟩
def celVersion (x : Dt.GVersion) : List AV := [.sl false 3 (x.fTree.map (encNode false)), .v (.int .i64 x.fBy), .v (.int .i64 x.fAt)]
theorem pkVersion {L : Nat → Nat} : Packs L W celVersion (encVersion false) 3 := by
  have : encVersion false = fun x => .agg (celVersion x) := by funext x; simp only [go_sem, celVersion]
  rw [this]; exact Packs.agg fun _ => rfl
theorem opVersion (n : Nat) : Opens enc Try.prog W rawL n 223 celVersion (fun _ => True) := by
  refine Opens.mono (n := n + 1 + 1) ?_ (by omega)
  exact Opens.struct (P := Try.prog) (t := 223) (fl := [(70, 0, 1), (3, 1, 1), (3, 2, 1)]) (tot := 3) (by kernel_rfl)
      (OpensFs.cons (Opens.slice (e := 183) (bytes := 56) (by kernel_rfl) (by decide) (by decide) (hreach _) pkNode (opNode n)) (OpensFs.cons (Opens.int (k := .i64) (by kernel_rfl)) (OpensFs.cons (Opens.int (k := .i64) (by kernel_rfl)) OpensFs.nil)))
      (fun p => ⟨p.1, p.2.1, p.2.2.1⟩) (fun p _ => ⟨trivial, rfl⟩)
theorem fitVersion (x : Dt.GVersion) (r : Int) (h0 : 0 ≤ r) (h1 : r ≤ 1048576) (h : 0 ≤ szVersion x r) : (encVersion false x).fits lim := by
  unfold szVersion at h
  obtain ⟨a0, h⟩ := thn_get h
  have l0 := szSl_le szNode szNode_le x.fTree r h0
  have z0 : (AV.sl false 3 (x.fTree.map (encNode false))).fits lim := fits_sl (f := szNode) szNode_le x.fTree r h0 (by omega) a0 (fun y hy r' p q s => fitNode y r' p q s)
  simp only [AV.fits, AV.fitsL] at z0
  simp only [encVersion, AV.fits, AV.fitsL]
  exact ⟨z0, trivial, trivial, trivial⟩
def celPending (x : Dt.GPending) : List AV := [.v (.bool x.fOn), .v (.int .i64 x.fUntil), .v (.int .i64 x.fBy), .str x.fName, .sl false 3 (x.fBack.map (encNode false))]
theorem pkPending {L : Nat → Nat} : Packs L W celPending (encPending false) 5 := by
  have : encPending false = fun x => .agg (celPending x) := by funext x; simp only [go_sem, celPending]
  rw [this]; exact Packs.agg fun _ => rfl
theorem opPending (n : Nat) : Opens enc Try.prog W rawL n 105 celPending (fun _ => True) := by
  refine Opens.mono (n := n + 1 + 1) ?_ (by omega)
  exact Opens.struct (P := Try.prog) (t := 105) (fl := [(4, 0, 1), (3, 1, 1), (3, 2, 1), (9, 3, 1), (70, 4, 1)]) (tot := 5) (by kernel_rfl)
      (OpensFs.cons (Opens.bool (by kernel_rfl)) (OpensFs.cons (Opens.int (k := .i64) (by kernel_rfl)) (OpensFs.cons (Opens.int (k := .i64) (by kernel_rfl)) (OpensFs.cons (Opens.str (by kernel_rfl)) (OpensFs.cons (Opens.slice (e := 183) (bytes := 56) (by kernel_rfl) (by decide) (by decide) (hreach _) pkNode (opNode n)) OpensFs.nil)))))
      (fun p => ⟨p.1, p.2.1, p.2.2.1, p.2.2.2.1, p.2.2.2.2.1⟩) (fun p _ => ⟨trivial, rfl⟩)
theorem fitPending (x : Dt.GPending) (r : Int) (h0 : 0 ≤ r) (h1 : r ≤ 1048576) (h : 0 ≤ szPending x r) : (encPending false x).fits lim := by
  unfold szPending at h
  obtain ⟨a0, h⟩ := thn_get h
  have l0 := szStr_le x.fName r h0
  obtain ⟨a1, h⟩ := thn_get h
  have l1 := szSl_le szNode szNode_le x.fBack (szStr x.fName r) a0
  have z1 : (AV.sl false 3 (x.fBack.map (encNode false))).fits lim := fits_sl (f := szNode) szNode_le x.fBack (szStr x.fName r) a0 (by omega) a1 (fun y hy r' p q s => fitNode y r' p q s)
  simp only [AV.fits, AV.fitsL] at z1
  simp only [encPending, AV.fits, AV.fitsL]
  exact ⟨trivial, trivial, trivial, trivial, z1, trivial⟩
def celStore (x : Dt.GStore) : List AV := [.sl false 19 (x.fSchema.map (encSchema false)), .sl false 3 (x.fRunning.map (encNode false)), .sl false 3 (x.fDraft.map (encNode false)), .v (.int .i64 x.fOwner), .sl false 3 (x.fPast.map (encVersion false)), .v (.bool x.fWait.fOn), .v (.int .i64 x.fWait.fUntil), .v (.int .i64 x.fWait.fBy), .str x.fWait.fName, .sl false 3 (x.fWait.fBack.map (encNode false))]
theorem pkStore {L : Nat → Nat} : Packs L W celStore (encStore false) 10 := by
  have : encStore false = fun x => .agg (celStore x) := by funext x; simp only [go_sem, celStore]
  rw [this]; exact Packs.agg fun _ => rfl
theorem opStore (n : Nat) : Opens enc Try.prog W rawL n 107 celStore (fun _ => True) := by
  refine Opens.mono (n := n + 1 + 1) ?_ (by omega)
  exact Opens.struct (P := Try.prog) (t := 107) (fl := [(102, 0, 1), (70, 1, 1), (70, 2, 1), (3, 3, 1), (103, 4, 1), (105, 5, 5)]) (tot := 10) (by kernel_rfl)
      (OpensFs.cons (Opens.slice (e := 220) (bytes := 272) (by kernel_rfl) (by decide) (by decide) (hreach _) pkSchema (opSchema n)) (OpensFs.cons (Opens.slice (e := 183) (bytes := 56) (by kernel_rfl) (by decide) (by decide) (hreach _) pkNode (opNode n)) (OpensFs.cons (Opens.slice (e := 183) (bytes := 56) (by kernel_rfl) (by decide) (by decide) (hreach _) pkNode (opNode n)) (OpensFs.cons (Opens.int (k := .i64) (by kernel_rfl)) (OpensFs.cons (Opens.slice (e := 223) (bytes := 40) (by kernel_rfl) (by decide) (by decide) (hreach _) pkVersion (opVersion n)) (OpensFs.cons (opPending _) OpensFs.nil))))))
      (fun p => ⟨p.1, p.2.1, p.2.2.1, p.2.2.2.1, p.2.2.2.2.1, p.2.2.2.2.2.1⟩) (fun p _ => ⟨trivial, rfl⟩)
theorem fitStore (x : Dt.GStore) (r : Int) (h0 : 0 ≤ r) (h1 : r ≤ 1048576) (h : 0 ≤ szStore x r) : (encStore false x).fits lim := by
  unfold szStore at h
  obtain ⟨a0, h⟩ := thn_get h
  have l0 := szSl_le szSchema szSchema_le x.fSchema r h0
  obtain ⟨a1, h⟩ := thn_get h
  have l1 := szSl_le szNode szNode_le x.fRunning (szSl szSchema x.fSchema r) a0
  obtain ⟨a2, h⟩ := thn_get h
  have l2 := szSl_le szNode szNode_le x.fDraft (szSl szNode x.fRunning (szSl szSchema x.fSchema r)) a1
  obtain ⟨a3, h⟩ := thn_get h
  have l3 := szSl_le szVersion szVersion_le x.fPast (szSl szNode x.fDraft (szSl szNode x.fRunning (szSl szSchema x.fSchema r))) a2
  obtain ⟨a4, h⟩ := thn_get h
  have l4 := szPending_le x.fWait (szSl szVersion x.fPast (szSl szNode x.fDraft (szSl szNode x.fRunning (szSl szSchema x.fSchema r)))) a3
  have z0 : (AV.sl false 19 (x.fSchema.map (encSchema false))).fits lim := fits_sl (f := szSchema) szSchema_le x.fSchema r h0 (by omega) a0 (fun y hy r' p q s => fitSchema y r' p q s)
  have z1 : (AV.sl false 3 (x.fRunning.map (encNode false))).fits lim := fits_sl (f := szNode) szNode_le x.fRunning (szSl szSchema x.fSchema r) a0 (by omega) a1 (fun y hy r' p q s => fitNode y r' p q s)
  have z2 : (AV.sl false 3 (x.fDraft.map (encNode false))).fits lim := fits_sl (f := szNode) szNode_le x.fDraft (szSl szNode x.fRunning (szSl szSchema x.fSchema r)) a1 (by omega) a2 (fun y hy r' p q s => fitNode y r' p q s)
  have z3 : (AV.sl false 3 (x.fPast.map (encVersion false))).fits lim := fits_sl (f := szVersion) szVersion_le x.fPast (szSl szNode x.fDraft (szSl szNode x.fRunning (szSl szSchema x.fSchema r))) a2 (by omega) a3 (fun y hy r' p q s => fitVersion y r' p q s)
  have z4 := fitPending x.fWait (szSl szVersion x.fPast (szSl szNode x.fDraft (szSl szNode x.fRunning (szSl szSchema x.fSchema r)))) a3 (by omega) a4
  simp only [encPending, AV.fits, AV.fitsL] at z0 z1 z2 z3 z4
  simp only [encStore, AV.fits, AV.fitsL]
  exact ⟨z0, z1, z2, trivial, z3, z4.1, z4.2.1, z4.2.2.1, z4.2.2.2.1, z4.2.2.2.2.1, trivial⟩
def celArg (x : Dt.GArg) : List AV := [.str x.fName, .str x.fValue]
theorem pkArg {L : Nat → Nat} : Packs L W celArg (encArg false) 2 := by
  have : encArg false = fun x => .agg (celArg x) := by funext x; simp only [go_sem, celArg]
  rw [this]; exact Packs.agg fun _ => rfl
theorem opArg (n : Nat) : Opens enc Try.prog W rawL n 93 celArg (fun _ => True) := by
  refine Opens.mono (n := n + 1 + 1) ?_ (by omega)
  exact Opens.struct (P := Try.prog) (t := 93) (fl := [(9, 0, 1), (9, 1, 1)]) (tot := 2) (by kernel_rfl)
      (OpensFs.cons (Opens.str (by kernel_rfl)) (OpensFs.cons (Opens.str (by kernel_rfl)) OpensFs.nil))
      (fun p => ⟨p.1, p.2.1⟩) (fun p _ => ⟨trivial, rfl⟩)
theorem fitArg (x : Dt.GArg) (r : Int) (h0 : 0 ≤ r) (h1 : r ≤ 1048576) (h : 0 ≤ szArg x r) : (encArg false x).fits lim := by
  unfold szArg at h
  obtain ⟨a0, h⟩ := thn_get h
  have l0 := szStr_le x.fName r h0
  obtain ⟨a1, h⟩ := thn_get h
  have l1 := szStr_le x.fValue (szStr x.fName r) a0
  simp only [encArg, AV.fits, AV.fitsL]
  exact ⟨trivial, trivial, trivial⟩
def celParam (x : Dt.GParam) : List AV := [.str x.fName, .v (.int .i64 x.fType.fKind), .sl false 2 (x.fType.fRanges.map (encRange false)), .sl false 1 (x.fType.fNames.map AV.str), .str x.fType.fPattern, .str x.fType.fPath]
theorem pkParam {L : Nat → Nat} : Packs L W celParam (encParam false) 6 := by
  have : encParam false = fun x => .agg (celParam x) := by funext x; simp only [go_sem, celParam]
  rw [this]; exact Packs.agg fun _ => rfl
theorem opParam (n : Nat) : Opens enc Try.prog W rawL n 180 celParam (fun _ => True) := by
  refine Opens.mono (n := n + 1 + 1) ?_ (by omega)
  exact Opens.struct (P := Try.prog) (t := 180) (fl := [(9, 0, 1), (178, 1, 5)]) (tot := 6) (by kernel_rfl)
      (OpensFs.cons (Opens.str (by kernel_rfl)) (OpensFs.cons (opType _) OpensFs.nil))
      (fun p => ⟨p.1, p.2.1⟩) (fun p _ => ⟨trivial, rfl⟩)
theorem fitParam (x : Dt.GParam) (r : Int) (h0 : 0 ≤ r) (h1 : r ≤ 1048576) (h : 0 ≤ szParam x r) : (encParam false x).fits lim := by
  unfold szParam at h
  obtain ⟨a0, h⟩ := thn_get h
  have l0 := szStr_le x.fName r h0
  obtain ⟨a1, h⟩ := thn_get h
  have l1 := szType_le x.fType (szStr x.fName r) a0
  have z1 := fitType x.fType (szStr x.fName r) a0 (by omega) a1
  simp only [encType, AV.fits, AV.fitsL] at z1
  simp only [encParam, AV.fits, AV.fitsL]
  exact ⟨trivial, z1.1, z1.2.1, z1.2.2.1, z1.2.2.2.1, z1.2.2.2.2.1, trivial⟩
def celTemplate (x : Dt.GTemplate) : List AV := [.str x.fName, .sl false 6 (x.fParams.map (encParam false)), .sl false 3 (x.fBody.map (encNode false))]
theorem pkTemplate {L : Nat → Nat} : Packs L W celTemplate (encTemplate false) 3 := by
  have : encTemplate false = fun x => .agg (celTemplate x) := by funext x; simp only [go_sem, celTemplate]
  rw [this]; exact Packs.agg fun _ => rfl
theorem opTemplate (n : Nat) : Opens enc Try.prog W rawL n 72 celTemplate (fun _ => True) := by
  refine Opens.mono (n := n + 1 + 1) ?_ (by omega)
  exact Opens.struct (P := Try.prog) (t := 72) (fl := [(9, 0, 1), (69, 1, 1), (70, 2, 1)]) (tot := 3) (by kernel_rfl)
      (OpensFs.cons (Opens.str (by kernel_rfl)) (OpensFs.cons (Opens.slice (e := 180) (bytes := 104) (by kernel_rfl) (by decide) (by decide) (hreach _) pkParam (opParam n)) (OpensFs.cons (Opens.slice (e := 183) (bytes := 56) (by kernel_rfl) (by decide) (by decide) (hreach _) pkNode (opNode n)) OpensFs.nil)))
      (fun p => ⟨p.1, p.2.1, p.2.2.1⟩) (fun p _ => ⟨trivial, rfl⟩)
theorem fitTemplate (x : Dt.GTemplate) (r : Int) (h0 : 0 ≤ r) (h1 : r ≤ 1048576) (h : 0 ≤ szTemplate x r) : (encTemplate false x).fits lim := by
  unfold szTemplate at h
  obtain ⟨a0, h⟩ := thn_get h
  have l0 := szStr_le x.fName r h0
  obtain ⟨a1, h⟩ := thn_get h
  have l1 := szSl_le szParam szParam_le x.fParams (szStr x.fName r) a0
  obtain ⟨a2, h⟩ := thn_get h
  have l2 := szSl_le szNode szNode_le x.fBody (szSl szParam x.fParams (szStr x.fName r)) a1
  have z1 : (AV.sl false 6 (x.fParams.map (encParam false))).fits lim := fits_sl (f := szParam) szParam_le x.fParams (szStr x.fName r) a0 (by omega) a1 (fun y hy r' p q s => fitParam y r' p q s)
  have z2 : (AV.sl false 3 (x.fBody.map (encNode false))).fits lim := fits_sl (f := szNode) szNode_le x.fBody (szSl szParam x.fParams (szStr x.fName r)) a1 (by omega) a2 (fun y hy r' p q s => fitNode y r' p q s)
  simp only [AV.fits, AV.fitsL] at z1 z2
  simp only [encTemplate, AV.fits, AV.fitsL]
  exact ⟨trivial, z1, z2, trivial⟩
def celService (x : Dt.GService) : List AV := [.str x.fName, .str x.fTemplate, .sl false 2 (x.fArgs.map (encArg false)), .sl false 1 (x.fTargets.map AV.str)]
theorem pkService {L : Nat → Nat} : Packs L W celService (encService false) 4 := by
  have : encService false = fun x => .agg (celService x) := by funext x; simp only [go_sem, celService]
  rw [this]; exact Packs.agg fun _ => rfl
theorem opService (n : Nat) : Opens enc Try.prog W rawL n 166 celService (fun _ => True) := by
  refine Opens.mono (n := n + 1 + 1) ?_ (by omega)
  exact Opens.struct (P := Try.prog) (t := 166) (fl := [(9, 0, 1), (9, 1, 1), (39, 2, 1), (22, 3, 1)]) (tot := 4) (by kernel_rfl)
      (OpensFs.cons (Opens.str (by kernel_rfl)) (OpensFs.cons (Opens.str (by kernel_rfl)) (OpensFs.cons (Opens.slice (e := 93) (bytes := 32) (by kernel_rfl) (by decide) (by decide) (hreach _) pkArg (opArg n)) (OpensFs.cons (Opens.slice (e := 9) (bytes := 16) (by kernel_rfl) (by decide) (by decide) (hreach _) Packs.str (Opens.str (by kernel_rfl))) OpensFs.nil))))
      (fun p => ⟨p.1, p.2.1, p.2.2.1, p.2.2.2.1⟩) (fun p _ => ⟨trivial, rfl⟩)
theorem fitService (x : Dt.GService) (r : Int) (h0 : 0 ≤ r) (h1 : r ≤ 1048576) (h : 0 ≤ szService x r) : (encService false x).fits lim := by
  unfold szService at h
  obtain ⟨a0, h⟩ := thn_get h
  have l0 := szStr_le x.fName r h0
  obtain ⟨a1, h⟩ := thn_get h
  have l1 := szStr_le x.fTemplate (szStr x.fName r) a0
  obtain ⟨a2, h⟩ := thn_get h
  have l2 := szSl_le szArg szArg_le x.fArgs (szStr x.fTemplate (szStr x.fName r)) a1
  obtain ⟨a3, h⟩ := thn_get h
  have l3 := szSl_le szStr szStr_le x.fTargets (szSl szArg x.fArgs (szStr x.fTemplate (szStr x.fName r))) a2
  have z2 : (AV.sl false 2 (x.fArgs.map (encArg false))).fits lim := fits_sl (f := szArg) szArg_le x.fArgs (szStr x.fTemplate (szStr x.fName r)) a1 (by omega) a2 (fun y hy r' p q s => fitArg y r' p q s)
  have z3 : (AV.sl false 1 (x.fTargets.map AV.str)).fits lim := fits_sl (f := szStr) szStr_le x.fTargets (szSl szArg x.fArgs (szStr x.fTemplate (szStr x.fName r))) a2 (by omega) a3 (fun _ _ _ _ _ _ => trivial)
  simp only [AV.fits, AV.fitsL] at z2 z3
  simp only [encService, AV.fits, AV.fitsL]
  exact ⟨trivial, trivial, z2, z3, trivial⟩
def celPlan (x : Dt.GPlan) : List AV := [.sl false 3 (x.fTemplates.map (encTemplate false)), .sl false 4 (x.fServices.map (encService false))]
theorem pkPlan {L : Nat → Nat} : Packs L W celPlan (encPlan false) 2 := by
  have : encPlan false = fun x => .agg (celPlan x) := by funext x; simp only [go_sem, celPlan]
  rw [this]; exact Packs.agg fun _ => rfl
theorem opPlan (n : Nat) : Opens enc Try.prog W rawL n 57 celPlan (fun _ => True) := by
  refine Opens.mono (n := n + 1 + 1) ?_ (by omega)
  exact Opens.struct (P := Try.prog) (t := 57) (fl := [(54, 0, 1), (55, 1, 1)]) (tot := 2) (by kernel_rfl)
      (OpensFs.cons (Opens.slice (e := 72) (bytes := 64) (by kernel_rfl) (by decide) (by decide) (hreach _) pkTemplate (opTemplate n)) (OpensFs.cons (Opens.slice (e := 166) (bytes := 80) (by kernel_rfl) (by decide) (by decide) (hreach _) pkService (opService n)) OpensFs.nil))
      (fun p => ⟨p.1, p.2.1⟩) (fun p _ => ⟨trivial, rfl⟩)
theorem fitPlan (x : Dt.GPlan) (r : Int) (h0 : 0 ≤ r) (h1 : r ≤ 1048576) (h : 0 ≤ szPlan x r) : (encPlan false x).fits lim := by
  unfold szPlan at h
  obtain ⟨a0, h⟩ := thn_get h
  have l0 := szSl_le szTemplate szTemplate_le x.fTemplates r h0
  obtain ⟨a1, h⟩ := thn_get h
  have l1 := szSl_le szService szService_le x.fServices (szSl szTemplate x.fTemplates r) a0
  have z0 : (AV.sl false 3 (x.fTemplates.map (encTemplate false))).fits lim := fits_sl (f := szTemplate) szTemplate_le x.fTemplates r h0 (by omega) a0 (fun y hy r' p q s => fitTemplate y r' p q s)
  have z1 : (AV.sl false 4 (x.fServices.map (encService false))).fits lim := fits_sl (f := szService) szService_le x.fServices (szSl szTemplate x.fTemplates r) a0 (by omega) a1 (fun y hy r' p q s => fitService y r' p q s)
  simp only [AV.fits, AV.fitsL] at z0 z1
  simp only [encPlan, AV.fits, AV.fitsL]
  exact ⟨z0, z1, trivial⟩
def celDevice (x : Dt.GDevice) : List AV := [.str x.fName, .sl false 19 (x.fStore.fSchema.map (encSchema false)), .sl false 3 (x.fStore.fRunning.map (encNode false)), .sl false 3 (x.fStore.fDraft.map (encNode false)), .v (.int .i64 x.fStore.fOwner), .sl false 3 (x.fStore.fPast.map (encVersion false)), .v (.bool x.fStore.fWait.fOn), .v (.int .i64 x.fStore.fWait.fUntil), .v (.int .i64 x.fStore.fWait.fBy), .str x.fStore.fWait.fName, .sl false 3 (x.fStore.fWait.fBack.map (encNode false)), .sl false 3 (x.fBase.map (encNode false)), .v (.bool x.fUp), .v (.int .i64 x.fWeak), .v (.bool x.fHeld)]
theorem pkDevice {L : Nat → Nat} : Packs L W celDevice (encDevice false) 15 := by
  have : encDevice false = fun x => .agg (celDevice x) := by funext x; simp only [go_sem, celDevice]
  rw [this]; exact Packs.agg fun _ => rfl
theorem opDevice (n : Nat) : Opens enc Try.prog W rawL n 109 celDevice (fun _ => True) := by
  refine Opens.mono (n := n + 1 + 1) ?_ (by omega)
  exact Opens.struct (P := Try.prog) (t := 109) (fl := [(9, 0, 1), (107, 1, 10), (70, 11, 1), (4, 12, 1), (3, 13, 1), (4, 14, 1)]) (tot := 15) (by kernel_rfl)
      (OpensFs.cons (Opens.str (by kernel_rfl)) (OpensFs.cons (opStore _) (OpensFs.cons (Opens.slice (e := 183) (bytes := 56) (by kernel_rfl) (by decide) (by decide) (hreach _) pkNode (opNode n)) (OpensFs.cons (Opens.bool (by kernel_rfl)) (OpensFs.cons (Opens.int (k := .i64) (by kernel_rfl)) (OpensFs.cons (Opens.bool (by kernel_rfl)) OpensFs.nil))))))
      (fun p => ⟨p.1, p.2.1, p.2.2.1, p.2.2.2.1, p.2.2.2.2.1, p.2.2.2.2.2.1⟩) (fun p _ => ⟨trivial, rfl⟩)
theorem fitDevice (x : Dt.GDevice) (r : Int) (h0 : 0 ≤ r) (h1 : r ≤ 1048576) (h : 0 ≤ szDevice x r) : (encDevice false x).fits lim := by
  unfold szDevice at h
  obtain ⟨a0, h⟩ := thn_get h
  have l0 := szStr_le x.fName r h0
  obtain ⟨a1, h⟩ := thn_get h
  have l1 := szStore_le x.fStore (szStr x.fName r) a0
  obtain ⟨a2, h⟩ := thn_get h
  have l2 := szSl_le szNode szNode_le x.fBase (szStore x.fStore (szStr x.fName r)) a1
  have z1 := fitStore x.fStore (szStr x.fName r) a0 (by omega) a1
  have z2 : (AV.sl false 3 (x.fBase.map (encNode false))).fits lim := fits_sl (f := szNode) szNode_le x.fBase (szStore x.fStore (szStr x.fName r)) a1 (by omega) a2 (fun y hy r' p q s => fitNode y r' p q s)
  simp only [encStore, AV.fits, AV.fitsL] at z1 z2
  simp only [encDevice, AV.fits, AV.fitsL]
  exact ⟨trivial, z1.1, z1.2.1, z1.2.2.1, z1.2.2.2.1, z1.2.2.2.2.1, z1.2.2.2.2.2.1, z1.2.2.2.2.2.2.1, z1.2.2.2.2.2.2.2.1, z1.2.2.2.2.2.2.2.2.1, z1.2.2.2.2.2.2.2.2.2.1, z2, trivial, trivial, trivial, trivial⟩
def celTask (x : Dt.GTask) : List AV := [.str x.fDevice, .sl false 3 (x.fTree.map (encNode false)), .v (.int .i64 x.fState)]
theorem pkTask {L : Nat → Nat} : Packs L W celTask (encTask false) 3 := by
  have : encTask false = fun x => .agg (celTask x) := by funext x; simp only [go_sem, celTask]
  rw [this]; exact Packs.agg fun _ => rfl
theorem opTask (n : Nat) : Opens enc Try.prog W rawL n 156 celTask (fun _ => True) := by
  refine Opens.mono (n := n + 1 + 1) ?_ (by omega)
  exact Opens.struct (P := Try.prog) (t := 156) (fl := [(9, 0, 1), (70, 1, 1), (3, 2, 1)]) (tot := 3) (by kernel_rfl)
      (OpensFs.cons (Opens.str (by kernel_rfl)) (OpensFs.cons (Opens.slice (e := 183) (bytes := 56) (by kernel_rfl) (by decide) (by decide) (hreach _) pkNode (opNode n)) (OpensFs.cons (Opens.int (k := .i64) (by kernel_rfl)) OpensFs.nil)))
      (fun p => ⟨p.1, p.2.1, p.2.2.1⟩) (fun p _ => ⟨trivial, rfl⟩)
theorem fitTask (x : Dt.GTask) (r : Int) (h0 : 0 ≤ r) (h1 : r ≤ 1048576) (h : 0 ≤ szTask x r) : (encTask false x).fits lim := by
  unfold szTask at h
  obtain ⟨a0, h⟩ := thn_get h
  have l0 := szStr_le x.fDevice r h0
  obtain ⟨a1, h⟩ := thn_get h
  have l1 := szSl_le szNode szNode_le x.fTree (szStr x.fDevice r) a0
  have z1 : (AV.sl false 3 (x.fTree.map (encNode false))).fits lim := fits_sl (f := szNode) szNode_le x.fTree (szStr x.fDevice r) a0 (by omega) a1 (fun y hy r' p q s => fitNode y r' p q s)
  simp only [AV.fits, AV.fitsL] at z1
  simp only [encTask, AV.fits, AV.fitsL]
  exact ⟨trivial, z1, trivial, trivial⟩
def celCampaign (x : Dt.GCampaign) : List AV := [.v (.int .i64 x.fState), .sl false 3 (x.fTasks.map (encTask false))]
theorem pkCampaign {L : Nat → Nat} : Packs L W celCampaign (encCampaign false) 2 := by
  have : encCampaign false = fun x => .agg (celCampaign x) := by funext x; simp only [go_sem, celCampaign]
  rw [this]; exact Packs.agg fun _ => rfl
theorem opCampaign (n : Nat) : Opens enc Try.prog W rawL n 30 celCampaign (fun _ => True) := by
  refine Opens.mono (n := n + 1 + 1) ?_ (by omega)
  exact Opens.struct (P := Try.prog) (t := 30) (fl := [(3, 0, 1), (28, 1, 1)]) (tot := 2) (by kernel_rfl)
      (OpensFs.cons (Opens.int (k := .i64) (by kernel_rfl)) (OpensFs.cons (Opens.slice (e := 156) (bytes := 48) (by kernel_rfl) (by decide) (by decide) (hreach _) pkTask (opTask n)) OpensFs.nil))
      (fun p => ⟨p.1, p.2.1⟩) (fun p _ => ⟨trivial, rfl⟩)
theorem fitCampaign (x : Dt.GCampaign) (r : Int) (h0 : 0 ≤ r) (h1 : r ≤ 1048576) (h : 0 ≤ szCampaign x r) : (encCampaign false x).fits lim := by
  unfold szCampaign at h
  obtain ⟨a0, h⟩ := thn_get h
  have l0 := szSl_le szTask szTask_le x.fTasks r h0
  have z0 : (AV.sl false 3 (x.fTasks.map (encTask false))).fits lim := fits_sl (f := szTask) szTask_le x.fTasks r h0 (by omega) a0 (fun y hy r' p q s => fitTask y r' p q s)
  simp only [AV.fits, AV.fitsL] at z0
  simp only [encCampaign, AV.fits, AV.fitsL]
  exact ⟨trivial, z0, trivial⟩
end Go.Proofs.Ytkdchlggdcmkbaa
namespace Go.Proofs.Ytkdchlggdcmkbaa
open Go.Ab Go.Dt
set_option maxRecDepth 20000
set_option maxHeartbeats 2000000

instance markText_i (k : Int) : Ctr lim Try.prog 45 [] [.v (.int .i64 k)] (.str (mkT k)) [] (k ≤ 1099511627776) := by
  refine Ctr.of_body en45 Try.func45 rfl rfl fun hp => (?_); rw [Try.ntmps45]
  (repeat' (first | (with_reducible first | refine Z ?_ | refine Y ?_ | (refine hK _ _ ?_; clear hK K) | exact trivial | refine And.intro ?_ ?_) | (refine AW.i rfl (fun h => ?_) (fun h => ?_) <;> try simp only [hC, reduceCtorEq] at h) | with_reducible rfl | with_reducible refine E ?_ | refine eF rfl ?_ | (with_reducible refine fun (K : _ → _ → Prop) hK => ?_) | (with_reducible show drawOK _ _ = true; kernel_rfl) | (with_reducible refine gI fun hg => ?_; try simp only [hC, reduceCtorEq] at hg; try simp only [hg]) | simp (maxSteps := 2000000) (disch := omega) only [go_sem] | (with_reducible intro hg; try simp only [hC, reduceCtorEq] at hg) | (with_reducible show List.Nodup _; decide) | (with_reducible show (_ : Bool) = false; first | rfl | (simp [*]; done)) | with_reducible exact at8_le _ _ | with_reducible exact at8_ge _ _ | (simp only [hC, reduceCtorEq]; omega) | omega | with_reducible assumption | (with_reducible show (_ : Bool) = true; first | (simp [*]; done) | (simp only [hC, reduceCtorEq]; (repeat' (first | assumption | apply And.intro)); done))))
  · rw [mkT, if_pos h]
  obtain ⟨n, rfl⟩ : ∃ n : Nat, k = n := ⟨k.toNat, by omega⟩
  refine AW.loopV [0, 3] [] (fun m xs o => ∃ (j : Nat) (out : Str), xs = [.v (.int .i64 j), .str out] ∧ o = [] ∧ m = j ∧ out.length + j ≤ n ∧ digs j out = digs n []) n [] trivial ⟨n, [], ?_, rfl, rfl, ?_, rfl⟩ ?_
  · rfl
  · simp
  rintro m xs o ⟨j, out, rfl, rfl, rfl, hl, hR⟩
  (repeat' (first | (with_reducible first | refine Z ?_ | refine Y ?_ | (refine hK _ _ ?_; clear hK K) | exact trivial | refine And.intro ?_ ?_) | (refine AW.i rfl (fun h => ?_) (fun h => ?_) <;> try simp only [hC, reduceCtorEq] at h) | with_reducible rfl | with_reducible refine E ?_ | refine eF rfl ?_ | (with_reducible refine fun (K : _ → _ → Prop) hK => ?_) | (with_reducible show drawOK _ _ = true; kernel_rfl) | (with_reducible refine gI fun hg => ?_; try simp only [hC, reduceCtorEq] at hg; try simp only [hg]) | simp (maxSteps := 2000000) (disch := omega) only [go_sem] | (with_reducible intro hg; try simp only [hC, reduceCtorEq] at hg) | (with_reducible show List.Nodup _; decide) | (with_reducible show (_ : Bool) = false; first | rfl | (simp [*]; done)) | with_reducible exact at8_le _ _ | with_reducible exact at8_ge _ _ | (simp only [hC, reduceCtorEq]; omega) | omega | with_reducible assumption | (with_reducible show (_ : Bool) = true; first | (simp [*]; done) | (simp only [hC, reduceCtorEq]; (repeat' (first | assumption | apply And.intro)); done))))
  · rw [digs_pos (by omega)] at hR
    exact ⟨_, [_, _], [], by omega, ⟨m / 10, _, rfl, rfl, rfl, by simp; omega, hR⟩, by rw [show (48 + ((m % 10 : Nat) : Int)).toNat = 48 + m % 10 by omega]; rfl, trivial⟩
  · have : m = 0 := by omega
    subst this
    rw [digs_zero] at hR
    rw [mkT, if_neg (by omega), Int.toNat_natCast, hR]

instance eqStringS_i (L : Nat → Nat) [hL : Lok L] (l : List Str) : Ctr L Try.prog 11 [] [.sl false 1 (l.map AV.str), .sl false 1 (l.map AV.str)] (.v (.bool true)) [] True := by
  refine Ctr.of_body en11 Try.func11 rfl rfl fun hp => (?_); rw [Try.ntmps11]
  refine AW.fact 0 fun hf => ?_
  simp (disch := omega) only [go_sem, Nat.reduceBEq] at hf
  have hf := Nat.le_trans hf (hL.le 1)
  (repeat' (first | (with_reducible first | refine Z ?_ | refine Y ?_ | (refine hK _ _ ?_; clear hK K) | exact trivial | refine And.intro ?_ ?_) | (refine AW.i rfl (fun h => ?_) (fun h => ?_) <;> try simp only [hC, reduceCtorEq] at h) | with_reducible rfl | with_reducible refine E ?_ | refine eF rfl ?_ | (with_reducible refine fun (K : _ → _ → Prop) hK => ?_) | (with_reducible show drawOK _ _ = true; kernel_rfl) | (with_reducible refine gI fun hg => ?_; try simp only [hC, reduceCtorEq] at hg; try simp only [hg]) | simp (maxSteps := 2000000) (disch := omega) only [go_sem] | (with_reducible intro hg; try simp only [hC, reduceCtorEq] at hg) | (with_reducible show List.Nodup _; decide) | (with_reducible show (_ : Bool) = false; first | rfl | (simp [*]; done)) | with_reducible exact at8_le _ _ | with_reducible exact at8_ge _ _ | (simp only [hC, reduceCtorEq]; omega) | omega | with_reducible assumption | (with_reducible show (_ : Bool) = true; first | (simp [*]; done) | (simp only [hC, reduceCtorEq]; (repeat' (first | assumption | apply And.intro)); done))))
  refine AW.loopV [5] [0, 1] (fun m xs o => ∃ k : Nat, xs = [.v (.int .i64 k)] ∧ o = [] ∧ m = l.length - k ∧ k ≤ l.length) l.length [] trivial ⟨0, ?_, rfl, rfl, ?_⟩ ?_
  · rfl
  · omega
  rintro m xs o ⟨k, rfl, rfl, rfl, hk⟩
  (repeat' (first | (with_reducible first | refine Z ?_ | refine Y ?_ | (refine hK _ _ ?_; clear hK K) | exact trivial | refine And.intro ?_ ?_) | (refine AW.i rfl (fun h => ?_) (fun h => ?_) <;> try simp only [hC, reduceCtorEq] at h) | with_reducible rfl | with_reducible refine E ?_ | refine eF rfl ?_ | (with_reducible refine fun (K : _ → _ → Prop) hK => ?_) | (with_reducible show drawOK _ _ = true; kernel_rfl) | (with_reducible refine gI fun hg => ?_; try simp only [hC, reduceCtorEq] at hg; try simp only [hg]) | simp (maxSteps := 2000000) (disch := omega) only [go_sem] | (with_reducible intro hg; try simp only [hC, reduceCtorEq] at hg) | (with_reducible show List.Nodup _; decide) | (with_reducible show (_ : Bool) = false; first | rfl | (simp [*]; done)) | with_reducible exact at8_le _ _ | with_reducible exact at8_ge _ _ | (simp only [hC, reduceCtorEq]; omega) | omega | with_reducible assumption | (with_reducible show (_ : Bool) = true; first | (simp [*]; done) | (simp only [hC, reduceCtorEq]; (repeat' (first | assumption | apply And.intro)); done))))
  exact ⟨_, [_], [], by omega, ⟨k + 1, rfl, rfl, rfl, by omega⟩, rfl, trivial⟩

theorem markStringS_g (b : Nat) (l : List Str) (k : Int) : Ctr lim Try.prog 12 [(b, some ((l.map AV.str).flatMap AV.cells))] [.arr b 0 (l.map AV.str).length 1, .v (.int .i64 k)] (.v (.int .i64 (k + l.length))) [some (((mks l.length k).map AV.str).flatMap AV.cells)] (0 ≤ k ∧ k + l.length ≤ 1099511627776) := by
  simp only [fl_str, List.length_map]
  refine Ctr.of_body en12 Try.func12 rfl rfl fun hp => (?_); rw [Try.ntmps12]
  (repeat' (first | (with_reducible first | refine Z ?_ | refine Y ?_ | (refine hK _ _ ?_; clear hK K) | exact trivial | refine And.intro ?_ ?_) | (refine AW.i rfl (fun h => ?_) (fun h => ?_) <;> try simp only [hC, reduceCtorEq] at h) | with_reducible rfl | with_reducible refine E ?_ | refine eF rfl ?_ | (with_reducible refine fun (K : _ → _ → Prop) hK => ?_) | (with_reducible show drawOK _ _ = true; kernel_rfl) | (with_reducible refine gI fun hg => ?_; try simp only [hC, reduceCtorEq] at hg; try simp only [hg]) | simp (maxSteps := 2000000) (disch := omega) only [go_sem] | (with_reducible intro hg; try simp only [hC, reduceCtorEq] at hg) | (with_reducible show List.Nodup _; decide) | (with_reducible show (_ : Bool) = false; first | rfl | (simp [*]; done)) | with_reducible exact at8_le _ _ | with_reducible exact at8_ge _ _ | (simp only [hC, reduceCtorEq]; omega) | omega | with_reducible assumption | (with_reducible show (_ : Bool) = true; first | (simp [*]; done) | (simp only [hC, reduceCtorEq]; (repeat' (first | assumption | apply And.intro)); done))))
  refine AW.loopV [1, 5] [0] (fun m xs o => ∃ i : Nat, xs = [.v (.int .i64 (k + i)), .v (.int .i64 i)] ∧ o = [(b, some ((mkd l k i).map AV.str))] ∧ m = l.length - i ∧ i ≤ l.length) l.length [(b, some (l.map AV.str))] (subO_one rfl) ⟨0, ?_, ?_, rfl, ?_⟩ ?_
  · simp [T]
  · simp [mkd, mks]
  · omega
  rintro m xs o ⟨i, rfl, rfl, rfl, hi⟩
  have hml := mkd_len l k i hi
  (repeat' (first | (with_reducible first | refine Z ?_ | refine Y ?_ | (refine hK _ _ ?_; clear hK K) | exact trivial | refine And.intro ?_ ?_) | (refine AW.i rfl (fun h => ?_) (fun h => ?_) <;> try simp only [hC, reduceCtorEq] at h) | with_reducible rfl | with_reducible refine E ?_ | refine eF rfl ?_ | (with_reducible refine fun (K : _ → _ → Prop) hK => ?_) | (with_reducible show drawOK _ _ = true; kernel_rfl) | (with_reducible refine gI fun hg => ?_; try simp only [hC, reduceCtorEq] at hg; try simp only [hg]) | simp (maxSteps := 2000000) (disch := omega) only [go_sem] | (with_reducible intro hg; try simp only [hC, reduceCtorEq] at hg) | (with_reducible show List.Nodup _; decide) | (with_reducible show (_ : Bool) = false; first | rfl | (simp [*]; done)) | with_reducible exact at8_le _ _ | with_reducible exact at8_ge _ _ | (simp only [hC, reduceCtorEq]; omega) | omega | with_reducible assumption | (with_reducible show (_ : Bool) = true; first | (simp [*]; done) | (simp only [hC, reduceCtorEq]; (repeat' (first | assumption | apply And.intro)); done))))
  · exact ⟨_, [_, _], _, by omega, ⟨i + 1, by rw [show k + ((i + 1 : Nat) : Int) = k + i + 1 by omega], rfl, rfl, by omega⟩, rfl, subO_one (mkd_step l k i h).symm⟩
  · rw [show i = l.length by omega]
  · rw [show i = l.length by omega, mkd, List.drop_of_length_le (Nat.le_refl _), List.append_nil]

instance markStringS_i (l : List Str) (k : Int) : BCtr lim Try.prog 12 1 (l.map AV.str) [.v (.int .i64 k)] (.v (.int .i64 (k + l.length))) ((mks l.length k).map AV.str) (0 ≤ k ∧ k + l.length ≤ 1099511627776) := by
  refine BCtr.of en12 (fun b => markStringS_g b l k) (fun e => ?_) (by simp [mks_len]) (by simpa [List.all_eq_true] using str_all l) (by simpa [List.all_eq_true] using str_all (mks l.length k))
  have : l = [] := by simpa using e
  subst this
  refine ⟨?_, rfl⟩
  refine Ctr.of_body en12 Try.func12 rfl rfl fun hp => (?_); rw [Try.ntmps12]
  (repeat' (first | (with_reducible first | refine Z ?_ | refine Y ?_ | (refine hK _ _ ?_; clear hK K) | exact trivial | refine And.intro ?_ ?_) | (refine AW.i rfl (fun h => ?_) (fun h => ?_) <;> try simp only [hC, reduceCtorEq] at h) | with_reducible rfl | with_reducible refine E ?_ | refine eF rfl ?_ | (with_reducible refine fun (K : _ → _ → Prop) hK => ?_) | (with_reducible show drawOK _ _ = true; kernel_rfl) | (with_reducible refine gI fun hg => ?_; try simp only [hC, reduceCtorEq] at hg; try simp only [hg]) | simp (maxSteps := 2000000) (disch := omega) only [go_sem] | (with_reducible intro hg; try simp only [hC, reduceCtorEq] at hg) | (with_reducible show List.Nodup _; decide) | (with_reducible show (_ : Bool) = false; first | rfl | (simp [*]; done)) | with_reducible exact at8_le _ _ | with_reducible exact at8_ge _ _ | (simp only [hC, reduceCtorEq]; omega) | omega | with_reducible assumption | (with_reducible show (_ : Bool) = true; first | (simp [*]; done) | (simp only [hC, reduceCtorEq]; (repeat' (first | assumption | apply And.intro)); done))))
  refine AW.loopV [] [0, 1, 5] (fun m xs o => xs = [] ∧ o = []) 0 [] trivial ⟨rfl, rfl⟩ ?_
  rintro m xs o ⟨rfl, rfl⟩
  (repeat' (first | (with_reducible first | refine Z ?_ | refine Y ?_ | (refine hK _ _ ?_; clear hK K) | exact trivial | refine And.intro ?_ ?_) | (refine AW.i rfl (fun h => ?_) (fun h => ?_) <;> try simp only [hC, reduceCtorEq] at h) | with_reducible rfl | with_reducible refine E ?_ | refine eF rfl ?_ | (with_reducible refine fun (K : _ → _ → Prop) hK => ?_) | (with_reducible show drawOK _ _ = true; kernel_rfl) | (with_reducible refine gI fun hg => ?_; try simp only [hC, reduceCtorEq] at hg; try simp only [hg]) | simp (maxSteps := 2000000) (disch := omega) only [go_sem] | (with_reducible intro hg; try simp only [hC, reduceCtorEq] at hg) | (with_reducible show List.Nodup _; decide) | (with_reducible show (_ : Bool) = false; first | rfl | (simp [*]; done)) | with_reducible exact at8_le _ _ | with_reducible exact at8_ge _ _ | (simp only [hC, reduceCtorEq]; omega) | omega | with_reducible assumption | (with_reducible show (_ : Bool) = true; first | (simp [*]; done) | (simp only [hC, reduceCtorEq]; (repeat' (first | assumption | apply And.intro)); done))))
  simp

instance heldStringS_i (n : Nat) (k : Int) : Ctr lim Try.prog 13 [] [.sl false 1 ((mks n k).map AV.str), .v (.int .i64 k)] (.v (.int .i64 (k + n))) [] (0 ≤ k ∧ k + n ≤ 1099511627776) := by
  refine Ctr.of_body en13 Try.func13 rfl rfl fun hp => (?_); rw [Try.ntmps13]
  (repeat' (first | (with_reducible first | refine Z ?_ | refine Y ?_ | (refine hK _ _ ?_; clear hK K) | exact trivial | refine And.intro ?_ ?_) | (refine AW.i rfl (fun h => ?_) (fun h => ?_) <;> try simp only [hC, reduceCtorEq] at h) | with_reducible rfl | with_reducible refine E ?_ | refine eF rfl ?_ | (with_reducible refine fun (K : _ → _ → Prop) hK => ?_) | (with_reducible show drawOK _ _ = true; kernel_rfl) | (with_reducible refine gI fun hg => ?_; try simp only [hC, reduceCtorEq] at hg; try simp only [hg]) | simp (maxSteps := 2000000) (disch := omega) only [go_sem] | (with_reducible intro hg; try simp only [hC, reduceCtorEq] at hg) | (with_reducible show List.Nodup _; decide) | (with_reducible show (_ : Bool) = false; first | rfl | (simp [*]; done)) | with_reducible exact at8_le _ _ | with_reducible exact at8_ge _ _ | (simp only [hC, reduceCtorEq]; omega) | omega | with_reducible assumption | (with_reducible show (_ : Bool) = true; first | (simp [*]; done) | (simp only [hC, reduceCtorEq]; (repeat' (first | assumption | apply And.intro)); done))))
  refine AW.loopV [1, 5] [0] (fun m xs o => ∃ i : Nat, xs = [.v (.int .i64 (k + i)), .v (.int .i64 i)] ∧ o = [] ∧ m = n - i ∧ i ≤ n) n [] trivial ⟨0, ?_, rfl, rfl, ?_⟩ ?_
  · simp [T]
  · omega
  rintro m xs o ⟨i, rfl, rfl, rfl, hi⟩
  have hml := mks_len n k
  have hat := mks_at n k i
  (repeat' (first | (with_reducible first | refine Z ?_ | refine Y ?_ | (refine hK _ _ ?_; clear hK K) | exact trivial | refine And.intro ?_ ?_) | (refine AW.i rfl (fun h => ?_) (fun h => ?_) <;> try simp only [hC, reduceCtorEq] at h) | with_reducible rfl | with_reducible refine E ?_ | refine eF rfl ?_ | (with_reducible refine fun (K : _ → _ → Prop) hK => ?_) | (with_reducible show drawOK _ _ = true; kernel_rfl) | (with_reducible refine gI fun hg => ?_; try simp only [hC, reduceCtorEq] at hg; try simp only [hg]) | simp (maxSteps := 2000000) (disch := omega) only [go_sem] | (with_reducible intro hg; try simp only [hC, reduceCtorEq] at hg) | (with_reducible show List.Nodup _; decide) | (with_reducible show (_ : Bool) = false; first | rfl | (simp [*]; done)) | with_reducible exact at8_le _ _ | with_reducible exact at8_ge _ _ | (simp only [hC, reduceCtorEq]; omega) | omega | with_reducible assumption | (with_reducible show (_ : Bool) = true; first | (simp [*]; done) | (simp only [hC, reduceCtorEq]; (repeat' (first | assumption | apply And.intro)); done))))
  · exact absurd (hat (by omega)) h
  · exact ⟨_, [_, _], _, by omega, ⟨i + 1, by rw [show k + ((i + 1 : Nat) : Int) = k + i + 1 by omega], rfl, rfl, by omega⟩, rfl, trivial⟩
  · rw [show i = n by omega]

theorem lawNamesIn_A (s : Str) (h : 1048576 < s.length) : Ctr rawL Try.prog 3 [] [.str s] (.v (.bool true)) [] True := by
  refine Ctr.of_body en3 Try.func3 rfl rfl fun hp => (?_); rw [Try.ntmps3]
  (repeat' (first | (with_reducible first | refine Z ?_ | refine Y ?_ | (refine hK _ _ ?_; clear hK K) | exact trivial | refine And.intro ?_ ?_) | (refine AW.i rfl (fun h => ?_) (fun h => ?_) <;> try simp only [hC, reduceCtorEq] at h) | with_reducible rfl | with_reducible refine E ?_ | refine eF rfl ?_ | (with_reducible refine fun (K : _ → _ → Prop) hK => ?_) | (with_reducible show drawOK _ _ = true; kernel_rfl) | (with_reducible refine gI fun hg => ?_; try simp only [hC, reduceCtorEq] at hg; try simp only [hg]) | simp (maxSteps := 2000000) (disch := omega) only [go_sem] | (with_reducible intro hg; try simp only [hC, reduceCtorEq] at hg) | (with_reducible show List.Nodup _; decide) | (with_reducible show (_ : Bool) = false; first | rfl | (simp [*]; done)) | with_reducible exact at8_le _ _ | with_reducible exact at8_ge _ _ | (simp only [hC, reduceCtorEq]; omega) | omega | with_reducible assumption | (with_reducible show (_ : Bool) = true; first | (simp [*]; done) | (simp only [hC, reduceCtorEq]; (repeat' (first | assumption | apply And.intro)); done))))
theorem lawNamesIn_B (s : Str) (h : ¬ 1048576 < s.length) : Ctr lim Try.prog 3 [] [.str s] (.v (.bool true)) [] True := by
  refine Ctr.of_body en3 Try.func3 rfl rfl fun hp => (?_); rw [Try.ntmps3]
  have hlen : (nmL (tk s)).length ≤ 1048576 := by
    have h1 := tk_len s
    have h2 := rights_len (tk s).1
    unfold nmL
    cases (tk s).2 <;> simp <;> omega
  (repeat' (first | (with_reducible first | refine Z ?_ | refine Y ?_ | (refine hK _ _ ?_; clear hK K) | exact trivial | refine And.intro ?_ ?_) | (refine AW.i rfl (fun h => ?_) (fun h => ?_) <;> try simp only [hC, reduceCtorEq] at h) | with_reducible rfl | with_reducible refine E ?_ | refine eF rfl ?_ | (with_reducible refine fun (K : _ → _ → Prop) hK => ?_) | (with_reducible show drawOK _ _ = true; kernel_rfl) | (with_reducible refine gI fun hg => ?_; try simp only [hC, reduceCtorEq] at hg; try simp only [hg]) | simp (maxSteps := 2000000) (disch := omega) only [go_sem] | (with_reducible intro hg; try simp only [hC, reduceCtorEq] at hg) | (with_reducible show List.Nodup _; decide) | (with_reducible show (_ : Bool) = false; first | rfl | (simp [*]; done)) | with_reducible exact at8_le _ _ | with_reducible exact at8_ge _ _ | (simp only [hC, reduceCtorEq]; omega) | omega | with_reducible assumption | (with_reducible show (_ : Bool) = true; first | (simp [*]; done) | (simp only [hC, reduceCtorEq]; (repeat' (first | assumption | apply And.intro)); done))))
theorem lawNamesIn_c (s : Str) : LawC Try.prog 3 [.str s] := by
  by_cases h0 : 1048576 < s.length
  · exact .raw (lawNamesIn_A s h0) trivial
  · exact .fit ⟨trivial, trivial⟩ (lawNamesIn_B s h0) trivial
end Go.Proofs.Ytkdchlggdcmkbaa
namespace Go.Proofs.Ytkdchlggdcmkbaa
open Go.Ab Go.Dt
set_option maxRecDepth 20000
set_option maxHeartbeats 4000000
theorem strLen {L : Nat → Nat} {P : Program} {c : Code} {n : Nat} {t : List (Nat × AV)} {o : Sto} {Q : Exit → AS → Prop} (i : Nat) {own : Bool} {l : List Str} (hi : T t i = .sl own 1 (l.map AV.str)) (h : (∀ k, k < l.length → (at_ l k).length ≤ 4611686018427387904) → AW L P c ⟨n, t, o⟩ Q) : AW L P c ⟨n, t, o⟩ Q := by
  intro B F0 w0 a w hd
  refine h (fun k hk => ?_) B F0 w0 a w hd
  obtain ⟨F, ow, fp, fs, h⟩ := hd
  have hr := h.slots i
  simp only at hr
  rw [hi] at hr
  simp only [Rep] at hr
  rcases hr with ⟨_, e, _⟩ | ⟨b, off, cap, vals, fp', _, _, _, _, he, _⟩
  · have : l = [] := by simpa using e
    subst this; simp at hk
  · obtain ⟨y, f, _, _, hr, _⟩ := he.get (i := k) (x := .str (at_ l k)) (by rw [List.getElem?_map, at_get hk]; rfl)
    simp only [Rep] at hr
    exact hr.2.1
instance szStringS_i (L : Nat → Nat) [hL : Lok L] (l : List Str) (r : Int) : Ctr L Try.prog 148 [] [.sl false 1 (l.map AV.str), .v (.int .i64 r)] (.v (.int .i64 (szSl szStr l r))) [] (0 ≤ r ∧ r ≤ 1048576) := by
  refine Ctr.of_body en148 Try.func148 rfl rfl fun hp => (?_); rw [Try.ntmps148]
  refine strLen 0 rfl fun hfs => ?_
  refine AW.fact 0 fun hf => ?_
  simp (disch := omega) only [go_sem, Nat.reduceBEq] at hf
  have hf := Nat.le_trans hf (hL.le 1)
  (repeat' (first | (with_reducible first | refine Z ?_ | refine Y ?_ | (refine hK _ _ ?_; clear hK K) | exact trivial | refine And.intro ?_ ?_) | (refine AW.i rfl (fun h => ?_) (fun h => ?_) <;> try simp only [hC, reduceCtorEq] at h) | with_reducible rfl | with_reducible refine E ?_ | refine eF rfl ?_ | (with_reducible refine fun (K : _ → _ → Prop) hK => ?_) | (with_reducible show drawOK _ _ = true; kernel_rfl) | (with_reducible refine gI fun hg => ?_; try simp only [hC, reduceCtorEq] at hg; try simp only [hg]) | simp (maxSteps := 2000000) (disch := omega) only [go_sem] | (with_reducible intro hg; try simp only [hC, reduceCtorEq] at hg) | (with_reducible show List.Nodup _; decide) | (with_reducible show (_ : Bool) = false; first | rfl | (simp [*]; done)) | with_reducible exact at8_le _ _ | with_reducible exact at8_ge _ _ | (simp only [hC, reduceCtorEq]; omega) | omega | with_reducible assumption | (with_reducible show (_ : Bool) = true; first | (simp [*]; done) | (simp only [hC, reduceCtorEq]; (repeat' (first | assumption | apply And.intro)); done))))
  · rw [szSl_neg h]
  rw [szSl_pos h]
  refine AW.loopV [1, 5] [0] (fun m xs o => ∃ (k : Nat) (q : Int), xs = [.v (.int .i64 q), .v (.int .i64 k)] ∧ o = [] ∧ m = l.length - k ∧ k ≤ l.length ∧ 0 ≤ q ∧ q ≤ 1048576 ∧ szGo szStr (l.drop k) q = szGo szStr l (r - l.length)) l.length [] trivial ⟨0, _, ?_, rfl, rfl, ?_, ?_, ?_, rfl⟩ ?_
  · rfl
  · omega
  · omega
  · omega
  rintro m xs o ⟨k, q, rfl, rfl, rfl, hk, h0, h1, hR⟩
  have hle := szStr_le (at_ l k) q h0
  have hse := hfs k
  have hsz : szStr (at_ l k) q = q - (at_ l k).length := rfl
  (repeat' (first | (with_reducible first | refine Z ?_ | refine Y ?_ | (refine hK _ _ ?_; clear hK K) | exact trivial | refine And.intro ?_ ?_) | (refine AW.i rfl (fun h => ?_) (fun h => ?_) <;> try simp only [hC, reduceCtorEq] at h) | with_reducible rfl | with_reducible refine E ?_ | refine eF rfl ?_ | (with_reducible refine fun (K : _ → _ → Prop) hK => ?_) | (with_reducible show drawOK _ _ = true; kernel_rfl) | (with_reducible refine gI fun hg => ?_; try simp only [hC, reduceCtorEq] at hg; try simp only [hg]) | simp (maxSteps := 2000000) (disch := omega) only [go_sem] | (with_reducible intro hg; try simp only [hC, reduceCtorEq] at hg) | (with_reducible show List.Nodup _; decide) | (with_reducible show (_ : Bool) = false; first | rfl | (simp [*]; done)) | with_reducible exact at8_le _ _ | with_reducible exact at8_ge _ _ | (simp only [hC, reduceCtorEq]; omega) | omega | with_reducible assumption | (with_reducible show (_ : Bool) = true; first | (simp [*]; done) | (simp only [hC, reduceCtorEq]; (repeat' (first | assumption | apply And.intro)); done))))
  · rw [szGo_at (by assumption), if_pos (by first | exact h | (rw [hsz]; exact h))] at hR; rw [hR]
  · rw [szGo_at (by assumption), if_neg (by omega)] at hR
    exact ⟨_, [_, _], [], by omega, ⟨k + 1, _, rfl, rfl, rfl, by omega, by omega, by omega, hR⟩, rfl, trivial⟩
  · rw [szGo_end h] at hR; rw [hR]
instance toStringS_i (l : List Str) : Ctr lim Try.prog 149 [] [.sl false 1 (l.map AV.str)] (.sl true 1 (l.map AV.str)) [] True := by
  refine Ctr.of_body en149 Try.func149 rfl rfl fun hp => (?_); rw [Try.ntmps149]
  refine AW.fact 0 fun hf => ?_
  simp (disch := omega) only [go_sem, Nat.reduceBEq] at hf
  (repeat' (first | (with_reducible first | refine Z ?_ | refine Y ?_ | (refine hK _ _ ?_; clear hK K) | exact trivial | refine And.intro ?_ ?_) | (refine AW.i rfl (fun h => ?_) (fun h => ?_) <;> try simp only [hC, reduceCtorEq] at h) | with_reducible rfl | with_reducible refine E ?_ | refine eF rfl ?_ | (with_reducible refine fun (K : _ → _ → Prop) hK => ?_) | (with_reducible show drawOK _ _ = true; kernel_rfl) | (with_reducible refine gI fun hg => ?_; try simp only [hC, reduceCtorEq] at hg; try simp only [hg]) | simp (maxSteps := 2000000) (disch := omega) only [go_sem] | (with_reducible intro hg; try simp only [hC, reduceCtorEq] at hg) | (with_reducible show List.Nodup _; decide) | (with_reducible show (_ : Bool) = false; first | rfl | (simp [*]; done)) | with_reducible exact at8_le _ _ | with_reducible exact at8_ge _ _ | (simp only [hC, reduceCtorEq]; omega) | omega | with_reducible assumption | (with_reducible show (_ : Bool) = true; first | (simp [*]; done) | (simp only [hC, reduceCtorEq]; (repeat' (first | assumption | apply And.intro)); done))))
  refine AW.loopV [4] [0, 3] (fun m xs o => ∃ k : Nat, xs = [.v (.int .i64 k)] ∧ o = [(hg, some (mkC AV.str [.string ⟨#[]⟩] l k))] ∧ m = l.length - k ∧ k ≤ l.length) l.length [(hg, some (mkC AV.str [.string ⟨#[]⟩] l 0))] (subO_one (mkC_zero _ _ _)) ⟨0, ?_, rfl, rfl, ?_⟩ ?_
  · rfl
  · omega
  rintro m xs o ⟨k, rfl, rfl, rfl, hk⟩
  have hml := mkC_len AV.str [.string ⟨#[]⟩] 1 (fun _ => rfl) rfl l k hk
  (repeat' (first | (with_reducible first | refine Z ?_ | refine Y ?_ | (refine hK _ _ ?_; clear hK K) | exact trivial | refine And.intro ?_ ?_) | (refine AW.i rfl (fun h => ?_) (fun h => ?_) <;> try simp only [hC, reduceCtorEq] at h) | with_reducible rfl | (with_reducible refine fun (K : _ → _ → Prop) hK => ?_) | (with_reducible show drawOK _ _ = true; kernel_rfl) | (with_reducible refine gI fun hg => ?_; try simp only [hC, reduceCtorEq] at hg; try simp only [hg]) | simp (maxSteps := 2000000) (disch := omega) only [go_sem] | (with_reducible intro hg; try simp only [hC, reduceCtorEq] at hg) | (with_reducible show List.Nodup _; decide) | (with_reducible show (_ : Bool) = false; first | rfl | (simp [*]; done)) | with_reducible exact at8_le _ _ | with_reducible exact at8_ge _ _ | (simp only [hC, reduceCtorEq]; omega) | omega | with_reducible assumption | (with_reducible show (_ : Bool) = true; first | (simp [*]; done) | (simp only [hC, reduceCtorEq]; (repeat' (first | assumption | apply And.intro)); done))))
  · exact ⟨_, [_], _, by omega, ⟨k + 1, rfl, rfl, rfl, by omega⟩, rfl, subO_one (by have := mkC_at AV.str [.string ⟨#[]⟩] 1 (fun _ => rfl) rfl l k h; simp only [go_sem, Nat.mul_one] at this ⊢; exact this.symm)⟩
  · refine AW.made 2 rfl h hk (fun _ => rfl) ?_
    (repeat' (first | (with_reducible first | refine Z ?_ | refine Y ?_ | (refine hK _ _ ?_; clear hK K) | exact trivial | refine And.intro ?_ ?_) | (refine AW.i rfl (fun h => ?_) (fun h => ?_) <;> try simp only [hC, reduceCtorEq] at h) | with_reducible rfl | with_reducible refine E ?_ | refine eF rfl ?_ | (with_reducible refine fun (K : _ → _ → Prop) hK => ?_) | (with_reducible show drawOK _ _ = true; kernel_rfl) | (with_reducible refine gI fun hg => ?_; try simp only [hC, reduceCtorEq] at hg; try simp only [hg]) | simp (maxSteps := 2000000) (disch := omega) only [go_sem] | (with_reducible intro hg; try simp only [hC, reduceCtorEq] at hg) | (with_reducible show List.Nodup _; decide) | (with_reducible show (_ : Bool) = false; first | rfl | (simp [*]; done)) | with_reducible exact at8_le _ _ | with_reducible exact at8_ge _ _ | (simp only [hC, reduceCtorEq]; omega) | omega | with_reducible assumption | (with_reducible show (_ : Bool) = true; first | (simp [*]; done) | (simp only [hC, reduceCtorEq]; (repeat' (first | assumption | apply And.intro)); done))))
instance eqRange_i (L : Nat → Nat) [hL : Lok L] (x : GRange) : Ctr L Try.prog 178 [] [.agg [.v (.int .i64 x.fLo), .v (.int .i64 x.fHi)], .agg [.v (.int .i64 x.fLo), .v (.int .i64 x.fHi)]] (.v (.bool true)) [] True := by
  refine Ctr.of_body en178 Try.func178 rfl rfl fun hp => (?_); rw [Try.ntmps178]
  (repeat' (first | (with_reducible first | refine Z ?_ | refine Y ?_ | (refine hK _ _ ?_; clear hK K) | exact trivial | refine And.intro ?_ ?_) | (refine AW.i rfl (fun h => ?_) (fun h => ?_) <;> try simp only [hC, reduceCtorEq] at h) | with_reducible rfl | with_reducible refine E ?_ | refine eF rfl ?_ | (with_reducible refine fun (K : _ → _ → Prop) hK => ?_) | (with_reducible show drawOK _ _ = true; kernel_rfl) | (with_reducible refine gI fun hg => ?_; try simp only [hC, reduceCtorEq] at hg; try simp only [hg]) | simp (maxSteps := 2000000) (disch := omega) only [go_sem] | (with_reducible intro hg; try simp only [hC, reduceCtorEq] at hg) | (with_reducible show List.Nodup _; decide) | (with_reducible show (_ : Bool) = false; first | rfl | (simp [*]; done)) | with_reducible exact at8_le _ _ | with_reducible exact at8_ge _ _ | (simp only [hC, reduceCtorEq]; omega) | omega | with_reducible assumption | (with_reducible show (_ : Bool) = true; first | (simp [*]; done) | (simp only [hC, reduceCtorEq]; (repeat' (first | assumption | apply And.intro)); done))))
instance eqRangeS_i (L : Nat → Nat) [hL : Lok L] (l : List GRange) : Ctr L Try.prog 169 [] [.sl false 2 (l.map (encRange false)), .sl false 2 (l.map (encRange false))] (.v (.bool true)) [] True := by
  refine Ctr.of_body en169 Try.func169 rfl rfl fun hp => (?_); rw [Try.ntmps169]
  refine AW.fact 0 fun hf => ?_
  simp (disch := omega) only [go_sem, Nat.reduceBEq] at hf
  have hf := Nat.le_trans hf (hL.le 2)
  (repeat' (first | (with_reducible first | refine Z ?_ | refine Y ?_ | (refine hK _ _ ?_; clear hK K) | exact trivial | refine And.intro ?_ ?_) | (refine AW.i rfl (fun h => ?_) (fun h => ?_) <;> try simp only [hC, reduceCtorEq] at h) | with_reducible rfl | with_reducible refine E ?_ | refine eF rfl ?_ | (with_reducible refine fun (K : _ → _ → Prop) hK => ?_) | (with_reducible show drawOK _ _ = true; kernel_rfl) | (with_reducible refine gI fun hg => ?_; try simp only [hC, reduceCtorEq] at hg; try simp only [hg]) | simp (maxSteps := 2000000) (disch := omega) only [go_sem] | (with_reducible intro hg; try simp only [hC, reduceCtorEq] at hg) | (with_reducible show List.Nodup _; decide) | (with_reducible show (_ : Bool) = false; first | rfl | (simp [*]; done)) | with_reducible exact at8_le _ _ | with_reducible exact at8_ge _ _ | (simp only [hC, reduceCtorEq]; omega) | omega | with_reducible assumption | (with_reducible show (_ : Bool) = true; first | (simp [*]; done) | (simp only [hC, reduceCtorEq]; (repeat' (first | assumption | apply And.intro)); done))))
  refine AW.loopV [5] [0, 1] (fun m xs o => ∃ k : Nat, xs = [.v (.int .i64 k)] ∧ o = [] ∧ m = l.length - k ∧ k ≤ l.length) l.length [] trivial ⟨0, ?_, rfl, rfl, ?_⟩ ?_
  · rfl
  · omega
  rintro m xs o ⟨k, rfl, rfl, rfl, hk⟩
  (repeat' (first | (with_reducible first | refine Z ?_ | refine Y ?_ | (refine hK _ _ ?_; clear hK K) | exact trivial | refine And.intro ?_ ?_) | (refine AW.i rfl (fun h => ?_) (fun h => ?_) <;> try simp only [hC, reduceCtorEq] at h) | with_reducible rfl | with_reducible refine E ?_ | refine eF rfl ?_ | (with_reducible refine fun (K : _ → _ → Prop) hK => ?_) | (with_reducible show drawOK _ _ = true; kernel_rfl) | (with_reducible refine gI fun hg => ?_; try simp only [hC, reduceCtorEq] at hg; try simp only [hg]) | simp (maxSteps := 2000000) (disch := omega) only [go_sem] | (with_reducible intro hg; try simp only [hC, reduceCtorEq] at hg) | (with_reducible show List.Nodup _; decide) | (with_reducible show (_ : Bool) = false; first | rfl | (simp [*]; done)) | with_reducible exact at8_le _ _ | with_reducible exact at8_ge _ _ | (simp only [hC, reduceCtorEq]; omega) | omega | with_reducible assumption | (with_reducible show (_ : Bool) = true; first | (simp [*]; done) | (simp only [hC, reduceCtorEq]; (repeat' (first | assumption | apply And.intro)); done))))
  exact ⟨_, [_], [], by omega, ⟨k + 1, rfl, rfl, rfl, by omega⟩, rfl, trivial⟩
theorem szGo_Range : ∀ (l : List GRange) (r : Int), 0 ≤ r → szGo szRange l r = r
  | [], _, _ => rfl
  | x :: xs, r, h => by
    rw [szGo, show szRange x r = r from rfl, thn, if_neg (by omega)]; exact szGo_Range xs r h
instance szRangeS_i (L : Nat → Nat) [hL : Lok L] (l : List GRange) (r : Int) : Ctr L Try.prog 165 [] [.sl false 2 (l.map (encRange false)), .v (.int .i64 r)] (.v (.int .i64 (szSl szRange l r))) [] (0 ≤ r ∧ r ≤ 1048576) := by
  refine Ctr.of_body en165 Try.func165 rfl rfl fun hp => (?_); rw [Try.ntmps165]
  refine AW.fact 0 fun hf => ?_
  simp (disch := omega) only [go_sem, Nat.reduceBEq] at hf
  have hf := Nat.le_trans hf (hL.le 2)
  (repeat' (first | (with_reducible first | refine Z ?_ | refine Y ?_ | (refine hK _ _ ?_; clear hK K) | exact trivial | refine And.intro ?_ ?_) | (refine AW.i rfl (fun h => ?_) (fun h => ?_) <;> try simp only [hC, reduceCtorEq] at h) | with_reducible rfl | with_reducible refine E ?_ | refine eF rfl ?_ | (with_reducible refine fun (K : _ → _ → Prop) hK => ?_) | (with_reducible show drawOK _ _ = true; kernel_rfl) | (with_reducible refine gI fun hg => ?_; try simp only [hC, reduceCtorEq] at hg; try simp only [hg]) | simp (maxSteps := 2000000) (disch := omega) only [go_sem] | (with_reducible intro hg; try simp only [hC, reduceCtorEq] at hg) | (with_reducible show List.Nodup _; decide) | (with_reducible show (_ : Bool) = false; first | rfl | (simp [*]; done)) | with_reducible exact at8_le _ _ | with_reducible exact at8_ge _ _ | (simp only [hC, reduceCtorEq]; omega) | omega | with_reducible assumption | (with_reducible show (_ : Bool) = true; first | (simp [*]; done) | (simp only [hC, reduceCtorEq]; (repeat' (first | assumption | apply And.intro)); done))))
  · rw [szSl_neg h]
  · rw [szSl_pos h, szGo_Range _ _ h]
instance toRange_i (x : GRange) : Ctr lim Try.prog 175 [] [.agg [.v (.int .i64 x.fLo), .v (.int .i64 x.fHi)]] (.agg [.v (.int .i64 x.fLo), .v (.int .i64 x.fHi)]) [] True := by
  refine Ctr.of_body en175 Try.func175 rfl rfl fun hp => (?_); rw [Try.ntmps175]
  (repeat' (first | (with_reducible first | refine Z ?_ | refine Y ?_ | (refine hK _ _ ?_; clear hK K) | exact trivial | refine And.intro ?_ ?_) | (refine AW.i rfl (fun h => ?_) (fun h => ?_) <;> try simp only [hC, reduceCtorEq] at h) | with_reducible rfl | with_reducible refine E ?_ | refine eF rfl ?_ | (with_reducible refine fun (K : _ → _ → Prop) hK => ?_) | (with_reducible show drawOK _ _ = true; kernel_rfl) | (with_reducible refine gI fun hg => ?_; try simp only [hC, reduceCtorEq] at hg; try simp only [hg]) | simp (maxSteps := 2000000) (disch := omega) only [go_sem] | (with_reducible intro hg; try simp only [hC, reduceCtorEq] at hg) | (with_reducible show List.Nodup _; decide) | (with_reducible show (_ : Bool) = false; first | rfl | (simp [*]; done)) | with_reducible exact at8_le _ _ | with_reducible exact at8_ge _ _ | (simp only [hC, reduceCtorEq]; omega) | omega | with_reducible assumption | (with_reducible show (_ : Bool) = true; first | (simp [*]; done) | (simp only [hC, reduceCtorEq]; (repeat' (first | assumption | apply And.intro)); done))))
instance toRangeS_i (l : List GRange) : Ctr lim Try.prog 167 [] [.sl false 2 (l.map (encRange false))] (.sl true 2 (l.map (encRange true))) [] True := by
  refine Ctr.of_body en167 Try.func167 rfl rfl fun hp => (?_); rw [Try.ntmps167]
  refine AW.fact 0 fun hf => ?_
  simp (disch := omega) only [go_sem, Nat.reduceBEq] at hf
  (repeat' (first | (with_reducible first | refine Z ?_ | refine Y ?_ | (refine hK _ _ ?_; clear hK K) | exact trivial | refine And.intro ?_ ?_) | (refine AW.i rfl (fun h => ?_) (fun h => ?_) <;> try simp only [hC, reduceCtorEq] at h) | with_reducible rfl | with_reducible refine E ?_ | refine eF rfl ?_ | (with_reducible refine fun (K : _ → _ → Prop) hK => ?_) | (with_reducible show drawOK _ _ = true; kernel_rfl) | (with_reducible refine gI fun hg => ?_; try simp only [hC, reduceCtorEq] at hg; try simp only [hg]) | simp (maxSteps := 2000000) (disch := omega) only [go_sem] | (with_reducible intro hg; try simp only [hC, reduceCtorEq] at hg) | (with_reducible show List.Nodup _; decide) | (with_reducible show (_ : Bool) = false; first | rfl | (simp [*]; done)) | with_reducible exact at8_le _ _ | with_reducible exact at8_ge _ _ | (simp only [hC, reduceCtorEq]; omega) | omega | with_reducible assumption | (with_reducible show (_ : Bool) = true; first | (simp [*]; done) | (simp only [hC, reduceCtorEq]; (repeat' (first | assumption | apply And.intro)); done))))
  refine AW.loopV [4] [0, 3] (fun m xs o => ∃ k : Nat, xs = [.v (.int .i64 k)] ∧ o = [(hg, some (mkC (encRange true) [.int .i64 0, .int .i64 0] l k))] ∧ m = l.length - k ∧ k ≤ l.length) l.length [(hg, some (mkC (encRange true) [.int .i64 0, .int .i64 0] l 0))] (subO_one (mkC_zero _ _ _)) ⟨0, ?_, rfl, rfl, ?_⟩ ?_
  · rfl
  · omega
  rintro m xs o ⟨k, rfl, rfl, rfl, hk⟩
  have hml := mkC_len (encRange true) [.int .i64 0, .int .i64 0] 2 (fun _ => rfl) rfl l k hk
  (repeat' (first | (with_reducible first | refine Z ?_ | refine Y ?_ | (refine hK _ _ ?_; clear hK K) | exact trivial | refine And.intro ?_ ?_) | (refine AW.i rfl (fun h => ?_) (fun h => ?_) <;> try simp only [hC, reduceCtorEq] at h) | with_reducible rfl | (with_reducible refine fun (K : _ → _ → Prop) hK => ?_) | (with_reducible show drawOK _ _ = true; kernel_rfl) | (with_reducible refine gI fun hg => ?_; try simp only [hC, reduceCtorEq] at hg; try simp only [hg]) | simp (maxSteps := 2000000) (disch := omega) only [go_sem] | (with_reducible intro hg; try simp only [hC, reduceCtorEq] at hg) | (with_reducible show List.Nodup _; decide) | (with_reducible show (_ : Bool) = false; first | rfl | (simp [*]; done)) | with_reducible exact at8_le _ _ | with_reducible exact at8_ge _ _ | (simp only [hC, reduceCtorEq]; omega) | omega | with_reducible assumption | (with_reducible show (_ : Bool) = true; first | (simp [*]; done) | (simp only [hC, reduceCtorEq]; (repeat' (first | assumption | apply And.intro)); done))))
  · exact ⟨_, [_], _, by omega, ⟨k + 1, rfl, rfl, rfl, by omega⟩, rfl, subO_one (by have := mkC_at (encRange true) [.int .i64 0, .int .i64 0] 2 (fun _ => rfl) rfl l k h; simp only [go_sem, Nat.mul_one] at this ⊢; exact this.symm)⟩
  · refine AW.made 2 rfl h hk (fun _ => rfl) ?_
    (repeat' (first | (with_reducible first | refine Z ?_ | refine Y ?_ | (refine hK _ _ ?_; clear hK K) | exact trivial | refine And.intro ?_ ?_) | (refine AW.i rfl (fun h => ?_) (fun h => ?_) <;> try simp only [hC, reduceCtorEq] at h) | with_reducible rfl | with_reducible refine E ?_ | refine eF rfl ?_ | (with_reducible refine fun (K : _ → _ → Prop) hK => ?_) | (with_reducible show drawOK _ _ = true; kernel_rfl) | (with_reducible refine gI fun hg => ?_; try simp only [hC, reduceCtorEq] at hg; try simp only [hg]) | simp (maxSteps := 2000000) (disch := omega) only [go_sem] | (with_reducible intro hg; try simp only [hC, reduceCtorEq] at hg) | (with_reducible show List.Nodup _; decide) | (with_reducible show (_ : Bool) = false; first | rfl | (simp [*]; done)) | with_reducible exact at8_le _ _ | with_reducible exact at8_ge _ _ | (simp only [hC, reduceCtorEq]; omega) | omega | with_reducible assumption | (with_reducible show (_ : Bool) = true; first | (simp [*]; done) | (simp only [hC, reduceCtorEq]; (repeat' (first | assumption | apply And.intro)); done))))
instance eqType_i (L : Nat → Nat) [hL : Lok L] (x : GType) : Ctr L Try.prog 158 [] [.agg [.v (.int .i64 x.fKind), .sl false 2 (x.fRanges.map (encRange false)), .sl false 1 (x.fNames.map AV.str), .str x.fPattern, .str x.fPath], .agg [.v (.int .i64 x.fKind), .sl false 2 (x.fRanges.map (encRange false)), .sl false 1 (x.fNames.map AV.str), .str x.fPattern, .str x.fPath]] (.v (.bool true)) [] True := by
  refine Ctr.of_body en158 Try.func158 rfl rfl fun hp => (?_); rw [Try.ntmps158]
  (repeat' (first | (with_reducible first | refine Z ?_ | refine Y ?_ | (refine hK _ _ ?_; clear hK K) | exact trivial | refine And.intro ?_ ?_) | (refine AW.i rfl (fun h => ?_) (fun h => ?_) <;> try simp only [hC, reduceCtorEq] at h) | with_reducible rfl | with_reducible refine E ?_ | refine eF rfl ?_ | (with_reducible refine fun (K : _ → _ → Prop) hK => ?_) | (with_reducible show drawOK _ _ = true; kernel_rfl) | (with_reducible refine gI fun hg => ?_; try simp only [hC, reduceCtorEq] at hg; try simp only [hg]) | simp (maxSteps := 2000000) (disch := omega) only [go_sem] | (with_reducible intro hg; try simp only [hC, reduceCtorEq] at hg) | (with_reducible show List.Nodup _; decide) | (with_reducible show (_ : Bool) = false; first | rfl | (simp [*]; done)) | with_reducible exact at8_le _ _ | with_reducible exact at8_ge _ _ | (simp only [hC, reduceCtorEq]; omega) | omega | with_reducible assumption | (with_reducible show (_ : Bool) = true; first | (simp [*]; done) | (simp only [hC, reduceCtorEq]; (repeat' (first | assumption | apply And.intro)); done))))
instance szType_i (L : Nat → Nat) [hL : Lok L] (x : GType) (r : Int) : Ctr L Try.prog 152 [] [.agg [.v (.int .i64 x.fKind), .sl false 2 (x.fRanges.map (encRange false)), .sl false 1 (x.fNames.map AV.str), .str x.fPattern, .str x.fPath], .v (.int .i64 r)] (.v (.int .i64 (szType x r))) [] (0 ≤ r ∧ r ≤ 1048576) := by
  refine Ctr.of_body en152 Try.func152 rfl rfl fun hp => (?_); rw [Try.ntmps152]
  refine AW.fact 0 fun hf => ?_
  simp (disch := omega) only [go_sem, Nat.reduceBEq] at hf
  have le0 := szSl_le szRange szRange_le x.fRanges r
  have le1 := szSl_le szStr szStr_le x.fNames (szSl szRange x.fRanges r)
  unfold szType
  (repeat' (first | (with_reducible first | refine Z ?_ | refine Y ?_ | (refine hK _ _ ?_; clear hK K) | exact trivial | refine And.intro ?_ ?_) | (refine AW.i rfl (fun h => ?_) (fun h => ?_) <;> try simp only [hC, reduceCtorEq] at h) | with_reducible rfl | with_reducible refine E ?_ | refine eF rfl ?_ | (with_reducible refine fun (K : _ → _ → Prop) hK => ?_) | (with_reducible show drawOK _ _ = true; kernel_rfl) | (with_reducible refine gI fun hg => ?_; try simp only [hC, reduceCtorEq] at hg; try simp only [hg]) | simp (maxSteps := 2000000) (disch := omega) only [go_sem] | (with_reducible intro hg; try simp only [hC, reduceCtorEq] at hg) | (with_reducible show List.Nodup _; decide) | (with_reducible show (_ : Bool) = false; first | rfl | (simp [*]; done)) | with_reducible exact at8_le _ _ | with_reducible exact at8_ge _ _ | (simp only [hC, reduceCtorEq]; omega) | omega | with_reducible assumption | (with_reducible show (_ : Bool) = true; first | (simp [*]; done) | (simp only [hC, reduceCtorEq]; (repeat' (first | assumption | apply And.intro)); done))))
  all_goals simp only [thn, szStr, id]
  all_goals refine congrArg (fun z => AV.v (.int .i64 z)) ?_
  all_goals (repeat' split)
  all_goals omega
instance toType_i (x : GType) : Ctr lim Try.prog 154 [] [.agg [.v (.int .i64 x.fKind), .sl false 2 (x.fRanges.map (encRange false)), .sl false 1 (x.fNames.map AV.str), .str x.fPattern, .str x.fPath]] (.agg [.v (.int .i64 x.fKind), .sl true 2 (x.fRanges.map (encRange true)), .sl true 1 (x.fNames.map AV.str), .str x.fPattern, .str x.fPath]) [] True := by
  refine Ctr.of_body en154 Try.func154 rfl rfl fun hp => (?_); rw [Try.ntmps154]
  (repeat' (first | (with_reducible first | refine Z ?_ | refine Y ?_ | (refine hK _ _ ?_; clear hK K) | exact trivial | refine And.intro ?_ ?_) | (refine AW.i rfl (fun h => ?_) (fun h => ?_) <;> try simp only [hC, reduceCtorEq] at h) | with_reducible rfl | with_reducible refine E ?_ | refine eF rfl ?_ | (with_reducible refine fun (K : _ → _ → Prop) hK => ?_) | (with_reducible show drawOK _ _ = true; kernel_rfl) | (with_reducible refine gI fun hg => ?_; try simp only [hC, reduceCtorEq] at hg; try simp only [hg]) | simp (maxSteps := 2000000) (disch := omega) only [go_sem] | (with_reducible intro hg; try simp only [hC, reduceCtorEq] at hg) | (with_reducible show List.Nodup _; decide) | (with_reducible show (_ : Bool) = false; first | rfl | (simp [*]; done)) | with_reducible exact at8_le _ _ | with_reducible exact at8_ge _ _ | (simp only [hC, reduceCtorEq]; omega) | omega | with_reducible assumption | (with_reducible show (_ : Bool) = true; first | (simp [*]; done) | (simp only [hC, reduceCtorEq]; (repeat' (first | assumption | apply And.intro)); done))))
end Go.Proofs.Ytkdchlggdcmkbaa
namespace Go.Proofs.Ytkdchlggdcmkbaa
open Go.Ab Go.Dt
set_option maxRecDepth 20000
set_option maxHeartbeats 4000000
theorem GNode.kids_lt {x : GNode} {l : List GNode} (h : x ∈ l) : SizeOf.sizeOf x.fKids < SizeOf.sizeOf l := by
  have := List.sizeOf_lt_of_mem h
  cases x; simp [GNode.fKids] at *; omega
theorem eqNode_n (L : Nat → Nat) [hL : Lok L] (n : Nat) (ih : ∀ l : List GNode, Ctr L Try.prog 93 [] [.sl false 3 (l.map (encNode false)), .sl false 3 (l.map (encNode false))] (.v (.bool true)) [] (SizeOf.sizeOf l < n)) (x : GNode) : Ctr L Try.prog 137 [] [.agg [.str x.fName, .str x.fValue, .sl false 3 (x.fKids.map (encNode false))], .agg [.str x.fName, .str x.fValue, .sl false 3 (x.fKids.map (encNode false))]] (.v (.bool true)) [] (SizeOf.sizeOf x.fKids < n) := by
  refine Ctr.of_body en137 Try.func137 rfl rfl fun hp => (?_); rw [Try.ntmps137]
  (repeat' (first | (with_reducible first | refine Z ?_ | refine Y ?_ | (refine hK _ _ ?_; clear hK K) | exact trivial | refine And.intro ?_ ?_) | (refine AW.i rfl (fun h => ?_) (fun h => ?_) <;> try simp only [hC, reduceCtorEq] at h) | with_reducible rfl | with_reducible refine E ?_ | refine eF rfl ?_ | (with_reducible refine fun (K : _ → _ → Prop) hK => ?_) | (with_reducible show drawOK _ _ = true; kernel_rfl) | (with_reducible refine gI fun hg => ?_; try simp only [hC, reduceCtorEq] at hg; try simp only [hg]) | simp (maxSteps := 2000000) (disch := omega) only [go_sem] | (with_reducible intro hg; try simp only [hC, reduceCtorEq] at hg) | (with_reducible show List.Nodup _; decide) | (with_reducible show (_ : Bool) = false; first | rfl | (simp [*]; done)) | with_reducible exact at8_le _ _ | with_reducible exact at8_ge _ _ | (simp only [hC, reduceCtorEq]; omega) | omega | with_reducible assumption | (with_reducible show (_ : Bool) = true; first | (simp [*]; done) | (simp only [hC, reduceCtorEq]; (repeat' (first | assumption | apply And.intro)); done))))
theorem eqNodeS_n (L : Nat → Nat) [hL : Lok L] : ∀ (n : Nat) (l : List GNode), Ctr L Try.prog 93 [] [.sl false 3 (l.map (encNode false)), .sl false 3 (l.map (encNode false))] (.v (.bool true)) [] (SizeOf.sizeOf l < n)
  | 0, l => ⟨en93, fun h => absurd h (Nat.not_lt_zero _)⟩
  | n + 1, l => by
    have hx := eqNode_n L n (eqNodeS_n L n)
    refine Ctr.of_body en93 Try.func93 rfl rfl fun hp => (?_); rw [Try.ntmps93]
    refine AW.fact 0 fun hf => ?_
    simp (disch := omega) only [go_sem, Nat.reduceBEq] at hf
    have hf := Nat.le_trans hf (hL.le 3)
    (repeat' (first | (with_reducible first | refine Z ?_ | refine Y ?_ | (refine hK _ _ ?_; clear hK K) | exact trivial | refine And.intro ?_ ?_) | (refine AW.i rfl (fun h => ?_) (fun h => ?_) <;> try simp only [hC, reduceCtorEq] at h) | with_reducible rfl | with_reducible refine E ?_ | refine eF rfl ?_ | (with_reducible refine fun (K : _ → _ → Prop) hK => ?_) | (with_reducible show drawOK _ _ = true; kernel_rfl) | (with_reducible refine gI fun hg => ?_; try simp only [hC, reduceCtorEq] at hg; try simp only [hg]) | simp (maxSteps := 2000000) (disch := omega) only [go_sem] | (with_reducible intro hg; try simp only [hC, reduceCtorEq] at hg) | (with_reducible show List.Nodup _; decide) | (with_reducible show (_ : Bool) = false; first | rfl | (simp [*]; done)) | with_reducible exact at8_le _ _ | with_reducible exact at8_ge _ _ | (simp only [hC, reduceCtorEq]; omega) | omega | with_reducible assumption | (with_reducible show (_ : Bool) = true; first | (simp [*]; done) | (simp only [hC, reduceCtorEq]; (repeat' (first | assumption | apply And.intro)); done))))
    refine AW.loopV [5] [0, 1] (fun m xs o => ∃ k : Nat, xs = [.v (.int .i64 k)] ∧ o = [] ∧ m = l.length - k ∧ k ≤ l.length) l.length [] trivial ⟨0, ?_, rfl, rfl, ?_⟩ ?_
    · rfl
    · omega
    rintro m xs o ⟨k, rfl, rfl, rfl, hk⟩
    have hkk : k < l.length → SizeOf.sizeOf (at_ l k).fKids < n := fun h => by have := GNode.kids_lt (at_mem h); omega
    (repeat' (first | (with_reducible first | refine Z ?_ | refine Y ?_ | (refine hK _ _ ?_; clear hK K) | exact trivial | refine And.intro ?_ ?_) | (refine AW.i rfl (fun h => ?_) (fun h => ?_) <;> try simp only [hC, reduceCtorEq] at h) | with_reducible rfl | with_reducible refine E ?_ | refine eF rfl ?_ | (with_reducible refine fun (K : _ → _ → Prop) hK => ?_) | (with_reducible show drawOK _ _ = true; kernel_rfl) | (with_reducible refine gI fun hg => ?_; try simp only [hC, reduceCtorEq] at hg; try simp only [hg]) | simp (maxSteps := 2000000) (disch := omega) only [go_sem] | (with_reducible intro hg; try simp only [hC, reduceCtorEq] at hg) | (with_reducible show List.Nodup _; decide) | (with_reducible show (_ : Bool) = false; first | rfl | (simp [*]; done)) | with_reducible exact at8_le _ _ | with_reducible exact at8_ge _ _ | (simp only [hC, reduceCtorEq]; omega) | omega | with_reducible assumption | (with_reducible show (_ : Bool) = true; first | (simp [*]; done) | (simp only [hC, reduceCtorEq]; (repeat' (first | assumption | apply And.intro)); done))))
    exact ⟨_, [_], [], by omega, ⟨k + 1, rfl, rfl, rfl, by omega⟩, rfl, trivial⟩
instance eqNodeS_i (L : Nat → Nat) [hL : Lok L] (l : List GNode) : Ctr L Try.prog 93 [] [.sl false 3 (l.map (encNode false)), .sl false 3 (l.map (encNode false))] (.v (.bool true)) [] True := ⟨en93, fun _ => (eqNodeS_n L (SizeOf.sizeOf l + 1) l).out (Nat.lt_succ_self _)⟩
instance eqNode_i (L : Nat → Nat) [hL : Lok L] (x : GNode) : Ctr L Try.prog 137 [] [.agg [.str x.fName, .str x.fValue, .sl false 3 (x.fKids.map (encNode false))], .agg [.str x.fName, .str x.fValue, .sl false 3 (x.fKids.map (encNode false))]] (.v (.bool true)) [] True := ⟨en137, fun _ => (eqNode_n L (SizeOf.sizeOf x.fKids + 1) (eqNodeS_n L _) x).out (Nat.lt_succ_self _)⟩
theorem szNode_n (L : Nat → Nat) [hL : Lok L] (n : Nat) (ih : ∀ (l : List GNode) (r : Int), Ctr L Try.prog 79 [] [.sl false 3 (l.map (encNode false)), .v (.int .i64 r)] (.v (.int .i64 (szSl szNode l r))) [] (SizeOf.sizeOf l < n ∧ 0 ≤ r ∧ r ≤ 1048576)) (x : GNode) (r : Int) : Ctr L Try.prog 120 [] [.agg [.str x.fName, .str x.fValue, .sl false 3 (x.fKids.map (encNode false))], .v (.int .i64 r)] (.v (.int .i64 (szNode x r))) [] (SizeOf.sizeOf x.fKids < n ∧ 0 ≤ r ∧ r ≤ 1048576) := by
  refine Ctr.of_body en120 Try.func120 rfl rfl fun hp => (?_); rw [Try.ntmps120]
  refine AW.fact 0 fun hf => ?_
  simp (disch := omega) only [go_sem, Nat.reduceBEq] at hf
  have le2 := szSl_le szNode szNode_le x.fKids ((r - x.fName.length) - x.fValue.length)
  rw [szNode_eq]
  (repeat' (first | (with_reducible first | refine Z ?_ | refine Y ?_ | (refine hK _ _ ?_; clear hK K) | exact trivial | refine And.intro ?_ ?_) | (refine AW.i rfl (fun h => ?_) (fun h => ?_) <;> try simp only [hC, reduceCtorEq] at h) | with_reducible rfl | with_reducible refine E ?_ | refine eF rfl ?_ | (with_reducible refine fun (K : _ → _ → Prop) hK => ?_) | (with_reducible show drawOK _ _ = true; kernel_rfl) | (with_reducible refine gI fun hg => ?_; try simp only [hC, reduceCtorEq] at hg; try simp only [hg]) | simp (maxSteps := 2000000) (disch := omega) only [go_sem] | (with_reducible intro hg; try simp only [hC, reduceCtorEq] at hg) | (with_reducible show List.Nodup _; decide) | (with_reducible show (_ : Bool) = false; first | rfl | (simp [*]; done)) | with_reducible exact at8_le _ _ | with_reducible exact at8_ge _ _ | (simp only [hC, reduceCtorEq]; omega) | omega | with_reducible assumption | (with_reducible show (_ : Bool) = true; first | (simp [*]; done) | (simp only [hC, reduceCtorEq]; (repeat' (first | assumption | apply And.intro)); done))))
  all_goals simp only [thn, szStr, id]
  all_goals refine congrArg (fun z => AV.v (.int .i64 z)) ?_
  all_goals (repeat' split)
  all_goals omega
theorem szNodeS_n (L : Nat → Nat) [hL : Lok L] : ∀ (n : Nat) (l : List GNode) (r : Int), Ctr L Try.prog 79 [] [.sl false 3 (l.map (encNode false)), .v (.int .i64 r)] (.v (.int .i64 (szSl szNode l r))) [] (SizeOf.sizeOf l < n ∧ 0 ≤ r ∧ r ≤ 1048576)
  | 0, l, r => ⟨en79, fun h => absurd h.1 (Nat.not_lt_zero _)⟩
  | n + 1, l, r => by
    have hx := szNode_n L n (szNodeS_n L n)
    refine Ctr.of_body en79 Try.func79 rfl rfl fun hp => (?_); rw [Try.ntmps79]
    refine AW.fact 0 fun hf => ?_
    simp (disch := omega) only [go_sem, Nat.reduceBEq] at hf
    have hf := Nat.le_trans hf (hL.le 3)
    (repeat' (first | (with_reducible first | refine Z ?_ | refine Y ?_ | (refine hK _ _ ?_; clear hK K) | exact trivial | refine And.intro ?_ ?_) | (refine AW.i rfl (fun h => ?_) (fun h => ?_) <;> try simp only [hC, reduceCtorEq] at h) | with_reducible rfl | with_reducible refine E ?_ | refine eF rfl ?_ | (with_reducible refine fun (K : _ → _ → Prop) hK => ?_) | (with_reducible show drawOK _ _ = true; kernel_rfl) | (with_reducible refine gI fun hg => ?_; try simp only [hC, reduceCtorEq] at hg; try simp only [hg]) | simp (maxSteps := 2000000) (disch := omega) only [go_sem] | (with_reducible intro hg; try simp only [hC, reduceCtorEq] at hg) | (with_reducible show List.Nodup _; decide) | (with_reducible show (_ : Bool) = false; first | rfl | (simp [*]; done)) | with_reducible exact at8_le _ _ | with_reducible exact at8_ge _ _ | (simp only [hC, reduceCtorEq]; omega) | omega | with_reducible assumption | (with_reducible show (_ : Bool) = true; first | (simp [*]; done) | (simp only [hC, reduceCtorEq]; (repeat' (first | assumption | apply And.intro)); done))))
    · rw [szSl_neg h]
    rw [szSl_pos h]
    refine AW.loopV [1, 5] [0] (fun m xs o => ∃ (k : Nat) (q : Int), xs = [.v (.int .i64 q), .v (.int .i64 k)] ∧ o = [] ∧ m = l.length - k ∧ k ≤ l.length ∧ 0 ≤ q ∧ q ≤ 1048576 ∧ szGo szNode (l.drop k) q = szGo szNode l (r - l.length)) l.length [] trivial ⟨0, _, ?_, rfl, rfl, ?_, ?_, ?_, rfl⟩ ?_
    · rfl
    · omega
    · omega
    · omega
    rintro m xs o ⟨k, q, rfl, rfl, rfl, hk, h0, h1, hR⟩
    have hle := szNode_le (at_ l k) q h0
    have hkk : k < l.length → SizeOf.sizeOf (at_ l k).fKids < n := fun h => by have := GNode.kids_lt (at_mem h); omega
    (repeat' (first | (with_reducible first | refine Z ?_ | refine Y ?_ | (refine hK _ _ ?_; clear hK K) | exact trivial | refine And.intro ?_ ?_) | (refine AW.i rfl (fun h => ?_) (fun h => ?_) <;> try simp only [hC, reduceCtorEq] at h) | with_reducible rfl | with_reducible refine E ?_ | refine eF rfl ?_ | (with_reducible refine fun (K : _ → _ → Prop) hK => ?_) | (with_reducible show drawOK _ _ = true; kernel_rfl) | (with_reducible refine gI fun hg => ?_; try simp only [hC, reduceCtorEq] at hg; try simp only [hg]) | simp (maxSteps := 2000000) (disch := omega) only [go_sem] | (with_reducible intro hg; try simp only [hC, reduceCtorEq] at hg) | (with_reducible show List.Nodup _; decide) | (with_reducible show (_ : Bool) = false; first | rfl | (simp [*]; done)) | with_reducible exact at8_le _ _ | with_reducible exact at8_ge _ _ | (simp only [hC, reduceCtorEq]; omega) | omega | with_reducible assumption | (with_reducible show (_ : Bool) = true; first | (simp [*]; done) | (simp only [hC, reduceCtorEq]; (repeat' (first | assumption | apply And.intro)); done))))
    · rw [szGo_at (by assumption), if_pos (by first | exact h | (rw [hsz]; exact h))] at hR; rw [hR]
    · rw [szGo_at (by assumption), if_neg (by omega)] at hR
      exact ⟨_, [_, _], [], by omega, ⟨k + 1, _, rfl, rfl, rfl, by omega, by omega, by omega, hR⟩, rfl, trivial⟩
    · rw [szGo_end h] at hR; rw [hR]
instance szNodeS_i (L : Nat → Nat) [hL : Lok L] (l : List GNode) (r : Int) : Ctr L Try.prog 79 [] [.sl false 3 (l.map (encNode false)), .v (.int .i64 r)] (.v (.int .i64 (szSl szNode l r))) [] (0 ≤ r ∧ r ≤ 1048576) := ⟨en79, fun h => (szNodeS_n L (SizeOf.sizeOf l + 1) l r).out ⟨Nat.lt_succ_self _, h⟩⟩
instance szNode_i (L : Nat → Nat) [hL : Lok L] (x : GNode) (r : Int) : Ctr L Try.prog 120 [] [.agg [.str x.fName, .str x.fValue, .sl false 3 (x.fKids.map (encNode false))], .v (.int .i64 r)] (.v (.int .i64 (szNode x r))) [] (0 ≤ r ∧ r ≤ 1048576) := ⟨en120, fun h => (szNode_n L (SizeOf.sizeOf x.fKids + 1) (szNodeS_n L _) x r).out ⟨Nat.lt_succ_self _, h⟩⟩
theorem toNode_n (n : Nat) (ih : ∀ l : List GNode, Ctr lim Try.prog 86 [] [.sl false 3 (l.map (encNode false))] (.sl true 3 (l.map (encNode true))) [] (SizeOf.sizeOf l < n)) (x : GNode) : Ctr lim Try.prog 127 [] [.agg [.str x.fName, .str x.fValue, .sl false 3 (x.fKids.map (encNode false))]] (.agg [.str x.fName, .str x.fValue, .sl true 3 (x.fKids.map (encNode true))]) [] (SizeOf.sizeOf x.fKids < n) := by
  refine Ctr.of_body en127 Try.func127 rfl rfl fun hp => (?_); rw [Try.ntmps127]
  (repeat' (first | (with_reducible first | refine Z ?_ | refine Y ?_ | (refine hK _ _ ?_; clear hK K) | exact trivial | refine And.intro ?_ ?_) | (refine AW.i rfl (fun h => ?_) (fun h => ?_) <;> try simp only [hC, reduceCtorEq] at h) | with_reducible rfl | with_reducible refine E ?_ | refine eF rfl ?_ | (with_reducible refine fun (K : _ → _ → Prop) hK => ?_) | (with_reducible show drawOK _ _ = true; kernel_rfl) | (with_reducible refine gI fun hg => ?_; try simp only [hC, reduceCtorEq] at hg; try simp only [hg]) | simp (maxSteps := 2000000) (disch := omega) only [go_sem] | (with_reducible intro hg; try simp only [hC, reduceCtorEq] at hg) | (with_reducible show List.Nodup _; decide) | (with_reducible show (_ : Bool) = false; first | rfl | (simp [*]; done)) | with_reducible exact at8_le _ _ | with_reducible exact at8_ge _ _ | (simp only [hC, reduceCtorEq]; omega) | omega | with_reducible assumption | (with_reducible show (_ : Bool) = true; first | (simp [*]; done) | (simp only [hC, reduceCtorEq]; (repeat' (first | assumption | apply And.intro)); done))))
theorem toNodeS_n : ∀ (n : Nat) (l : List GNode), Ctr lim Try.prog 86 [] [.sl false 3 (l.map (encNode false))] (.sl true 3 (l.map (encNode true))) [] (SizeOf.sizeOf l < n)
  | 0, l => ⟨en86, fun h => absurd h (Nat.not_lt_zero _)⟩
  | n + 1, l => by
    have hx := toNode_n n (toNodeS_n n)
    refine Ctr.of_body en86 Try.func86 rfl rfl fun hp => (?_); rw [Try.ntmps86]
    refine AW.fact 0 fun hf => ?_
    simp (disch := omega) only [go_sem, Nat.reduceBEq] at hf
    (repeat' (first | (with_reducible first | refine Z ?_ | refine Y ?_ | (refine hK _ _ ?_; clear hK K) | exact trivial | refine And.intro ?_ ?_) | (refine AW.i rfl (fun h => ?_) (fun h => ?_) <;> try simp only [hC, reduceCtorEq] at h) | with_reducible rfl | with_reducible refine E ?_ | refine eF rfl ?_ | (with_reducible refine fun (K : _ → _ → Prop) hK => ?_) | (with_reducible show drawOK _ _ = true; kernel_rfl) | (with_reducible refine gI fun hg => ?_; try simp only [hC, reduceCtorEq] at hg; try simp only [hg]) | simp (maxSteps := 2000000) (disch := omega) only [go_sem] | (with_reducible intro hg; try simp only [hC, reduceCtorEq] at hg) | (with_reducible show List.Nodup _; decide) | (with_reducible show (_ : Bool) = false; first | rfl | (simp [*]; done)) | with_reducible exact at8_le _ _ | with_reducible exact at8_ge _ _ | (simp only [hC, reduceCtorEq]; omega) | omega | with_reducible assumption | (with_reducible show (_ : Bool) = true; first | (simp [*]; done) | (simp only [hC, reduceCtorEq]; (repeat' (first | assumption | apply And.intro)); done))))
    refine AW.loopV [4] [0, 3] (fun m xs o => ∃ k : Nat, xs = [.v (.int .i64 k)] ∧ o = [(hg, some (mkC (encNode true) [.string ⟨#[]⟩, .string ⟨#[]⟩, .slice none 0 0] l k))] ∧ m = l.length - k ∧ k ≤ l.length) l.length [(hg, some (mkC (encNode true) [.string ⟨#[]⟩, .string ⟨#[]⟩, .slice none 0 0] l 0))] (subO_one (mkC_zero _ _ _)) ⟨0, ?_, rfl, rfl, ?_⟩ ?_
    · rfl
    · omega
    rintro m xs o ⟨k, rfl, rfl, rfl, hk⟩
    have hml := mkC_len (encNode true) [.string ⟨#[]⟩, .string ⟨#[]⟩, .slice none 0 0] 3 (fun x => by rw [encNode_eq]; rfl) rfl l k hk
    have hkk : k < l.length → SizeOf.sizeOf (at_ l k).fKids < n := fun h => by have := GNode.kids_lt (at_mem h); omega
    (repeat' (first | (with_reducible first | refine Z ?_ | refine Y ?_ | (refine hK _ _ ?_; clear hK K) | exact trivial | refine And.intro ?_ ?_) | (refine AW.i rfl (fun h => ?_) (fun h => ?_) <;> try simp only [hC, reduceCtorEq] at h) | with_reducible rfl | (with_reducible refine fun (K : _ → _ → Prop) hK => ?_) | (with_reducible show drawOK _ _ = true; kernel_rfl) | (with_reducible refine gI fun hg => ?_; try simp only [hC, reduceCtorEq] at hg; try simp only [hg]) | simp (maxSteps := 2000000) (disch := omega) only [go_sem] | (with_reducible intro hg; try simp only [hC, reduceCtorEq] at hg) | (with_reducible show List.Nodup _; decide) | (with_reducible show (_ : Bool) = false; first | rfl | (simp [*]; done)) | with_reducible exact at8_le _ _ | with_reducible exact at8_ge _ _ | (simp only [hC, reduceCtorEq]; omega) | omega | with_reducible assumption | (with_reducible show (_ : Bool) = true; first | (simp [*]; done) | (simp only [hC, reduceCtorEq]; (repeat' (first | assumption | apply And.intro)); done))))
    · exact ⟨_, [_], _, by omega, ⟨k + 1, rfl, rfl, rfl, by omega⟩, rfl, subO_one (by have := mkC_at (encNode true) [.string ⟨#[]⟩, .string ⟨#[]⟩, .slice none 0 0] 3 (fun x => by rw [encNode_eq]; rfl) rfl l k h; simp only [go_sem, Nat.mul_one] at this ⊢; exact this.symm)⟩
    · refine AW.made 2 rfl h hk (fun x => by rw [encNode_eq]; rfl) ?_
      (repeat' (first | (with_reducible first | refine Z ?_ | refine Y ?_ | (refine hK _ _ ?_; clear hK K) | exact trivial | refine And.intro ?_ ?_) | (refine AW.i rfl (fun h => ?_) (fun h => ?_) <;> try simp only [hC, reduceCtorEq] at h) | with_reducible rfl | with_reducible refine E ?_ | refine eF rfl ?_ | (with_reducible refine fun (K : _ → _ → Prop) hK => ?_) | (with_reducible show drawOK _ _ = true; kernel_rfl) | (with_reducible refine gI fun hg => ?_; try simp only [hC, reduceCtorEq] at hg; try simp only [hg]) | simp (maxSteps := 2000000) (disch := omega) only [go_sem] | (with_reducible intro hg; try simp only [hC, reduceCtorEq] at hg) | (with_reducible show List.Nodup _; decide) | (with_reducible show (_ : Bool) = false; first | rfl | (simp [*]; done)) | with_reducible exact at8_le _ _ | with_reducible exact at8_ge _ _ | (simp only [hC, reduceCtorEq]; omega) | omega | with_reducible assumption | (with_reducible show (_ : Bool) = true; first | (simp [*]; done) | (simp only [hC, reduceCtorEq]; (repeat' (first | assumption | apply And.intro)); done))))
instance toNodeS_i (l : List GNode) : Ctr lim Try.prog 86 [] [.sl false 3 (l.map (encNode false))] (.sl true 3 (l.map (encNode true))) [] True := ⟨en86, fun _ => (toNodeS_n (SizeOf.sizeOf l + 1) l).out (Nat.lt_succ_self _)⟩
instance toNode_i (x : GNode) : Ctr lim Try.prog 127 [] [.agg [.str x.fName, .str x.fValue, .sl false 3 (x.fKids.map (encNode false))]] (.agg [.str x.fName, .str x.fValue, .sl true 3 (x.fKids.map (encNode true))]) [] True := ⟨en127, fun _ => (toNode_n (SizeOf.sizeOf x.fKids + 1) (toNodeS_n _) x).out (Nat.lt_succ_self _)⟩
instance eqParam_i (L : Nat → Nat) [hL : Lok L] (x : GParam) : Ctr L Try.prog 136 [] [.agg [.str x.fName, .v (.int .i64 x.fType.fKind), .sl false 2 (x.fType.fRanges.map (encRange false)), .sl false 1 (x.fType.fNames.map AV.str), .str x.fType.fPattern, .str x.fType.fPath], .agg [.str x.fName, .v (.int .i64 x.fType.fKind), .sl false 2 (x.fType.fRanges.map (encRange false)), .sl false 1 (x.fType.fNames.map AV.str), .str x.fType.fPattern, .str x.fType.fPath]] (.v (.bool true)) [] True := by
  refine Ctr.of_body en136 Try.func136 rfl rfl fun hp => (?_); rw [Try.ntmps136]
  (repeat' (first | (with_reducible first | refine Z ?_ | refine Y ?_ | (refine hK _ _ ?_; clear hK K) | exact trivial | refine And.intro ?_ ?_) | (refine AW.i rfl (fun h => ?_) (fun h => ?_) <;> try simp only [hC, reduceCtorEq] at h) | with_reducible rfl | with_reducible refine E ?_ | refine eF rfl ?_ | (with_reducible refine fun (K : _ → _ → Prop) hK => ?_) | (with_reducible show drawOK _ _ = true; kernel_rfl) | (with_reducible refine gI fun hg => ?_; try simp only [hC, reduceCtorEq] at hg; try simp only [hg]) | simp (maxSteps := 2000000) (disch := omega) only [go_sem] | (with_reducible intro hg; try simp only [hC, reduceCtorEq] at hg) | (with_reducible show List.Nodup _; decide) | (with_reducible show (_ : Bool) = false; first | rfl | (simp [*]; done)) | with_reducible exact at8_le _ _ | with_reducible exact at8_ge _ _ | (simp only [hC, reduceCtorEq]; omega) | omega | with_reducible assumption | (with_reducible show (_ : Bool) = true; first | (simp [*]; done) | (simp only [hC, reduceCtorEq]; (repeat' (first | assumption | apply And.intro)); done))))
instance eqParamS_i (L : Nat → Nat) [hL : Lok L] (l : List GParam) : Ctr L Try.prog 92 [] [.sl false 6 (l.map (encParam false)), .sl false 6 (l.map (encParam false))] (.v (.bool true)) [] True := by
  refine Ctr.of_body en92 Try.func92 rfl rfl fun hp => (?_); rw [Try.ntmps92]
  refine AW.fact 0 fun hf => ?_
  simp (disch := omega) only [go_sem, Nat.reduceBEq] at hf
  have hf := Nat.le_trans hf (hL.le 6)
  (repeat' (first | (with_reducible first | refine Z ?_ | refine Y ?_ | (refine hK _ _ ?_; clear hK K) | exact trivial | refine And.intro ?_ ?_) | (refine AW.i rfl (fun h => ?_) (fun h => ?_) <;> try simp only [hC, reduceCtorEq] at h) | with_reducible rfl | with_reducible refine E ?_ | refine eF rfl ?_ | (with_reducible refine fun (K : _ → _ → Prop) hK => ?_) | (with_reducible show drawOK _ _ = true; kernel_rfl) | (with_reducible refine gI fun hg => ?_; try simp only [hC, reduceCtorEq] at hg; try simp only [hg]) | simp (maxSteps := 2000000) (disch := omega) only [go_sem] | (with_reducible intro hg; try simp only [hC, reduceCtorEq] at hg) | (with_reducible show List.Nodup _; decide) | (with_reducible show (_ : Bool) = false; first | rfl | (simp [*]; done)) | with_reducible exact at8_le _ _ | with_reducible exact at8_ge _ _ | (simp only [hC, reduceCtorEq]; omega) | omega | with_reducible assumption | (with_reducible show (_ : Bool) = true; first | (simp [*]; done) | (simp only [hC, reduceCtorEq]; (repeat' (first | assumption | apply And.intro)); done))))
  refine AW.loopV [5] [0, 1] (fun m xs o => ∃ k : Nat, xs = [.v (.int .i64 k)] ∧ o = [] ∧ m = l.length - k ∧ k ≤ l.length) l.length [] trivial ⟨0, ?_, rfl, rfl, ?_⟩ ?_
  · rfl
  · omega
  rintro m xs o ⟨k, rfl, rfl, rfl, hk⟩
  (repeat' (first | (with_reducible first | refine Z ?_ | refine Y ?_ | (refine hK _ _ ?_; clear hK K) | exact trivial | refine And.intro ?_ ?_) | (refine AW.i rfl (fun h => ?_) (fun h => ?_) <;> try simp only [hC, reduceCtorEq] at h) | with_reducible rfl | with_reducible refine E ?_ | refine eF rfl ?_ | (with_reducible refine fun (K : _ → _ → Prop) hK => ?_) | (with_reducible show drawOK _ _ = true; kernel_rfl) | (with_reducible refine gI fun hg => ?_; try simp only [hC, reduceCtorEq] at hg; try simp only [hg]) | simp (maxSteps := 2000000) (disch := omega) only [go_sem] | (with_reducible intro hg; try simp only [hC, reduceCtorEq] at hg) | (with_reducible show List.Nodup _; decide) | (with_reducible show (_ : Bool) = false; first | rfl | (simp [*]; done)) | with_reducible exact at8_le _ _ | with_reducible exact at8_ge _ _ | (simp only [hC, reduceCtorEq]; omega) | omega | with_reducible assumption | (with_reducible show (_ : Bool) = true; first | (simp [*]; done) | (simp only [hC, reduceCtorEq]; (repeat' (first | assumption | apply And.intro)); done))))
  exact ⟨_, [_], [], by omega, ⟨k + 1, rfl, rfl, rfl, by omega⟩, rfl, trivial⟩
instance szParam_i (L : Nat → Nat) [hL : Lok L] (x : GParam) (r : Int) : Ctr L Try.prog 119 [] [.agg [.str x.fName, .v (.int .i64 x.fType.fKind), .sl false 2 (x.fType.fRanges.map (encRange false)), .sl false 1 (x.fType.fNames.map AV.str), .str x.fType.fPattern, .str x.fType.fPath], .v (.int .i64 r)] (.v (.int .i64 (szParam x r))) [] (0 ≤ r ∧ r ≤ 1048576) := by
  refine Ctr.of_body en119 Try.func119 rfl rfl fun hp => (?_); rw [Try.ntmps119]
  refine AW.fact 0 fun hf => ?_
  simp (disch := omega) only [go_sem, Nat.reduceBEq] at hf
  have le1 := szType_le x.fType (r - x.fName.length)
  unfold szParam
  (repeat' (first | (with_reducible first | refine Z ?_ | refine Y ?_ | (refine hK _ _ ?_; clear hK K) | exact trivial | refine And.intro ?_ ?_) | (refine AW.i rfl (fun h => ?_) (fun h => ?_) <;> try simp only [hC, reduceCtorEq] at h) | with_reducible rfl | with_reducible refine E ?_ | refine eF rfl ?_ | (with_reducible refine fun (K : _ → _ → Prop) hK => ?_) | (with_reducible show drawOK _ _ = true; kernel_rfl) | (with_reducible refine gI fun hg => ?_; try simp only [hC, reduceCtorEq] at hg; try simp only [hg]) | simp (maxSteps := 2000000) (disch := omega) only [go_sem] | (with_reducible intro hg; try simp only [hC, reduceCtorEq] at hg) | (with_reducible show List.Nodup _; decide) | (with_reducible show (_ : Bool) = false; first | rfl | (simp [*]; done)) | with_reducible exact at8_le _ _ | with_reducible exact at8_ge _ _ | (simp only [hC, reduceCtorEq]; omega) | omega | with_reducible assumption | (with_reducible show (_ : Bool) = true; first | (simp [*]; done) | (simp only [hC, reduceCtorEq]; (repeat' (first | assumption | apply And.intro)); done))))
  all_goals simp only [thn, szStr, id]
  all_goals refine congrArg (fun z => AV.v (.int .i64 z)) ?_
  all_goals (repeat' split)
  all_goals omega
instance szParamS_i (L : Nat → Nat) [hL : Lok L] (l : List GParam) (r : Int) : Ctr L Try.prog 78 [] [.sl false 6 (l.map (encParam false)), .v (.int .i64 r)] (.v (.int .i64 (szSl szParam l r))) [] (0 ≤ r ∧ r ≤ 1048576) := by
  refine Ctr.of_body en78 Try.func78 rfl rfl fun hp => (?_); rw [Try.ntmps78]
  refine AW.fact 0 fun hf => ?_
  simp (disch := omega) only [go_sem, Nat.reduceBEq] at hf
  have hf := Nat.le_trans hf (hL.le 6)
  (repeat' (first | (with_reducible first | refine Z ?_ | refine Y ?_ | (refine hK _ _ ?_; clear hK K) | exact trivial | refine And.intro ?_ ?_) | (refine AW.i rfl (fun h => ?_) (fun h => ?_) <;> try simp only [hC, reduceCtorEq] at h) | with_reducible rfl | with_reducible refine E ?_ | refine eF rfl ?_ | (with_reducible refine fun (K : _ → _ → Prop) hK => ?_) | (with_reducible show drawOK _ _ = true; kernel_rfl) | (with_reducible refine gI fun hg => ?_; try simp only [hC, reduceCtorEq] at hg; try simp only [hg]) | simp (maxSteps := 2000000) (disch := omega) only [go_sem] | (with_reducible intro hg; try simp only [hC, reduceCtorEq] at hg) | (with_reducible show List.Nodup _; decide) | (with_reducible show (_ : Bool) = false; first | rfl | (simp [*]; done)) | with_reducible exact at8_le _ _ | with_reducible exact at8_ge _ _ | (simp only [hC, reduceCtorEq]; omega) | omega | with_reducible assumption | (with_reducible show (_ : Bool) = true; first | (simp [*]; done) | (simp only [hC, reduceCtorEq]; (repeat' (first | assumption | apply And.intro)); done))))
  · rw [szSl_neg h]
  rw [szSl_pos h]
  refine AW.loopV [1, 5] [0] (fun m xs o => ∃ (k : Nat) (q : Int), xs = [.v (.int .i64 q), .v (.int .i64 k)] ∧ o = [] ∧ m = l.length - k ∧ k ≤ l.length ∧ 0 ≤ q ∧ q ≤ 1048576 ∧ szGo szParam (l.drop k) q = szGo szParam l (r - l.length)) l.length [] trivial ⟨0, _, ?_, rfl, rfl, ?_, ?_, ?_, rfl⟩ ?_
  · rfl
  · omega
  · omega
  · omega
  rintro m xs o ⟨k, q, rfl, rfl, rfl, hk, h0, h1, hR⟩
  have hle := szParam_le (at_ l k) q h0
  (repeat' (first | (with_reducible first | refine Z ?_ | refine Y ?_ | (refine hK _ _ ?_; clear hK K) | exact trivial | refine And.intro ?_ ?_) | (refine AW.i rfl (fun h => ?_) (fun h => ?_) <;> try simp only [hC, reduceCtorEq] at h) | with_reducible rfl | with_reducible refine E ?_ | refine eF rfl ?_ | (with_reducible refine fun (K : _ → _ → Prop) hK => ?_) | (with_reducible show drawOK _ _ = true; kernel_rfl) | (with_reducible refine gI fun hg => ?_; try simp only [hC, reduceCtorEq] at hg; try simp only [hg]) | simp (maxSteps := 2000000) (disch := omega) only [go_sem] | (with_reducible intro hg; try simp only [hC, reduceCtorEq] at hg) | (with_reducible show List.Nodup _; decide) | (with_reducible show (_ : Bool) = false; first | rfl | (simp [*]; done)) | with_reducible exact at8_le _ _ | with_reducible exact at8_ge _ _ | (simp only [hC, reduceCtorEq]; omega) | omega | with_reducible assumption | (with_reducible show (_ : Bool) = true; first | (simp [*]; done) | (simp only [hC, reduceCtorEq]; (repeat' (first | assumption | apply And.intro)); done))))
  · rw [szGo_at (by assumption), if_pos (by first | exact h | (rw [hsz]; exact h))] at hR; rw [hR]
  · rw [szGo_at (by assumption), if_neg (by omega)] at hR
    exact ⟨_, [_, _], [], by omega, ⟨k + 1, _, rfl, rfl, rfl, by omega, by omega, by omega, hR⟩, rfl, trivial⟩
  · rw [szGo_end h] at hR; rw [hR]
instance toParam_i (x : GParam) : Ctr lim Try.prog 126 [] [.agg [.str x.fName, .v (.int .i64 x.fType.fKind), .sl false 2 (x.fType.fRanges.map (encRange false)), .sl false 1 (x.fType.fNames.map AV.str), .str x.fType.fPattern, .str x.fType.fPath]] (.agg [.str x.fName, .v (.int .i64 x.fType.fKind), .sl true 2 (x.fType.fRanges.map (encRange true)), .sl true 1 (x.fType.fNames.map AV.str), .str x.fType.fPattern, .str x.fType.fPath]) [] True := by
  refine Ctr.of_body en126 Try.func126 rfl rfl fun hp => (?_); rw [Try.ntmps126]
  (repeat' (first | (with_reducible first | refine Z ?_ | refine Y ?_ | (refine hK _ _ ?_; clear hK K) | exact trivial | refine And.intro ?_ ?_) | (refine AW.i rfl (fun h => ?_) (fun h => ?_) <;> try simp only [hC, reduceCtorEq] at h) | with_reducible rfl | with_reducible refine E ?_ | refine eF rfl ?_ | (with_reducible refine fun (K : _ → _ → Prop) hK => ?_) | (with_reducible show drawOK _ _ = true; kernel_rfl) | (with_reducible refine gI fun hg => ?_; try simp only [hC, reduceCtorEq] at hg; try simp only [hg]) | simp (maxSteps := 2000000) (disch := omega) only [go_sem] | (with_reducible intro hg; try simp only [hC, reduceCtorEq] at hg) | (with_reducible show List.Nodup _; decide) | (with_reducible show (_ : Bool) = false; first | rfl | (simp [*]; done)) | with_reducible exact at8_le _ _ | with_reducible exact at8_ge _ _ | (simp only [hC, reduceCtorEq]; omega) | omega | with_reducible assumption | (with_reducible show (_ : Bool) = true; first | (simp [*]; done) | (simp only [hC, reduceCtorEq]; (repeat' (first | assumption | apply And.intro)); done))))
instance toParamS_i (l : List GParam) : Ctr lim Try.prog 85 [] [.sl false 6 (l.map (encParam false))] (.sl true 6 (l.map (encParam true))) [] True := by
  refine Ctr.of_body en85 Try.func85 rfl rfl fun hp => (?_); rw [Try.ntmps85]
  refine AW.fact 0 fun hf => ?_
  simp (disch := omega) only [go_sem, Nat.reduceBEq] at hf
  (repeat' (first | (with_reducible first | refine Z ?_ | refine Y ?_ | (refine hK _ _ ?_; clear hK K) | exact trivial | refine And.intro ?_ ?_) | (refine AW.i rfl (fun h => ?_) (fun h => ?_) <;> try simp only [hC, reduceCtorEq] at h) | with_reducible rfl | with_reducible refine E ?_ | refine eF rfl ?_ | (with_reducible refine fun (K : _ → _ → Prop) hK => ?_) | (with_reducible show drawOK _ _ = true; kernel_rfl) | (with_reducible refine gI fun hg => ?_; try simp only [hC, reduceCtorEq] at hg; try simp only [hg]) | simp (maxSteps := 2000000) (disch := omega) only [go_sem] | (with_reducible intro hg; try simp only [hC, reduceCtorEq] at hg) | (with_reducible show List.Nodup _; decide) | (with_reducible show (_ : Bool) = false; first | rfl | (simp [*]; done)) | with_reducible exact at8_le _ _ | with_reducible exact at8_ge _ _ | (simp only [hC, reduceCtorEq]; omega) | omega | with_reducible assumption | (with_reducible show (_ : Bool) = true; first | (simp [*]; done) | (simp only [hC, reduceCtorEq]; (repeat' (first | assumption | apply And.intro)); done))))
  refine AW.loopV [4] [0, 3] (fun m xs o => ∃ k : Nat, xs = [.v (.int .i64 k)] ∧ o = [(hg, some (mkC (encParam true) [.string ⟨#[]⟩, .int .i64 0, .slice none 0 0, .slice none 0 0, .string ⟨#[]⟩, .string ⟨#[]⟩] l k))] ∧ m = l.length - k ∧ k ≤ l.length) l.length [(hg, some (mkC (encParam true) [.string ⟨#[]⟩, .int .i64 0, .slice none 0 0, .slice none 0 0, .string ⟨#[]⟩, .string ⟨#[]⟩] l 0))] (subO_one (mkC_zero _ _ _)) ⟨0, ?_, rfl, rfl, ?_⟩ ?_
  · rfl
  · omega
  rintro m xs o ⟨k, rfl, rfl, rfl, hk⟩
  have hml := mkC_len (encParam true) [.string ⟨#[]⟩, .int .i64 0, .slice none 0 0, .slice none 0 0, .string ⟨#[]⟩, .string ⟨#[]⟩] 6 (fun _ => rfl) rfl l k hk
  (repeat' (first | (with_reducible first | refine Z ?_ | refine Y ?_ | (refine hK _ _ ?_; clear hK K) | exact trivial | refine And.intro ?_ ?_) | (refine AW.i rfl (fun h => ?_) (fun h => ?_) <;> try simp only [hC, reduceCtorEq] at h) | with_reducible rfl | (with_reducible refine fun (K : _ → _ → Prop) hK => ?_) | (with_reducible show drawOK _ _ = true; kernel_rfl) | (with_reducible refine gI fun hg => ?_; try simp only [hC, reduceCtorEq] at hg; try simp only [hg]) | simp (maxSteps := 2000000) (disch := omega) only [go_sem] | (with_reducible intro hg; try simp only [hC, reduceCtorEq] at hg) | (with_reducible show List.Nodup _; decide) | (with_reducible show (_ : Bool) = false; first | rfl | (simp [*]; done)) | with_reducible exact at8_le _ _ | with_reducible exact at8_ge _ _ | (simp only [hC, reduceCtorEq]; omega) | omega | with_reducible assumption | (with_reducible show (_ : Bool) = true; first | (simp [*]; done) | (simp only [hC, reduceCtorEq]; (repeat' (first | assumption | apply And.intro)); done))))
  · exact ⟨_, [_], _, by omega, ⟨k + 1, rfl, rfl, rfl, by omega⟩, rfl, subO_one (by have := mkC_at (encParam true) [.string ⟨#[]⟩, .int .i64 0, .slice none 0 0, .slice none 0 0, .string ⟨#[]⟩, .string ⟨#[]⟩] 6 (fun _ => rfl) rfl l k h; simp only [go_sem, Nat.mul_one] at this ⊢; exact this.symm)⟩
  · refine AW.made 2 rfl h hk (fun _ => rfl) ?_
    (repeat' (first | (with_reducible first | refine Z ?_ | refine Y ?_ | (refine hK _ _ ?_; clear hK K) | exact trivial | refine And.intro ?_ ?_) | (refine AW.i rfl (fun h => ?_) (fun h => ?_) <;> try simp only [hC, reduceCtorEq] at h) | with_reducible rfl | with_reducible refine E ?_ | refine eF rfl ?_ | (with_reducible refine fun (K : _ → _ → Prop) hK => ?_) | (with_reducible show drawOK _ _ = true; kernel_rfl) | (with_reducible refine gI fun hg => ?_; try simp only [hC, reduceCtorEq] at hg; try simp only [hg]) | simp (maxSteps := 2000000) (disch := omega) only [go_sem] | (with_reducible intro hg; try simp only [hC, reduceCtorEq] at hg) | (with_reducible show List.Nodup _; decide) | (with_reducible show (_ : Bool) = false; first | rfl | (simp [*]; done)) | with_reducible exact at8_le _ _ | with_reducible exact at8_ge _ _ | (simp only [hC, reduceCtorEq]; omega) | omega | with_reducible assumption | (with_reducible show (_ : Bool) = true; first | (simp [*]; done) | (simp only [hC, reduceCtorEq]; (repeat' (first | assumption | apply And.intro)); done))))
instance eqTemplate_i (L : Nat → Nat) [hL : Lok L] (x : GTemplate) : Ctr L Try.prog 40 [] [.agg [.str x.fName, .sl false 6 (x.fParams.map (encParam false)), .sl false 3 (x.fBody.map (encNode false))], .agg [.str x.fName, .sl false 6 (x.fParams.map (encParam false)), .sl false 3 (x.fBody.map (encNode false))]] (.v (.bool true)) [] True := by
  refine Ctr.of_body en40 Try.func40 rfl rfl fun hp => (?_); rw [Try.ntmps40]
  (repeat' (first | (with_reducible first | refine Z ?_ | refine Y ?_ | (refine hK _ _ ?_; clear hK K) | exact trivial | refine And.intro ?_ ?_) | (refine AW.i rfl (fun h => ?_) (fun h => ?_) <;> try simp only [hC, reduceCtorEq] at h) | with_reducible rfl | with_reducible refine E ?_ | refine eF rfl ?_ | (with_reducible refine fun (K : _ → _ → Prop) hK => ?_) | (with_reducible show drawOK _ _ = true; kernel_rfl) | (with_reducible refine gI fun hg => ?_; try simp only [hC, reduceCtorEq] at hg; try simp only [hg]) | simp (maxSteps := 2000000) (disch := omega) only [go_sem] | (with_reducible intro hg; try simp only [hC, reduceCtorEq] at hg) | (with_reducible show List.Nodup _; decide) | (with_reducible show (_ : Bool) = false; first | rfl | (simp [*]; done)) | with_reducible exact at8_le _ _ | with_reducible exact at8_ge _ _ | (simp only [hC, reduceCtorEq]; omega) | omega | with_reducible assumption | (with_reducible show (_ : Bool) = true; first | (simp [*]; done) | (simp only [hC, reduceCtorEq]; (repeat' (first | assumption | apply And.intro)); done))))
instance eqTemplateS_i (L : Nat → Nat) [hL : Lok L] (l : List GTemplate) : Ctr L Try.prog 72 [] [.sl false 3 (l.map (encTemplate false)), .sl false 3 (l.map (encTemplate false))] (.v (.bool true)) [] True := by
  refine Ctr.of_body en72 Try.func72 rfl rfl fun hp => (?_); rw [Try.ntmps72]
  refine AW.fact 0 fun hf => ?_
  simp (disch := omega) only [go_sem, Nat.reduceBEq] at hf
  have hf := Nat.le_trans hf (hL.le 3)
  (repeat' (first | (with_reducible first | refine Z ?_ | refine Y ?_ | (refine hK _ _ ?_; clear hK K) | exact trivial | refine And.intro ?_ ?_) | (refine AW.i rfl (fun h => ?_) (fun h => ?_) <;> try simp only [hC, reduceCtorEq] at h) | with_reducible rfl | with_reducible refine E ?_ | refine eF rfl ?_ | (with_reducible refine fun (K : _ → _ → Prop) hK => ?_) | (with_reducible show drawOK _ _ = true; kernel_rfl) | (with_reducible refine gI fun hg => ?_; try simp only [hC, reduceCtorEq] at hg; try simp only [hg]) | simp (maxSteps := 2000000) (disch := omega) only [go_sem] | (with_reducible intro hg; try simp only [hC, reduceCtorEq] at hg) | (with_reducible show List.Nodup _; decide) | (with_reducible show (_ : Bool) = false; first | rfl | (simp [*]; done)) | with_reducible exact at8_le _ _ | with_reducible exact at8_ge _ _ | (simp only [hC, reduceCtorEq]; omega) | omega | with_reducible assumption | (with_reducible show (_ : Bool) = true; first | (simp [*]; done) | (simp only [hC, reduceCtorEq]; (repeat' (first | assumption | apply And.intro)); done))))
  refine AW.loopV [5] [0, 1] (fun m xs o => ∃ k : Nat, xs = [.v (.int .i64 k)] ∧ o = [] ∧ m = l.length - k ∧ k ≤ l.length) l.length [] trivial ⟨0, ?_, rfl, rfl, ?_⟩ ?_
  · rfl
  · omega
  rintro m xs o ⟨k, rfl, rfl, rfl, hk⟩
  (repeat' (first | (with_reducible first | refine Z ?_ | refine Y ?_ | (refine hK _ _ ?_; clear hK K) | exact trivial | refine And.intro ?_ ?_) | (refine AW.i rfl (fun h => ?_) (fun h => ?_) <;> try simp only [hC, reduceCtorEq] at h) | with_reducible rfl | with_reducible refine E ?_ | refine eF rfl ?_ | (with_reducible refine fun (K : _ → _ → Prop) hK => ?_) | (with_reducible show drawOK _ _ = true; kernel_rfl) | (with_reducible refine gI fun hg => ?_; try simp only [hC, reduceCtorEq] at hg; try simp only [hg]) | simp (maxSteps := 2000000) (disch := omega) only [go_sem] | (with_reducible intro hg; try simp only [hC, reduceCtorEq] at hg) | (with_reducible show List.Nodup _; decide) | (with_reducible show (_ : Bool) = false; first | rfl | (simp [*]; done)) | with_reducible exact at8_le _ _ | with_reducible exact at8_ge _ _ | (simp only [hC, reduceCtorEq]; omega) | omega | with_reducible assumption | (with_reducible show (_ : Bool) = true; first | (simp [*]; done) | (simp only [hC, reduceCtorEq]; (repeat' (first | assumption | apply And.intro)); done))))
  exact ⟨_, [_], [], by omega, ⟨k + 1, rfl, rfl, rfl, by omega⟩, rfl, trivial⟩
instance szTemplate_i (L : Nat → Nat) [hL : Lok L] (x : GTemplate) (r : Int) : Ctr L Try.prog 36 [] [.agg [.str x.fName, .sl false 6 (x.fParams.map (encParam false)), .sl false 3 (x.fBody.map (encNode false))], .v (.int .i64 r)] (.v (.int .i64 (szTemplate x r))) [] (0 ≤ r ∧ r ≤ 1048576) := by
  refine Ctr.of_body en36 Try.func36 rfl rfl fun hp => (?_); rw [Try.ntmps36]
  refine AW.fact 0 fun hf => ?_
  simp (disch := omega) only [go_sem, Nat.reduceBEq] at hf
  have le1 := szSl_le szParam szParam_le x.fParams (r - x.fName.length)
  have le2 := szSl_le szNode szNode_le x.fBody (szSl szParam x.fParams (r - x.fName.length))
  unfold szTemplate
  (repeat' (first | (with_reducible first | refine Z ?_ | refine Y ?_ | (refine hK _ _ ?_; clear hK K) | exact trivial | refine And.intro ?_ ?_) | (refine AW.i rfl (fun h => ?_) (fun h => ?_) <;> try simp only [hC, reduceCtorEq] at h) | with_reducible rfl | with_reducible refine E ?_ | refine eF rfl ?_ | (with_reducible refine fun (K : _ → _ → Prop) hK => ?_) | (with_reducible show drawOK _ _ = true; kernel_rfl) | (with_reducible refine gI fun hg => ?_; try simp only [hC, reduceCtorEq] at hg; try simp only [hg]) | simp (maxSteps := 2000000) (disch := omega) only [go_sem] | (with_reducible intro hg; try simp only [hC, reduceCtorEq] at hg) | (with_reducible show List.Nodup _; decide) | (with_reducible show (_ : Bool) = false; first | rfl | (simp [*]; done)) | with_reducible exact at8_le _ _ | with_reducible exact at8_ge _ _ | (simp only [hC, reduceCtorEq]; omega) | omega | with_reducible assumption | (with_reducible show (_ : Bool) = true; first | (simp [*]; done) | (simp only [hC, reduceCtorEq]; (repeat' (first | assumption | apply And.intro)); done))))
  all_goals simp only [thn, szStr, id]
  all_goals refine congrArg (fun z => AV.v (.int .i64 z)) ?_
  all_goals (repeat' split)
  all_goals omega
instance szTemplateS_i (L : Nat → Nat) [hL : Lok L] (l : List GTemplate) (r : Int) : Ctr L Try.prog 63 [] [.sl false 3 (l.map (encTemplate false)), .v (.int .i64 r)] (.v (.int .i64 (szSl szTemplate l r))) [] (0 ≤ r ∧ r ≤ 1048576) := by
  refine Ctr.of_body en63 Try.func63 rfl rfl fun hp => (?_); rw [Try.ntmps63]
  refine AW.fact 0 fun hf => ?_
  simp (disch := omega) only [go_sem, Nat.reduceBEq] at hf
  have hf := Nat.le_trans hf (hL.le 3)
  (repeat' (first | (with_reducible first | refine Z ?_ | refine Y ?_ | (refine hK _ _ ?_; clear hK K) | exact trivial | refine And.intro ?_ ?_) | (refine AW.i rfl (fun h => ?_) (fun h => ?_) <;> try simp only [hC, reduceCtorEq] at h) | with_reducible rfl | with_reducible refine E ?_ | refine eF rfl ?_ | (with_reducible refine fun (K : _ → _ → Prop) hK => ?_) | (with_reducible show drawOK _ _ = true; kernel_rfl) | (with_reducible refine gI fun hg => ?_; try simp only [hC, reduceCtorEq] at hg; try simp only [hg]) | simp (maxSteps := 2000000) (disch := omega) only [go_sem] | (with_reducible intro hg; try simp only [hC, reduceCtorEq] at hg) | (with_reducible show List.Nodup _; decide) | (with_reducible show (_ : Bool) = false; first | rfl | (simp [*]; done)) | with_reducible exact at8_le _ _ | with_reducible exact at8_ge _ _ | (simp only [hC, reduceCtorEq]; omega) | omega | with_reducible assumption | (with_reducible show (_ : Bool) = true; first | (simp [*]; done) | (simp only [hC, reduceCtorEq]; (repeat' (first | assumption | apply And.intro)); done))))
  · rw [szSl_neg h]
  rw [szSl_pos h]
  refine AW.loopV [1, 5] [0] (fun m xs o => ∃ (k : Nat) (q : Int), xs = [.v (.int .i64 q), .v (.int .i64 k)] ∧ o = [] ∧ m = l.length - k ∧ k ≤ l.length ∧ 0 ≤ q ∧ q ≤ 1048576 ∧ szGo szTemplate (l.drop k) q = szGo szTemplate l (r - l.length)) l.length [] trivial ⟨0, _, ?_, rfl, rfl, ?_, ?_, ?_, rfl⟩ ?_
  · rfl
  · omega
  · omega
  · omega
  rintro m xs o ⟨k, q, rfl, rfl, rfl, hk, h0, h1, hR⟩
  have hle := szTemplate_le (at_ l k) q h0
  (repeat' (first | (with_reducible first | refine Z ?_ | refine Y ?_ | (refine hK _ _ ?_; clear hK K) | exact trivial | refine And.intro ?_ ?_) | (refine AW.i rfl (fun h => ?_) (fun h => ?_) <;> try simp only [hC, reduceCtorEq] at h) | with_reducible rfl | with_reducible refine E ?_ | refine eF rfl ?_ | (with_reducible refine fun (K : _ → _ → Prop) hK => ?_) | (with_reducible show drawOK _ _ = true; kernel_rfl) | (with_reducible refine gI fun hg => ?_; try simp only [hC, reduceCtorEq] at hg; try simp only [hg]) | simp (maxSteps := 2000000) (disch := omega) only [go_sem] | (with_reducible intro hg; try simp only [hC, reduceCtorEq] at hg) | (with_reducible show List.Nodup _; decide) | (with_reducible show (_ : Bool) = false; first | rfl | (simp [*]; done)) | with_reducible exact at8_le _ _ | with_reducible exact at8_ge _ _ | (simp only [hC, reduceCtorEq]; omega) | omega | with_reducible assumption | (with_reducible show (_ : Bool) = true; first | (simp [*]; done) | (simp only [hC, reduceCtorEq]; (repeat' (first | assumption | apply And.intro)); done))))
  · rw [szGo_at (by assumption), if_pos (by first | exact h | (rw [hsz]; exact h))] at hR; rw [hR]
  · rw [szGo_at (by assumption), if_neg (by omega)] at hR
    exact ⟨_, [_, _], [], by omega, ⟨k + 1, _, rfl, rfl, rfl, by omega, by omega, by omega, hR⟩, rfl, trivial⟩
  · rw [szGo_end h] at hR; rw [hR]
instance toTemplate_i (x : GTemplate) : Ctr lim Try.prog 38 [] [.agg [.str x.fName, .sl false 6 (x.fParams.map (encParam false)), .sl false 3 (x.fBody.map (encNode false))]] (.agg [.str x.fName, .sl true 6 (x.fParams.map (encParam true)), .sl true 3 (x.fBody.map (encNode true))]) [] True := by
  refine Ctr.of_body en38 Try.func38 rfl rfl fun hp => (?_); rw [Try.ntmps38]
  (repeat' (first | (with_reducible first | refine Z ?_ | refine Y ?_ | (refine hK _ _ ?_; clear hK K) | exact trivial | refine And.intro ?_ ?_) | (refine AW.i rfl (fun h => ?_) (fun h => ?_) <;> try simp only [hC, reduceCtorEq] at h) | with_reducible rfl | with_reducible refine E ?_ | refine eF rfl ?_ | (with_reducible refine fun (K : _ → _ → Prop) hK => ?_) | (with_reducible show drawOK _ _ = true; kernel_rfl) | (with_reducible refine gI fun hg => ?_; try simp only [hC, reduceCtorEq] at hg; try simp only [hg]) | simp (maxSteps := 2000000) (disch := omega) only [go_sem] | (with_reducible intro hg; try simp only [hC, reduceCtorEq] at hg) | (with_reducible show List.Nodup _; decide) | (with_reducible show (_ : Bool) = false; first | rfl | (simp [*]; done)) | with_reducible exact at8_le _ _ | with_reducible exact at8_ge _ _ | (simp only [hC, reduceCtorEq]; omega) | omega | with_reducible assumption | (with_reducible show (_ : Bool) = true; first | (simp [*]; done) | (simp only [hC, reduceCtorEq]; (repeat' (first | assumption | apply And.intro)); done))))
instance toTemplateS_i (l : List GTemplate) : Ctr lim Try.prog 66 [] [.sl false 3 (l.map (encTemplate false))] (.sl true 3 (l.map (encTemplate true))) [] True := by
  refine Ctr.of_body en66 Try.func66 rfl rfl fun hp => (?_); rw [Try.ntmps66]
  refine AW.fact 0 fun hf => ?_
  simp (disch := omega) only [go_sem, Nat.reduceBEq] at hf
  (repeat' (first | (with_reducible first | refine Z ?_ | refine Y ?_ | (refine hK _ _ ?_; clear hK K) | exact trivial | refine And.intro ?_ ?_) | (refine AW.i rfl (fun h => ?_) (fun h => ?_) <;> try simp only [hC, reduceCtorEq] at h) | with_reducible rfl | with_reducible refine E ?_ | refine eF rfl ?_ | (with_reducible refine fun (K : _ → _ → Prop) hK => ?_) | (with_reducible show drawOK _ _ = true; kernel_rfl) | (with_reducible refine gI fun hg => ?_; try simp only [hC, reduceCtorEq] at hg; try simp only [hg]) | simp (maxSteps := 2000000) (disch := omega) only [go_sem] | (with_reducible intro hg; try simp only [hC, reduceCtorEq] at hg) | (with_reducible show List.Nodup _; decide) | (with_reducible show (_ : Bool) = false; first | rfl | (simp [*]; done)) | with_reducible exact at8_le _ _ | with_reducible exact at8_ge _ _ | (simp only [hC, reduceCtorEq]; omega) | omega | with_reducible assumption | (with_reducible show (_ : Bool) = true; first | (simp [*]; done) | (simp only [hC, reduceCtorEq]; (repeat' (first | assumption | apply And.intro)); done))))
  refine AW.loopV [4] [0, 3] (fun m xs o => ∃ k : Nat, xs = [.v (.int .i64 k)] ∧ o = [(hg, some (mkC (encTemplate true) [.string ⟨#[]⟩, .slice none 0 0, .slice none 0 0] l k))] ∧ m = l.length - k ∧ k ≤ l.length) l.length [(hg, some (mkC (encTemplate true) [.string ⟨#[]⟩, .slice none 0 0, .slice none 0 0] l 0))] (subO_one (mkC_zero _ _ _)) ⟨0, ?_, rfl, rfl, ?_⟩ ?_
  · rfl
  · omega
  rintro m xs o ⟨k, rfl, rfl, rfl, hk⟩
  have hml := mkC_len (encTemplate true) [.string ⟨#[]⟩, .slice none 0 0, .slice none 0 0] 3 (fun _ => rfl) rfl l k hk
  (repeat' (first | (with_reducible first | refine Z ?_ | refine Y ?_ | (refine hK _ _ ?_; clear hK K) | exact trivial | refine And.intro ?_ ?_) | (refine AW.i rfl (fun h => ?_) (fun h => ?_) <;> try simp only [hC, reduceCtorEq] at h) | with_reducible rfl | (with_reducible refine fun (K : _ → _ → Prop) hK => ?_) | (with_reducible show drawOK _ _ = true; kernel_rfl) | (with_reducible refine gI fun hg => ?_; try simp only [hC, reduceCtorEq] at hg; try simp only [hg]) | simp (maxSteps := 2000000) (disch := omega) only [go_sem] | (with_reducible intro hg; try simp only [hC, reduceCtorEq] at hg) | (with_reducible show List.Nodup _; decide) | (with_reducible show (_ : Bool) = false; first | rfl | (simp [*]; done)) | with_reducible exact at8_le _ _ | with_reducible exact at8_ge _ _ | (simp only [hC, reduceCtorEq]; omega) | omega | with_reducible assumption | (with_reducible show (_ : Bool) = true; first | (simp [*]; done) | (simp only [hC, reduceCtorEq]; (repeat' (first | assumption | apply And.intro)); done))))
  · exact ⟨_, [_], _, by omega, ⟨k + 1, rfl, rfl, rfl, by omega⟩, rfl, subO_one (by have := mkC_at (encTemplate true) [.string ⟨#[]⟩, .slice none 0 0, .slice none 0 0] 3 (fun _ => rfl) rfl l k h; simp only [go_sem, Nat.mul_one] at this ⊢; exact this.symm)⟩
  · refine AW.made 2 rfl h hk (fun _ => rfl) ?_
    (repeat' (first | (with_reducible first | refine Z ?_ | refine Y ?_ | (refine hK _ _ ?_; clear hK K) | exact trivial | refine And.intro ?_ ?_) | (refine AW.i rfl (fun h => ?_) (fun h => ?_) <;> try simp only [hC, reduceCtorEq] at h) | with_reducible rfl | with_reducible refine E ?_ | refine eF rfl ?_ | (with_reducible refine fun (K : _ → _ → Prop) hK => ?_) | (with_reducible show drawOK _ _ = true; kernel_rfl) | (with_reducible refine gI fun hg => ?_; try simp only [hC, reduceCtorEq] at hg; try simp only [hg]) | simp (maxSteps := 2000000) (disch := omega) only [go_sem] | (with_reducible intro hg; try simp only [hC, reduceCtorEq] at hg) | (with_reducible show List.Nodup _; decide) | (with_reducible show (_ : Bool) = false; first | rfl | (simp [*]; done)) | with_reducible exact at8_le _ _ | with_reducible exact at8_ge _ _ | (simp only [hC, reduceCtorEq]; omega) | omega | with_reducible assumption | (with_reducible show (_ : Bool) = true; first | (simp [*]; done) | (simp only [hC, reduceCtorEq]; (repeat' (first | assumption | apply And.intro)); done))))
end Go.Proofs.Ytkdchlggdcmkbaa
namespace Go.Ab
theorem CallP.low {L : Nat → Nat} {P : Program} {os : Sto} {la : List AV} {G : Bool} {f : FuncId} {args : List AV} {K : AV → Prop} {res : AV} {cs : List (Option (List AV))} {pre : Prop} [h : Ctr L P f [] la res cs pre] (hl : LowL os args la) (hc : res.closed = true) (hp : G = true → pre) (hK : K res) : CallP L P os la G f args (K := ⟨K⟩) :=
  ⟨res, fun hg => ⟨h.en, .inr ⟨la, hl, hc, h.pure (hp hg)⟩⟩, hK⟩
end Go.Ab
namespace Go.Proofs.Ytkdchlggdcmkbaa
open Go.Ab Go.Dt
set_option maxRecDepth 20000
set_option maxHeartbeats 4000000
attribute [go_sem] encParamM_frz encNodeM_frz
instance iIsType_i (x : GType) : Ctr lim Try.prog 88 [] [.agg [.v (.int .i64 x.fKind), .sl false 2 (x.fRanges.map (encRange false)), .sl false 1 (x.fNames.map AV.str), .str x.fPattern, .str x.fPath]] (.v (.bool (isType isPat x))) [] True := iIsType_t isPat x
instance sIsType_i (x : GType) : Ctr lim Try.prog 81 [] [.agg [.v (.int .i64 x.fKind), .sl false 2 (x.fRanges.map (encRange false)), .sl false 1 (x.fNames.map AV.str), .str x.fPattern, .str x.fPath]] (.v (.bool (isType isPat x))) [] True := sIsType_t isPat x
instance iIsTemplate_i (x : GTemplate) : Ctr lim Try.prog 39 [] [.agg [.str x.fName, .sl false 6 (x.fParams.map (encParam false)), .sl false 3 (x.fBody.map (encNode false))]] (.v (.bool (isTemplate isPat x))) [] (wt x.fBody ≤ 1048576 ∧ x.fParams.length ≤ 1048576) := iIsTemplate_t isPat x
instance sIsTemplate_i (x : GTemplate) : Ctr lim Try.prog 37 [] [.agg [.str x.fName, .sl false 6 (x.fParams.map (encParam false)), .sl false 3 (x.fBody.map (encNode false))]] (.v (.bool (isTemplate isPat x))) [] (wt x.fBody ≤ 1048576 ∧ x.fParams.length ≤ 1048576) := sIsTemplate_t isPat x

theorem fitTm {x : GTemplate} (h : ¬ szTemplate x 1048576 < 0) : wt x.fBody ≤ 1048576 ∧ x.fParams.length ≤ 1048576 := by
  have h := Int.not_lt.1 h
  unfold szTemplate at h
  obtain ⟨a0, h⟩ := thn_get h
  obtain ⟨a1, h⟩ := thn_get h
  obtain ⟨a2, h⟩ := thn_get h
  have a0' : szStr x.fName 1048576 ≤ 1048576 := szStr_le _ _ (by omega)
  have e2 := szSl_le szParam szParam_le x.fParams _ a0
  have e3 := wt_fit a1 a2
  refine ⟨by omega, ?_⟩
  rcases Int.lt_or_le (szStr x.fName 1048576 - x.fParams.length) 0 with h4 | h4
  · rw [szSl_neg h4] at a1; omega
  · omega
theorem lawIsTemplate_A (x : GTemplate) (h1 : szTemplate x 1048576 < 0) : Ctr rawL Try.prog 8 [] [.agg [.str x.fName, .sl false 6 (x.fParams.map (encParam false)), .sl false 3 (x.fBody.map (encNode false))]] (.v (.bool true)) [] True := by
  refine Ctr.of_body en8 Try.func8 rfl rfl fun hp => (?_); rw [Try.ntmps8]
  (repeat' (first | (with_reducible first | refine Z ?_ | refine Y ?_ | (refine hK _ _ ?_; clear hK K) | exact trivial | refine And.intro ?_ ?_) | (refine AW.i rfl (fun h => ?_) (fun h => ?_) <;> try simp only [hC, reduceCtorEq] at h) | with_reducible rfl | ((with_reducible refine E ?_); (with_reducible repeat refine Y ?_); refine eF rfl ?_) | (with_reducible refine fun (K : _ → _ → Prop) hK => ?_) | (with_reducible show drawOK _ _ = true; kernel_rfl) | (with_reducible refine gI fun hg => ?_; try simp only [hC, reduceCtorEq] at hg; try simp only [hg]) | simp (maxSteps := 2000000) (disch := omega) only [go_sem] | (with_reducible intro hg; try simp only [hC, reduceCtorEq] at hg) | (with_reducible show List.Nodup _; decide) | (with_reducible show (_ : Bool) = false; first | rfl | (simp [*]; done)) | with_reducible exact at8_le _ _ | with_reducible exact at8_ge _ _ | (simp only [hC, reduceCtorEq]; omega) | omega | with_reducible assumption | (with_reducible show (_ : Bool) = true; first | (simp [*]; done) | (simp only [hC, reduceCtorEq]; (repeat' (first | assumption | apply And.intro)); done))))
theorem lawIsTemplate_B (x : GTemplate) (h1 : ¬ szTemplate x 1048576 < 0) : Ctr lim Try.prog 8 [] [.agg [.str x.fName, .sl false 6 (x.fParams.map (encParam false)), .sl false 3 (x.fBody.map (encNode false))]] (.v (.bool true)) [] True := by
  have hft := fitTm h1
  refine Ctr.of_body en8 Try.func8 rfl rfl fun hp => (?_); rw [Try.ntmps8]
  (repeat' (first | (with_reducible first | refine Z ?_ | refine Y ?_ | (refine hK _ _ ?_; clear hK K) | exact trivial | refine And.intro ?_ ?_) | with_reducible rfl | ((with_reducible refine E ?_); (with_reducible repeat refine Y ?_); refine eF rfl ?_) | (with_reducible refine fun (K : _ → _ → Prop) hK => ?_) | (with_reducible show drawOK _ _ = true; kernel_rfl) | (with_reducible refine gI fun hg => ?_; try simp only [hC, reduceCtorEq] at hg; try simp only [hg]) | simp (maxSteps := 2000000) (disch := omega) only [go_sem] | (with_reducible intro hg; try simp only [hC, reduceCtorEq] at hg) | (with_reducible show List.Nodup _; decide) | (with_reducible show (_ : Bool) = false; first | rfl | (simp [*]; done)) | with_reducible exact at8_le _ _ | with_reducible exact at8_ge _ _ | (simp only [hC, reduceCtorEq]; omega) | omega | with_reducible assumption | (with_reducible show (_ : Bool) = true; first | (simp [*]; done) | (simp only [hC, reduceCtorEq]; (repeat' (first | assumption | apply And.intro)); done))))
  (refine AW.i rfl (fun h => ?_) (fun h => ?_) <;> try simp only [hC, reduceCtorEq] at h)
  (repeat' (first | (with_reducible first | refine Y ?_ | (refine hK _ _ ?_; clear hK K) | exact trivial | refine And.intro ?_ ?_) | with_reducible rfl | ((with_reducible refine E ?_); (with_reducible repeat refine Y ?_); refine eF rfl ?_) | (with_reducible refine fun (K : _ → _ → Prop) hK => ?_) | (with_reducible show drawOK _ _ = true; kernel_rfl) | (with_reducible refine gI fun hg => ?_; try simp only [hC, reduceCtorEq] at hg; try simp only [hg]) | simp (maxSteps := 2000000) (disch := omega) only [go_sem] | (with_reducible intro hg; try simp only [hC, reduceCtorEq] at hg) | (with_reducible show List.Nodup _; decide) | (with_reducible show (_ : Bool) = false; first | rfl | (simp [*]; done)) | with_reducible exact at8_le _ _ | with_reducible exact at8_ge _ _ | (simp only [hC, reduceCtorEq]; omega) | omega | with_reducible assumption | (with_reducible show (_ : Bool) = true; first | (simp [*]; done) | (simp only [hC, reduceCtorEq]; (repeat' (first | assumption | apply And.intro)); done))))
  refine AW.regn fun K hK => ?_
  simp (maxSteps := 2000000) (disch := omega) only [go_sem]
  (repeat' (first | (with_reducible first | refine Y ?_ | (refine hK _ _ ?_; clear hK K) | exact trivial | refine And.intro ?_ ?_) | with_reducible rfl | ((with_reducible refine E ?_); (with_reducible repeat refine Y ?_); refine eF rfl ?_) | (with_reducible refine fun (K : _ → _ → Prop) hK => ?_) | (with_reducible show drawOK _ _ = true; kernel_rfl) | (with_reducible refine gI fun hg => ?_; try simp only [hC, reduceCtorEq] at hg; try simp only [hg]) | simp (maxSteps := 2000000) (disch := omega) only [go_sem] | (with_reducible intro hg; try simp only [hC, reduceCtorEq] at hg) | (with_reducible show List.Nodup _; decide) | (with_reducible show (_ : Bool) = false; first | rfl | (simp [*]; done)) | with_reducible exact at8_le _ _ | with_reducible exact at8_ge _ _ | (simp only [hC, reduceCtorEq]; omega) | omega | with_reducible assumption | (with_reducible show (_ : Bool) = true; first | (simp [*]; done) | (simp only [hC, reduceCtorEq]; (repeat' (first | assumption | apply And.intro)); done))))
  refine AW.regn fun K hK => ?_
  simp (maxSteps := 2000000) (disch := omega) only [go_sem]
  (repeat' (first | (with_reducible first | refine Y ?_ | (refine hK _ _ ?_; clear hK K) | exact trivial | refine And.intro ?_ ?_) | with_reducible rfl | ((with_reducible refine E ?_); (with_reducible repeat refine Y ?_); refine eF rfl ?_) | (with_reducible refine fun (K : _ → _ → Prop) hK => ?_) | (with_reducible show drawOK _ _ = true; kernel_rfl) | (with_reducible refine gI fun hg => ?_; try simp only [hC, reduceCtorEq] at hg; try simp only [hg]) | simp (maxSteps := 2000000) (disch := omega) only [go_sem] | (with_reducible intro hg; try simp only [hC, reduceCtorEq] at hg) | (with_reducible show List.Nodup _; decide) | (with_reducible show (_ : Bool) = false; first | rfl | (simp [*]; done)) | with_reducible exact at8_le _ _ | with_reducible exact at8_ge _ _ | (simp only [hC, reduceCtorEq]; omega) | omega | with_reducible assumption | (with_reducible show (_ : Bool) = true; first | (simp [*]; done) | (simp only [hC, reduceCtorEq]; (repeat' (first | assumption | apply And.intro)); done))))
  refine AW.imp (Imp.frzO (b := hg) (by simp (maxSteps := 2000000) (disch := omega) only [go_sem]; rfl) ?_)
  simp (maxSteps := 2000000) (disch := omega) only [go_sem]
  (repeat' (first | (with_reducible first | refine Z ?_ | refine Y ?_ | (refine hK _ _ ?_; clear hK K) | exact trivial | refine And.intro ?_ ?_) | (refine AW.i rfl (fun h => ?_) (fun h => ?_) <;> try simp only [hC, reduceCtorEq] at h) | with_reducible rfl | ((with_reducible refine E ?_); (with_reducible repeat refine Y ?_); refine eF rfl ?_) | (with_reducible refine fun (K : _ → _ → Prop) hK => ?_) | (with_reducible show drawOK _ _ = true; kernel_rfl) | (with_reducible refine gI fun hg => ?_; try simp only [hC, reduceCtorEq] at hg; try simp only [hg]) | simp (maxSteps := 2000000) (disch := omega) only [go_sem] | (with_reducible intro hg; try simp only [hC, reduceCtorEq] at hg) | (with_reducible show List.Nodup _; decide) | (with_reducible show (_ : Bool) = false; first | rfl | (simp [*]; done)) | with_reducible exact at8_le _ _ | with_reducible exact at8_ge _ _ | (simp only [hC, reduceCtorEq]; omega) | omega | with_reducible assumption | (with_reducible show (_ : Bool) = true; first | (simp [*]; done) | (simp only [hC, reduceCtorEq]; (repeat' (first | assumption | apply And.intro)); done))))
  refine CallP.low (by have hl := lowF_low [(hg, some [.str x.fName, .sl false 6 (x.fParams.map (encParam false)), .sl false 3 (x.fBody.map (encNode false))])] [.agg [.str x.fName, .sl false 6 (x.fParams.map (encParam false)), .sl false 3 (x.fBody.map (encNode false))], .agg [.str x.fName, .sl true 6 (x.fParams.map (encParam true)), .sl true 3 (x.fBody.map (encNode true))]]; simp only [lowF, go_sem] at hl; exact hl) rfl (fun _ => trivial) ?_
  (repeat' (first | (with_reducible first | refine Z ?_ | refine Y ?_ | (refine hK _ _ ?_; clear hK K) | exact trivial | refine And.intro ?_ ?_) | (refine AW.i rfl (fun h => ?_) (fun h => ?_) <;> try simp only [hC, reduceCtorEq] at h) | with_reducible rfl | ((with_reducible refine E ?_); (with_reducible repeat refine Y ?_); refine eF rfl ?_) | (with_reducible refine fun (K : _ → _ → Prop) hK => ?_) | (with_reducible show drawOK _ _ = true; kernel_rfl) | (with_reducible refine gI fun hg => ?_; try simp only [hC, reduceCtorEq] at hg; try simp only [hg]) | simp (maxSteps := 2000000) (disch := omega) only [go_sem] | (with_reducible intro hg; try simp only [hC, reduceCtorEq] at hg) | (with_reducible show List.Nodup _; decide) | (with_reducible show (_ : Bool) = false; first | rfl | (simp [*]; done)) | with_reducible exact at8_le _ _ | with_reducible exact at8_ge _ _ | (simp only [hC, reduceCtorEq]; omega) | omega | with_reducible assumption | (with_reducible show (_ : Bool) = true; first | (simp [*]; done) | (simp only [hC, reduceCtorEq]; (repeat' (first | assumption | apply And.intro)); done))))
theorem lawIsTemplate_c (x : GTemplate) : LawC Try.prog 8 [encTemplate false x] := by
  by_cases h1 : szTemplate x 1048576 < 0
  · exact .raw (lawIsTemplate_A x h1) trivial
  · exact .fit ⟨fitTemplate x 1048576 (by omega) (by omega) (by omega), trivial⟩ (lawIsTemplate_B x h1) trivial
end Go.Proofs.Ytkdchlggdcmkbaa
