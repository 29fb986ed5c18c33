/-
  Part of a proof: MmA, McA, Rs1.
-/
import Derived.Test.YtkdchlggdcmkbaaGreatG15
import Derived.Test.YtkdchlggdcmkbaaGreatG18
set_option linter.unusedSimpArgs false
set_option linter.unusedVariables false
namespace Go.Dt
open Go.Ab
def stTest (x : GTest) (k : Int) : GTest × Int := (⟨mkT k, mkT (k + 1)⟩, k + 1 + 1)
theorem stTest_ge (x : GTest) (k : Int) : k + 1 ≤ (stTest x k).2 := by
  unfold stTest; simp only; omega
def stStep (x : GStep) (k : Int) : GStep × Int := (⟨mkT k, (mkL stTest x.fTests (k + 1)).1⟩, (mkL stTest x.fTests (k + 1)).2)
theorem stStep_ge (x : GStep) (k : Int) : k + 1 ≤ (stStep x k).2 := by
  have g0 := mkL_up stTest_ge x.fTests (k + 1)
  unfold stStep; simp only; omega
mutual
def stExpr : GExpr → Int → GExpr × Int
  | .mk fOp fNum fText fPath fKids, k => (.mk k (k + 1) (mkT (k + 1 + 1)) (⟨((k + 1 + 1 + 1).tmod 3 == 0), k + 1 + 1 + 1 + 1, (mkL stStep fPath.fSteps (k + 1 + 1 + 1 + 1 + 1)).1⟩) ((stExprs fKids ((mkL stStep fPath.fSteps (k + 1 + 1 + 1 + 1 + 1)).2)).1), (stExprs fKids ((mkL stStep fPath.fSteps (k + 1 + 1 + 1 + 1 + 1)).2)).2)
def stExprs : List GExpr → Int → List GExpr × Int
  | [], k => ([], k)
  | x :: xs, k => ((stExpr x k).1 :: (stExprs xs (stExpr x k).2).1, (stExprs xs (stExpr x k).2).2)
end
theorem stExprs_eq : ∀ (l : List GExpr) (k : Int), stExprs l k = mkL stExpr l k
  | [], k => by simp [stExprs, mkL]
  | x :: xs, k => by simp [stExprs, mkL, stExprs_eq xs]
theorem stExpr_eq (x : GExpr) (k : Int) : stExpr x k = (.mk k (k + 1) (mkT (k + 1 + 1)) (⟨((k + 1 + 1 + 1).tmod 3 == 0), k + 1 + 1 + 1 + 1, (mkL stStep x.fPath.fSteps (k + 1 + 1 + 1 + 1 + 1)).1⟩) ((mkL stExpr x.fKids ((mkL stStep x.fPath.fSteps (k + 1 + 1 + 1 + 1 + 1)).2)).1), (mkL stExpr x.fKids ((mkL stStep x.fPath.fSteps (k + 1 + 1 + 1 + 1 + 1)).2)).2) := by
  cases x; simp only [stExpr, stExprs_eq]; rfl
mutual
theorem stExpr_ge : ∀ (x : GExpr) (k : Int), k + 1 ≤ (stExpr x k).2
  | .mk fOp fNum fText fPath fKids, k => by
    have g0 := mkL_up stStep_ge fPath.fSteps (k + 1 + 1 + 1 + 1 + 1)
    have g1 := stExprs_ge fKids ((mkL stStep fPath.fSteps (k + 1 + 1 + 1 + 1 + 1)).2)
    simp only [stExpr]; omega
theorem stExprs_ge : ∀ (l : List GExpr) (k : Int), k + l.length ≤ (stExprs l k).2
  | [], k => by simp [stExprs]
  | x :: xs, k => by have h1 := stExpr_ge x k; have h2 := stExprs_ge xs (stExpr x k).2; simp only [stExprs, List.length_cons]; omega
end
mutual
def stSchema : GSchema → Int → GSchema × Int
  | .mk fKind fName fType fKeys fUnique fDefault fGiven fNeeded fPresent fFixed fMin fMax fWhen fMust fKids, k => (.mk k (mkT (k + 1)) (⟨k + 1 + 1, (mkL stRange fType.fRanges (k + 1 + 1 + 1)).1, (mkL stString fType.fNames ((mkL stRange fType.fRanges (k + 1 + 1 + 1)).2)).1, mkT ((mkL stString fType.fNames ((mkL stRange fType.fRanges (k + 1 + 1 + 1)).2)).2), mkT ((mkL stString fType.fNames ((mkL stRange fType.fRanges (k + 1 + 1 + 1)).2)).2 + 1)⟩) ((mkL stString fKeys ((mkL stString fType.fNames ((mkL stRange fType.fRanges (k + 1 + 1 + 1)).2)).2 + 1 + 1)).1) ((mkL stString fUnique ((mkL stString fKeys ((mkL stString fType.fNames ((mkL stRange fType.fRanges (k + 1 + 1 + 1)).2)).2 + 1 + 1)).2)).1) (mkT ((mkL stString fUnique ((mkL stString fKeys ((mkL stString fType.fNames ((mkL stRange fType.fRanges (k + 1 + 1 + 1)).2)).2 + 1 + 1)).2)).2)) ((((mkL stString fUnique ((mkL stString fKeys ((mkL stString fType.fNames ((mkL stRange fType.fRanges (k + 1 + 1 + 1)).2)).2 + 1 + 1)).2)).2 + 1).tmod 3 == 0)) ((((mkL stString fUnique ((mkL stString fKeys ((mkL stString fType.fNames ((mkL stRange fType.fRanges (k + 1 + 1 + 1)).2)).2 + 1 + 1)).2)).2 + 1 + 1).tmod 3 == 0)) ((((mkL stString fUnique ((mkL stString fKeys ((mkL stString fType.fNames ((mkL stRange fType.fRanges (k + 1 + 1 + 1)).2)).2 + 1 + 1)).2)).2 + 1 + 1 + 1).tmod 3 == 0)) ((((mkL stString fUnique ((mkL stString fKeys ((mkL stString fType.fNames ((mkL stRange fType.fRanges (k + 1 + 1 + 1)).2)).2 + 1 + 1)).2)).2 + 1 + 1 + 1 + 1).tmod 3 == 0)) ((mkL stString fUnique ((mkL stString fKeys ((mkL stString fType.fNames ((mkL stRange fType.fRanges (k + 1 + 1 + 1)).2)).2 + 1 + 1)).2)).2 + 1 + 1 + 1 + 1 + 1) ((mkL stString fUnique ((mkL stString fKeys ((mkL stString fType.fNames ((mkL stRange fType.fRanges (k + 1 + 1 + 1)).2)).2 + 1 + 1)).2)).2 + 1 + 1 + 1 + 1 + 1 + 1) ((mkL stExpr fWhen ((mkL stString fUnique ((mkL stString fKeys ((mkL stString fType.fNames ((mkL stRange fType.fRanges (k + 1 + 1 + 1)).2)).2 + 1 + 1)).2)).2 + 1 + 1 + 1 + 1 + 1 + 1 + 1)).1) ((mkL stExpr fMust ((mkL stExpr fWhen ((mkL stString fUnique ((mkL stString fKeys ((mkL stString fType.fNames ((mkL stRange fType.fRanges (k + 1 + 1 + 1)).2)).2 + 1 + 1)).2)).2 + 1 + 1 + 1 + 1 + 1 + 1 + 1)).2)).1) ((stSchemas fKids ((mkL stExpr fMust ((mkL stExpr fWhen ((mkL stString fUnique ((mkL stString fKeys ((mkL stString fType.fNames ((mkL stRange fType.fRanges (k + 1 + 1 + 1)).2)).2 + 1 + 1)).2)).2 + 1 + 1 + 1 + 1 + 1 + 1 + 1)).2)).2)).1), (stSchemas fKids ((mkL stExpr fMust ((mkL stExpr fWhen ((mkL stString fUnique ((mkL stString fKeys ((mkL stString fType.fNames ((mkL stRange fType.fRanges (k + 1 + 1 + 1)).2)).2 + 1 + 1)).2)).2 + 1 + 1 + 1 + 1 + 1 + 1 + 1)).2)).2)).2)
def stSchemas : List GSchema → Int → List GSchema × Int
  | [], k => ([], k)
  | x :: xs, k => ((stSchema x k).1 :: (stSchemas xs (stSchema x k).2).1, (stSchemas xs (stSchema x k).2).2)
end
theorem stSchemas_eq : ∀ (l : List GSchema) (k : Int), stSchemas l k = mkL stSchema l k
  | [], k => by simp [stSchemas, mkL]
  | x :: xs, k => by simp [stSchemas, mkL, stSchemas_eq xs]
theorem stSchema_eq (x : GSchema) (k : Int) : stSchema x k = (.mk k (mkT (k + 1)) (⟨k + 1 + 1, (mkL stRange x.fType.fRanges (k + 1 + 1 + 1)).1, (mkL stString x.fType.fNames ((mkL stRange x.fType.fRanges (k + 1 + 1 + 1)).2)).1, mkT ((mkL stString x.fType.fNames ((mkL stRange x.fType.fRanges (k + 1 + 1 + 1)).2)).2), mkT ((mkL stString x.fType.fNames ((mkL stRange x.fType.fRanges (k + 1 + 1 + 1)).2)).2 + 1)⟩) ((mkL stString x.fKeys ((mkL stString x.fType.fNames ((mkL stRange x.fType.fRanges (k + 1 + 1 + 1)).2)).2 + 1 + 1)).1) ((mkL stString x.fUnique ((mkL stString x.fKeys ((mkL stString x.fType.fNames ((mkL stRange x.fType.fRanges (k + 1 + 1 + 1)).2)).2 + 1 + 1)).2)).1) (mkT ((mkL stString x.fUnique ((mkL stString x.fKeys ((mkL stString x.fType.fNames ((mkL stRange x.fType.fRanges (k + 1 + 1 + 1)).2)).2 + 1 + 1)).2)).2)) ((((mkL stString x.fUnique ((mkL stString x.fKeys ((mkL stString x.fType.fNames ((mkL stRange x.fType.fRanges (k + 1 + 1 + 1)).2)).2 + 1 + 1)).2)).2 + 1).tmod 3 == 0)) ((((mkL stString x.fUnique ((mkL stString x.fKeys ((mkL stString x.fType.fNames ((mkL stRange x.fType.fRanges (k + 1 + 1 + 1)).2)).2 + 1 + 1)).2)).2 + 1 + 1).tmod 3 == 0)) ((((mkL stString x.fUnique ((mkL stString x.fKeys ((mkL stString x.fType.fNames ((mkL stRange x.fType.fRanges (k + 1 + 1 + 1)).2)).2 + 1 + 1)).2)).2 + 1 + 1 + 1).tmod 3 == 0)) ((((mkL stString x.fUnique ((mkL stString x.fKeys ((mkL stString x.fType.fNames ((mkL stRange x.fType.fRanges (k + 1 + 1 + 1)).2)).2 + 1 + 1)).2)).2 + 1 + 1 + 1 + 1).tmod 3 == 0)) ((mkL stString x.fUnique ((mkL stString x.fKeys ((mkL stString x.fType.fNames ((mkL stRange x.fType.fRanges (k + 1 + 1 + 1)).2)).2 + 1 + 1)).2)).2 + 1 + 1 + 1 + 1 + 1) ((mkL stString x.fUnique ((mkL stString x.fKeys ((mkL stString x.fType.fNames ((mkL stRange x.fType.fRanges (k + 1 + 1 + 1)).2)).2 + 1 + 1)).2)).2 + 1 + 1 + 1 + 1 + 1 + 1) ((mkL stExpr x.fWhen ((mkL stString x.fUnique ((mkL stString x.fKeys ((mkL stString x.fType.fNames ((mkL stRange x.fType.fRanges (k + 1 + 1 + 1)).2)).2 + 1 + 1)).2)).2 + 1 + 1 + 1 + 1 + 1 + 1 + 1)).1) ((mkL stExpr x.fMust ((mkL stExpr x.fWhen ((mkL stString x.fUnique ((mkL stString x.fKeys ((mkL stString x.fType.fNames ((mkL stRange x.fType.fRanges (k + 1 + 1 + 1)).2)).2 + 1 + 1)).2)).2 + 1 + 1 + 1 + 1 + 1 + 1 + 1)).2)).1) ((mkL stSchema x.fKids ((mkL stExpr x.fMust ((mkL stExpr x.fWhen ((mkL stString x.fUnique ((mkL stString x.fKeys ((mkL stString x.fType.fNames ((mkL stRange x.fType.fRanges (k + 1 + 1 + 1)).2)).2 + 1 + 1)).2)).2 + 1 + 1 + 1 + 1 + 1 + 1 + 1)).2)).2)).1), (mkL stSchema x.fKids ((mkL stExpr x.fMust ((mkL stExpr x.fWhen ((mkL stString x.fUnique ((mkL stString x.fKeys ((mkL stString x.fType.fNames ((mkL stRange x.fType.fRanges (k + 1 + 1 + 1)).2)).2 + 1 + 1)).2)).2 + 1 + 1 + 1 + 1 + 1 + 1 + 1)).2)).2)).2) := by
  cases x; simp only [stSchema, stSchemas_eq]; rfl
mutual
theorem stSchema_ge : ∀ (x : GSchema) (k : Int), k + 1 ≤ (stSchema x k).2
  | .mk fKind fName fType fKeys fUnique fDefault fGiven fNeeded fPresent fFixed fMin fMax fWhen fMust fKids, k => by
    have g0 := mkL_up stRange_ge fType.fRanges (k + 1 + 1 + 1)
    have g1 := mkL_up stString_ge fType.fNames ((mkL stRange fType.fRanges (k + 1 + 1 + 1)).2)
    have g2 := mkL_up stString_ge fKeys ((mkL stString fType.fNames ((mkL stRange fType.fRanges (k + 1 + 1 + 1)).2)).2 + 1 + 1)
    have g3 := mkL_up stString_ge fUnique ((mkL stString fKeys ((mkL stString fType.fNames ((mkL stRange fType.fRanges (k + 1 + 1 + 1)).2)).2 + 1 + 1)).2)
    have g4 := mkL_up stExpr_ge fWhen ((mkL stString fUnique ((mkL stString fKeys ((mkL stString fType.fNames ((mkL stRange fType.fRanges (k + 1 + 1 + 1)).2)).2 + 1 + 1)).2)).2 + 1 + 1 + 1 + 1 + 1 + 1 + 1)
    have g5 := mkL_up stExpr_ge fMust ((mkL stExpr fWhen ((mkL stString fUnique ((mkL stString fKeys ((mkL stString fType.fNames ((mkL stRange fType.fRanges (k + 1 + 1 + 1)).2)).2 + 1 + 1)).2)).2 + 1 + 1 + 1 + 1 + 1 + 1 + 1)).2)
    have g6 := stSchemas_ge fKids ((mkL stExpr fMust ((mkL stExpr fWhen ((mkL stString fUnique ((mkL stString fKeys ((mkL stString fType.fNames ((mkL stRange fType.fRanges (k + 1 + 1 + 1)).2)).2 + 1 + 1)).2)).2 + 1 + 1 + 1 + 1 + 1 + 1 + 1)).2)).2)
    simp only [stSchema]; omega
theorem stSchemas_ge : ∀ (l : List GSchema) (k : Int), k + l.length ≤ (stSchemas l k).2
  | [], k => by simp [stSchemas]
  | x :: xs, k => by have h1 := stSchema_ge x k; have h2 := stSchemas_ge xs (stSchema x k).2; simp only [stSchemas, List.length_cons]; omega
end
def stVersion (x : GVersion) (k : Int) : GVersion × Int := (⟨(mkL stNode x.fTree k).1, (mkL stNode x.fTree k).2, (mkL stNode x.fTree k).2 + 1⟩, (mkL stNode x.fTree k).2 + 1 + 1)
theorem stVersion_ge (x : GVersion) (k : Int) : k + 1 ≤ (stVersion x k).2 := by
  have g0 := mkL_up stNode_ge x.fTree k
  unfold stVersion; simp only; omega
def tpPending (x : GPending) (k : Int) : GPending × Int := (⟨x.fOn, x.fUntil, x.fBy, x.fName, (mkL stNode x.fBack k).1⟩, (mkL stNode x.fBack k).2)
def tpStore (x : GStore) (k : Int) : GStore × Int := (⟨(mkL stSchema x.fSchema k).1, (mkL stNode x.fRunning ((mkL stSchema x.fSchema k).2)).1, (mkL stNode x.fDraft ((mkL stNode x.fRunning ((mkL stSchema x.fSchema k).2)).2)).1, x.fOwner, (mkL stVersion x.fPast ((mkL stNode x.fDraft ((mkL stNode x.fRunning ((mkL stSchema x.fSchema k).2)).2)).2)).1, ⟨x.fWait.fOn, x.fWait.fUntil, x.fWait.fBy, x.fWait.fName, (mkL stNode x.fWait.fBack ((mkL stVersion x.fPast ((mkL stNode x.fDraft ((mkL stNode x.fRunning ((mkL stSchema x.fSchema k).2)).2)).2)).2)).1⟩⟩, (mkL stNode x.fWait.fBack ((mkL stVersion x.fPast ((mkL stNode x.fDraft ((mkL stNode x.fRunning ((mkL stSchema x.fSchema k).2)).2)).2)).2)).2)
def stDevice (x : GDevice) (k : Int) : GDevice × Int := (⟨mkT k, ⟨(mkL stSchema x.fStore.fSchema (k + 1)).1, (mkL stNode x.fStore.fRunning ((mkL stSchema x.fStore.fSchema (k + 1)).2)).1, (mkL stNode x.fStore.fDraft ((mkL stNode x.fStore.fRunning ((mkL stSchema x.fStore.fSchema (k + 1)).2)).2)).1, (mkL stNode x.fStore.fDraft ((mkL stNode x.fStore.fRunning ((mkL stSchema x.fStore.fSchema (k + 1)).2)).2)).2, (mkL stVersion x.fStore.fPast ((mkL stNode x.fStore.fDraft ((mkL stNode x.fStore.fRunning ((mkL stSchema x.fStore.fSchema (k + 1)).2)).2)).2 + 1)).1, ⟨(((mkL stVersion x.fStore.fPast ((mkL stNode x.fStore.fDraft ((mkL stNode x.fStore.fRunning ((mkL stSchema x.fStore.fSchema (k + 1)).2)).2)).2 + 1)).2).tmod 3 == 0), (mkL stVersion x.fStore.fPast ((mkL stNode x.fStore.fDraft ((mkL stNode x.fStore.fRunning ((mkL stSchema x.fStore.fSchema (k + 1)).2)).2)).2 + 1)).2 + 1, (mkL stVersion x.fStore.fPast ((mkL stNode x.fStore.fDraft ((mkL stNode x.fStore.fRunning ((mkL stSchema x.fStore.fSchema (k + 1)).2)).2)).2 + 1)).2 + 1 + 1, mkT ((mkL stVersion x.fStore.fPast ((mkL stNode x.fStore.fDraft ((mkL stNode x.fStore.fRunning ((mkL stSchema x.fStore.fSchema (k + 1)).2)).2)).2 + 1)).2 + 1 + 1 + 1), (mkL stNode x.fStore.fWait.fBack ((mkL stVersion x.fStore.fPast ((mkL stNode x.fStore.fDraft ((mkL stNode x.fStore.fRunning ((mkL stSchema x.fStore.fSchema (k + 1)).2)).2)).2 + 1)).2 + 1 + 1 + 1 + 1)).1⟩⟩, (mkL stNode x.fBase ((mkL stNode x.fStore.fWait.fBack ((mkL stVersion x.fStore.fPast ((mkL stNode x.fStore.fDraft ((mkL stNode x.fStore.fRunning ((mkL stSchema x.fStore.fSchema (k + 1)).2)).2)).2 + 1)).2 + 1 + 1 + 1 + 1)).2)).1, (((mkL stNode x.fBase ((mkL stNode x.fStore.fWait.fBack ((mkL stVersion x.fStore.fPast ((mkL stNode x.fStore.fDraft ((mkL stNode x.fStore.fRunning ((mkL stSchema x.fStore.fSchema (k + 1)).2)).2)).2 + 1)).2 + 1 + 1 + 1 + 1)).2)).2).tmod 3 == 0), (mkL stNode x.fBase ((mkL stNode x.fStore.fWait.fBack ((mkL stVersion x.fStore.fPast ((mkL stNode x.fStore.fDraft ((mkL stNode x.fStore.fRunning ((mkL stSchema x.fStore.fSchema (k + 1)).2)).2)).2 + 1)).2 + 1 + 1 + 1 + 1)).2)).2 + 1, (((mkL stNode x.fBase ((mkL stNode x.fStore.fWait.fBack ((mkL stVersion x.fStore.fPast ((mkL stNode x.fStore.fDraft ((mkL stNode x.fStore.fRunning ((mkL stSchema x.fStore.fSchema (k + 1)).2)).2)).2 + 1)).2 + 1 + 1 + 1 + 1)).2)).2 + 1 + 1).tmod 3 == 0)⟩, (mkL stNode x.fBase ((mkL stNode x.fStore.fWait.fBack ((mkL stVersion x.fStore.fPast ((mkL stNode x.fStore.fDraft ((mkL stNode x.fStore.fRunning ((mkL stSchema x.fStore.fSchema (k + 1)).2)).2)).2 + 1)).2 + 1 + 1 + 1 + 1)).2)).2 + 1 + 1 + 1)
def tpDevice (x : GDevice) (k : Int) : GDevice × Int := (⟨x.fName, ⟨(mkL stSchema x.fStore.fSchema k).1, (mkL stNode x.fStore.fRunning ((mkL stSchema x.fStore.fSchema k).2)).1, (mkL stNode x.fStore.fDraft ((mkL stNode x.fStore.fRunning ((mkL stSchema x.fStore.fSchema k).2)).2)).1, x.fStore.fOwner, (mkL stVersion x.fStore.fPast ((mkL stNode x.fStore.fDraft ((mkL stNode x.fStore.fRunning ((mkL stSchema x.fStore.fSchema k).2)).2)).2)).1, ⟨x.fStore.fWait.fOn, x.fStore.fWait.fUntil, x.fStore.fWait.fBy, x.fStore.fWait.fName, (mkL stNode x.fStore.fWait.fBack ((mkL stVersion x.fStore.fPast ((mkL stNode x.fStore.fDraft ((mkL stNode x.fStore.fRunning ((mkL stSchema x.fStore.fSchema k).2)).2)).2)).2)).1⟩⟩, (mkL stNode x.fBase ((mkL stNode x.fStore.fWait.fBack ((mkL stVersion x.fStore.fPast ((mkL stNode x.fStore.fDraft ((mkL stNode x.fStore.fRunning ((mkL stSchema x.fStore.fSchema k).2)).2)).2)).2)).2)).1, x.fUp, x.fWeak, x.fHeld⟩, (mkL stNode x.fBase ((mkL stNode x.fStore.fWait.fBack ((mkL stVersion x.fStore.fPast ((mkL stNode x.fStore.fDraft ((mkL stNode x.fStore.fRunning ((mkL stSchema x.fStore.fSchema k).2)).2)).2)).2)).2)).2)
theorem tpDevice_ge (x : GDevice) (k : Int) : k ≤ (tpDevice x k).2 := by
  have g0 := mkL_up stSchema_ge x.fStore.fSchema k
  have g1 := mkL_up stNode_ge x.fStore.fRunning ((mkL stSchema x.fStore.fSchema k).2)
  have g2 := mkL_up stNode_ge x.fStore.fDraft ((mkL stNode x.fStore.fRunning ((mkL stSchema x.fStore.fSchema k).2)).2)
  have g3 := mkL_up stVersion_ge x.fStore.fPast ((mkL stNode x.fStore.fDraft ((mkL stNode x.fStore.fRunning ((mkL stSchema x.fStore.fSchema k).2)).2)).2)
  have g4 := mkL_up stNode_ge x.fStore.fWait.fBack ((mkL stVersion x.fStore.fPast ((mkL stNode x.fStore.fDraft ((mkL stNode x.fStore.fRunning ((mkL stSchema x.fStore.fSchema k).2)).2)).2)).2)
  have g5 := mkL_up stNode_ge x.fBase ((mkL stNode x.fStore.fWait.fBack ((mkL stVersion x.fStore.fPast ((mkL stNode x.fStore.fDraft ((mkL stNode x.fStore.fRunning ((mkL stSchema x.fStore.fSchema k).2)).2)).2)).2)).2)
  unfold tpDevice; simp only; omega
def stTask (x : GTask) (k : Int) : GTask × Int := (⟨mkT k, (mkL stNode x.fTree (k + 1)).1, (mkL stNode x.fTree (k + 1)).2⟩, (mkL stNode x.fTree (k + 1)).2 + 1)
def tpCampaign (x : GCampaign) (k : Int) : GCampaign × Int := (⟨x.fState, (mkL stTask x.fTasks k).1⟩, (mkL stTask x.fTasks k).2)
def tpManager (x : GManager) (k : Int) : GManager × Int := (⟨⟨(mkL stTemplate x.fPlan.fTemplates k).1, (mkL stService x.fPlan.fServices ((mkL stTemplate x.fPlan.fTemplates k).2)).1⟩, (mkL stDevice x.fDevices ((mkL stService x.fPlan.fServices ((mkL stTemplate x.fPlan.fTemplates k).2)).2)).1, ⟨x.fCampaign.fState, (mkL stTask x.fCampaign.fTasks ((mkL stDevice x.fDevices ((mkL stService x.fPlan.fServices ((mkL stTemplate x.fPlan.fTemplates k).2)).2)).2)).1⟩, ⟨x.fLast.fState, (mkL stTask x.fLast.fTasks ((mkL stTask x.fCampaign.fTasks ((mkL stDevice x.fDevices ((mkL stService x.fPlan.fServices ((mkL stTemplate x.fPlan.fTemplates k).2)).2)).2)).2)).1⟩, x.fNow⟩, (mkL stTask x.fLast.fTasks ((mkL stTask x.fCampaign.fTasks ((mkL stDevice x.fDevices ((mkL stService x.fPlan.fServices ((mkL stTemplate x.fPlan.fTemplates k).2)).2)).2)).2)).2)
end Go.Dt
namespace Go.Dt
open Go.Ab
theorem stTest_cap (x : GTest) (k r : Int) (h0 : 0 ≤ r) (h : 0 ≤ szTest x r) : (stTest x k).2 ≤ k + 32 + 32 * (r - szTest x r) := by
  simp only [stTest]
  unfold szTest at h ⊢
  obtain ⟨a0, h⟩ := thn_get h
  rw [thn_posK a0]
  have q0 := szStr_le x.fName r h0
  obtain ⟨a1, h⟩ := thn_get h
  rw [thn_posK a1]
  have q1 := szStr_le x.fValue (szStr x.fName r) a0
  simp only [id]
  omega
theorem stStep_cap (x : GStep) (k r : Int) (h0 : 0 ≤ r) (h : 0 ≤ szStep x r) : (stStep x k).2 ≤ k + 32 + 32 * (r - szStep x r) := by
  simp only [stStep]
  unfold szStep at h ⊢
  obtain ⟨a0, h⟩ := thn_get h
  rw [thn_posK a0]
  have q0 := szStr_le x.fName r h0
  obtain ⟨a1, h⟩ := thn_get h
  rw [thn_posK a1]
  have q1 := mkL_cap szTest_le stTest_cap x.fTests (k + 1) (szStr x.fName r) a0 a1
  simp only [id]
  omega
def inPath (x : GPath) (k : Int) : Int := (mkL stStep x.fSteps (k + 1 + 1)).2
theorem inPath_cap (x : GPath) (k r : Int) (h0 : 0 ≤ r) (h : 0 ≤ szPath x r) : inPath x k ≤ k + 2 + 32 * (r - szPath x r) := by
  unfold inPath
  unfold szPath at h ⊢
  obtain ⟨a0, h⟩ := thn_get h
  rw [thn_posK a0]
  have q0 := mkL_cap szStep_le stStep_cap x.fSteps (k + 1 + 1) r h0 a0
  simp only [id]
  omega
def tpPath (x : GPath) (k : Int) : Unit × Int := ((), (mkL stStep x.fSteps k).2)
theorem stExpr_cap (x : GExpr) (k r : Int) (h0 : 0 ≤ r) (h : 0 ≤ szExpr x r) : (stExpr x k).2 ≤ k + 32 + 32 * (r - szExpr x r) := by
  rw [stExpr_eq]; simp only
  rw [szExpr_eq] at h ⊢
  obtain ⟨a0, h⟩ := thn_get h
  rw [thn_posK a0]
  have q0 := szStr_le x.fText r h0
  obtain ⟨a1, h⟩ := thn_get h
  rw [thn_posK a1]
  have q1 := inPath_cap x.fPath (k + 1 + 1 + 1) (szStr x.fText r) a0 a1
  simp only [inPath] at q1
  obtain ⟨a2, h⟩ := thn_get h
  rw [thn_posK a2]
  have q2 := mkL_capm szExpr_le x.fKids (fun y hy => stExpr_cap y) ((mkL stStep x.fPath.fSteps (k + 1 + 1 + 1 + 1 + 1)).2) (szPath x.fPath (szStr x.fText r)) a1 a2
  simp only [id]
  omega
termination_by SizeOf.sizeOf x
decreasing_by have := List.sizeOf_lt_of_mem hy; cases x; simp [GExpr.fKids] at *; omega
theorem stSchema_cap (x : GSchema) (k r : Int) (h0 : 0 ≤ r) (h : 0 ≤ szSchema x r) : (stSchema x k).2 ≤ k + 32 + 32 * (r - szSchema x r) := by
  rw [stSchema_eq]; simp only
  rw [szSchema_eq] at h ⊢
  obtain ⟨a0, h⟩ := thn_get h
  rw [thn_posK a0]
  have q0 := szStr_le x.fName r h0
  obtain ⟨a1, h⟩ := thn_get h
  rw [thn_posK a1]
  have q1 := inType_cap x.fType (k + 1 + 1) (szStr x.fName r) a0 a1
  simp only [inType] at q1
  obtain ⟨a2, h⟩ := thn_get h
  rw [thn_posK a2]
  have q2 := mkL_cap szStr_le stString_cap x.fKeys ((mkL stString x.fType.fNames ((mkL stRange x.fType.fRanges (k + 1 + 1 + 1)).2)).2 + 1 + 1) (szType x.fType (szStr x.fName r)) a1 a2
  obtain ⟨a3, h⟩ := thn_get h
  rw [thn_posK a3]
  have q3 := mkL_cap szStr_le stString_cap x.fUnique ((mkL stString x.fKeys ((mkL stString x.fType.fNames ((mkL stRange x.fType.fRanges (k + 1 + 1 + 1)).2)).2 + 1 + 1)).2) (szSl szStr x.fKeys (szType x.fType (szStr x.fName r))) a2 a3
  obtain ⟨a4, h⟩ := thn_get h
  rw [thn_posK a4]
  have q4 := szStr_le x.fDefault (szSl szStr x.fUnique (szSl szStr x.fKeys (szType x.fType (szStr x.fName r)))) a3
  obtain ⟨a5, h⟩ := thn_get h
  rw [thn_posK a5]
  have q5 := mkL_cap szExpr_le stExpr_cap x.fWhen ((mkL stString x.fUnique ((mkL stString x.fKeys ((mkL stString x.fType.fNames ((mkL stRange x.fType.fRanges (k + 1 + 1 + 1)).2)).2 + 1 + 1)).2)).2 + 1 + 1 + 1 + 1 + 1 + 1 + 1) (szStr x.fDefault (szSl szStr x.fUnique (szSl szStr x.fKeys (szType x.fType (szStr x.fName r))))) a4 a5
  obtain ⟨a6, h⟩ := thn_get h
  rw [thn_posK a6]
  have q6 := mkL_cap szExpr_le stExpr_cap x.fMust ((mkL stExpr x.fWhen ((mkL stString x.fUnique ((mkL stString x.fKeys ((mkL stString x.fType.fNames ((mkL stRange x.fType.fRanges (k + 1 + 1 + 1)).2)).2 + 1 + 1)).2)).2 + 1 + 1 + 1 + 1 + 1 + 1 + 1)).2) (szSl szExpr x.fWhen (szStr x.fDefault (szSl szStr x.fUnique (szSl szStr x.fKeys (szType x.fType (szStr x.fName r)))))) a5 a6
  obtain ⟨a7, h⟩ := thn_get h
  rw [thn_posK a7]
  have q7 := mkL_capm szSchema_le x.fKids (fun y hy => stSchema_cap y) ((mkL stExpr x.fMust ((mkL stExpr x.fWhen ((mkL stString x.fUnique ((mkL stString x.fKeys ((mkL stString x.fType.fNames ((mkL stRange x.fType.fRanges (k + 1 + 1 + 1)).2)).2 + 1 + 1)).2)).2 + 1 + 1 + 1 + 1 + 1 + 1 + 1)).2)).2) (szSl szExpr x.fMust (szSl szExpr x.fWhen (szStr x.fDefault (szSl szStr x.fUnique (szSl szStr x.fKeys (szType x.fType (szStr x.fName r))))))) a6 a7
  simp only [id]
  omega
termination_by SizeOf.sizeOf x
decreasing_by have := List.sizeOf_lt_of_mem hy; cases x; simp [GSchema.fKids] at *; omega
theorem stVersion_cap (x : GVersion) (k r : Int) (h0 : 0 ≤ r) (h : 0 ≤ szVersion x r) : (stVersion x k).2 ≤ k + 32 + 32 * (r - szVersion x r) := by
  simp only [stVersion]
  unfold szVersion at h ⊢
  obtain ⟨a0, h⟩ := thn_get h
  rw [thn_posK a0]
  have q0 := mkL_cap szNode_le stNode_cap x.fTree k r h0 a0
  simp only [id]
  omega
def inPending (x : GPending) (k : Int) : Int := (mkL stNode x.fBack (k + 1 + 1 + 1 + 1)).2
theorem tpPending_cap (x : GPending) (k r : Int) (h0 : 0 ≤ r) (h : 0 ≤ szPending x r) : (tpPending x k).2 ≤ k + 32 * (r - szPending x r) := by
  simp only [tpPending]
  unfold szPending at h ⊢
  obtain ⟨a0, h⟩ := thn_get h
  rw [thn_posK a0]
  have q0 := szStr_le x.fName r h0
  obtain ⟨a1, h⟩ := thn_get h
  rw [thn_posK a1]
  have q1 := mkL_cap szNode_le stNode_cap x.fBack k (szStr x.fName r) a0 a1
  simp only [id]
  omega
def inStore (x : GStore) (k : Int) : Int := (mkL stNode x.fWait.fBack ((mkL stVersion x.fPast ((mkL stNode x.fDraft ((mkL stNode x.fRunning ((mkL stSchema x.fSchema k).2)).2)).2 + 1)).2 + 1 + 1 + 1 + 1)).2
theorem tpStore_cap (x : GStore) (k r : Int) (h0 : 0 ≤ r) (h : 0 ≤ szStore x r) : (tpStore x k).2 ≤ k + 32 * (r - szStore x r) := by
  simp only [tpStore]
  unfold szStore at h ⊢
  obtain ⟨a0, h⟩ := thn_get h
  rw [thn_posK a0]
  have q0 := mkL_cap szSchema_le stSchema_cap x.fSchema k r h0 a0
  obtain ⟨a1, h⟩ := thn_get h
  rw [thn_posK a1]
  have q1 := mkL_cap szNode_le stNode_cap x.fRunning ((mkL stSchema x.fSchema k).2) (szSl szSchema x.fSchema r) a0 a1
  obtain ⟨a2, h⟩ := thn_get h
  rw [thn_posK a2]
  have q2 := mkL_cap szNode_le stNode_cap x.fDraft ((mkL stNode x.fRunning ((mkL stSchema x.fSchema k).2)).2) (szSl szNode x.fRunning (szSl szSchema x.fSchema r)) a1 a2
  obtain ⟨a3, h⟩ := thn_get h
  rw [thn_posK a3]
  have q3 := mkL_cap szVersion_le stVersion_cap x.fPast ((mkL stNode x.fDraft ((mkL stNode x.fRunning ((mkL stSchema x.fSchema k).2)).2)).2) (szSl szNode x.fDraft (szSl szNode x.fRunning (szSl szSchema x.fSchema r))) a2 a3
  obtain ⟨a4, h⟩ := thn_get h
  rw [thn_posK a4]
  have q4 := tpPending_cap x.fWait ((mkL stVersion x.fPast ((mkL stNode x.fDraft ((mkL stNode x.fRunning ((mkL stSchema x.fSchema k).2)).2)).2)).2) (szSl szVersion x.fPast (szSl szNode x.fDraft (szSl szNode x.fRunning (szSl szSchema x.fSchema r)))) a3 a4
  simp only [tpPending] at q4
  simp only [id]
  omega
theorem tpDevice_cap (x : GDevice) (k r : Int) (h0 : 0 ≤ r) (h : 0 ≤ szDevice x r) : (tpDevice x k).2 ≤ k + 32 * (r - szDevice x r) := by
  simp only [tpDevice]
  unfold szDevice at h ⊢
  obtain ⟨a0, h⟩ := thn_get h
  rw [thn_posK a0]
  have q0 := szStr_le x.fName r h0
  obtain ⟨a1, h⟩ := thn_get h
  rw [thn_posK a1]
  have q1 := tpStore_cap x.fStore k (szStr x.fName r) a0 a1
  simp only [tpStore] at q1
  obtain ⟨a2, h⟩ := thn_get h
  rw [thn_posK a2]
  have q2 := mkL_cap szNode_le stNode_cap x.fBase ((mkL stNode x.fStore.fWait.fBack ((mkL stVersion x.fStore.fPast ((mkL stNode x.fStore.fDraft ((mkL stNode x.fStore.fRunning ((mkL stSchema x.fStore.fSchema k).2)).2)).2)).2)).2) (szStore x.fStore (szStr x.fName r)) a1 a2
  simp only [id]
  omega
def inCampaign (x : GCampaign) (k : Int) : Int := (mkL stTask x.fTasks (k + 1)).2
end Go.Dt
namespace Go.Dt
open Go.Ab
/-- how far marks count in each part of a device -/
theorem dev_caps {x : GDevice} {r : Int} (h0 : 0 ≤ r) (h : 0 ≤ szDevice x r) :
    (∀ k, (mkL stSchema x.fStore.fSchema k).2 ≤ k + 32 * r) ∧ (∀ k, (mkL stNode x.fStore.fRunning k).2 ≤ k + 32 * r) ∧ (∀ k, (mkL stVersion x.fStore.fPast k).2 ≤ k + 32 * r) ∧
    (∀ k, (mkL stNode x.fStore.fWait.fBack k).2 ≤ k + 32 * r) ∧ (∀ k, (mkL stNode x.fBase k).2 ≤ k + 32 * r) := by
  unfold szDevice at h
  obtain ⟨a0, h⟩ := thn_get h
  have e0 := szStr_le x.fName r h0
  obtain ⟨a1, h⟩ := thn_get h
  obtain ⟨a2, _⟩ := thn_get h
  have e1 := szStore_le x.fStore _ a0
  have b := a1
  unfold szStore at b
  obtain ⟨b0, b⟩ := thn_get b
  have f0 := szSl_le szSchema szSchema_le x.fStore.fSchema _ a0
  obtain ⟨b1, b⟩ := thn_get b
  have f1 := szSl_le szNode szNode_le x.fStore.fRunning _ b0
  obtain ⟨b2, b⟩ := thn_get b
  have f2 := szSl_le szNode szNode_le x.fStore.fDraft _ b1
  obtain ⟨b3, b⟩ := thn_get b
  have f3 := szSl_le szVersion szVersion_le x.fStore.fPast _ b2
  obtain ⟨b4, _⟩ := thn_get b
  unfold szPending at b4
  obtain ⟨c0, c⟩ := thn_get b4
  have g0 := szStr_le x.fStore.fWait.fName _ b3
  obtain ⟨c1, _⟩ := thn_get c
  refine ⟨fun k => ?_, fun k => ?_, fun k => ?_, fun k => ?_, fun k => ?_⟩
  · have := mkL_cap szSchema_le stSchema_cap x.fStore.fSchema k _ a0 b0; omega
  · have := mkL_cap szNode_le stNode_cap x.fStore.fRunning k _ b0 b1; omega
  · have := mkL_cap szVersion_le stVersion_cap x.fStore.fPast k _ b2 b3; omega
  · have := mkL_cap szNode_le stNode_cap x.fStore.fWait.fBack k _ c0 c1; omega
  · have := mkL_cap szNode_le stNode_cap x.fBase k _ a1 a2; omega
theorem capStp {f : Int → Int} {c K B : Int} (h : ∀ k, f k ≤ k + c) (hK : K ≤ B - c) : f K ≤ B := by have := h K; omega
theorem rst_cap {x : GDevice} {r : Int} (h0 : 0 ≤ r) (h : 0 ≤ szDevice x r) : (mkL stNode (rstDevice x).fBase (mkL stNode (rstDevice x).fStore.fWait.fBack (mkL stVersion (rstDevice x).fStore.fPast (mkL stNode (rstDevice x).fStore.fDraft (mkL stNode (rstDevice x).fStore.fRunning (mkL stSchema (rstDevice x).fStore.fSchema 1).2).2).2).2).2).2 ≤ 1 + 192 * r := by
  obtain ⟨p0, p1, p2, p3, p4⟩ := dev_caps h0 h
  cases hOn : x.fStore.fWait.fOn with
  | true =>
    simp only [rstDevice, rstStore, rstRun, hOn, cond_true, mkL]
    exact capStp (f := fun k => (mkL stNode x.fBase k).2) p4 (capStp (f := fun k => (mkL stVersion x.fStore.fPast k).2) p2 (capStp (f := fun k => (mkL stNode x.fStore.fWait.fBack k).2) p3 (capStp (f := fun k => (mkL stNode x.fStore.fWait.fBack k).2) p3 (capStp (f := fun k => (mkL stSchema x.fStore.fSchema k).2) p0 (by omega)))))
  | false =>
    simp only [rstDevice, rstStore, rstRun, hOn, cond_false]
    exact capStp (f := fun k => (mkL stNode x.fBase k).2) p4 (capStp (f := fun k => (mkL stNode x.fStore.fWait.fBack k).2) p3 (capStp (f := fun k => (mkL stVersion x.fStore.fPast k).2) p2 (capStp (f := fun k => (mkL stNode x.fStore.fRunning k).2) p1 (capStp (f := fun k => (mkL stNode x.fStore.fRunning k).2) p1 (capStp (f := fun k => (mkL stSchema x.fStore.fSchema k).2) p0 (by omega))))))
end Go.Dt
