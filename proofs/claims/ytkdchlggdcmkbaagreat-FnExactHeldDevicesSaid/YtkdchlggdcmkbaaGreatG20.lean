/-
  Part of a proof: Mc0, Mc1, McA.
-/
import Derived.Test.YtkdchlggdcmkbaaGreatG7
import Derived.Test.YtkdchlggdcmkbaaGreatG8
import Derived.Test.YtkdchlggdcmkbaaGreatG18
set_option linter.unusedSimpArgs false
set_option linter.unusedVariables false
namespace Go.Dt
open Go.Ab
theorem thn_posK {a : Int} {k : Int → Int} (h : 0 ≤ a) : thn a k = k a := by unfold thn; rw [if_neg (by omega)]
theorem mkL_capm {α : Type} {f : α → Int → α × Int} {s : α → Int → Int} (hs : ∀ x r, 0 ≤ r → s x r ≤ r) (l : List α) (hf : ∀ x ∈ l, ∀ k r, 0 ≤ r → 0 ≤ s x r → (f x k).2 ≤ k + 32 + 32 * (r - s x r)) (k r : Int) (h0 : 0 ≤ r) (h : 0 ≤ szSl s l r) : (mkL f l k).2 ≤ k + 32 * (r - szSl s l r) := by
  have key : ∀ (l : List α), (∀ x ∈ l, ∀ k r, 0 ≤ r → 0 ≤ s x r → (f x k).2 ≤ k + 32 + 32 * (r - s x r)) → ∀ (k r : Int), 0 ≤ r → 0 ≤ szGo s l r → (mkL f l k).2 ≤ k + 32 * l.length + 32 * (r - szGo s l r) := by
    intro l
    induction l with
    | nil => intro _ k r h0 _; simp [mkL, szGo]
    | cons x xs ih =>
      intro hf k r h0 h
      rw [szGo] at h ⊢
      obtain ⟨a0, h⟩ := thn_get h
      rw [thn_posK a0]
      have h1 := hf x (by simp) k r h0 a0
      have h2 := ih (fun y hy => hf y (by simp [hy])) (f x k).2 (s x r) a0 h
      simp only [mkL, List.length_cons]
      omega
  have h4 := szSl_lenle h
  rw [szSl_pos (by omega)] at h ⊢
  have := key l hf k (r - l.length) (by omega) h
  omega
theorem mkL_cap {α : Type} {f : α → Int → α × Int} {s : α → Int → Int} (hs : ∀ x r, 0 ≤ r → s x r ≤ r) (hf : ∀ x k r, 0 ≤ r → 0 ≤ s x r → (f x k).2 ≤ k + 32 + 32 * (r - s x r)) (l : List α) (k r : Int) (h0 : 0 ≤ r) (h : 0 ≤ szSl s l r) : (mkL f l k).2 ≤ k + 32 * (r - szSl s l r) :=
  mkL_capm hs l (fun x _ => hf x) k r h0 h
theorem stString_cap (x : Str) (k r : Int) (h0 : 0 ≤ r) (h : 0 ≤ szStr x r) : (stString x k).2 ≤ k + 32 + 32 * (r - szStr x r) := by
  have := szStr_le x r h0
  unfold stString; simp only; omega
end Go.Dt
namespace Go.Dt
open Go.Ab
theorem stRange_cap (x : GRange) (k r : Int) (h0 : 0 ≤ r) (h : 0 ≤ szRange x r) : (stRange x k).2 ≤ k + 32 + 32 * (r - szRange x r) := by
  simp only [stRange]
  unfold szRange; omega
def inType (x : GType) (k : Int) : Int := (mkL stString x.fNames ((mkL stRange x.fRanges (k + 1)).2)).2 + 1 + 1
theorem inType_cap (x : GType) (k r : Int) (h0 : 0 ≤ r) (h : 0 ≤ szType x r) : inType x k ≤ k + 3 + 32 * (r - szType x r) := by
  unfold inType
  unfold szType at h ⊢
  obtain ⟨a0, h⟩ := thn_get h
  rw [thn_posK a0]
  have q0 := mkL_cap szRange_le stRange_cap x.fRanges (k + 1) r h0 a0
  obtain ⟨a1, h⟩ := thn_get h
  rw [thn_posK a1]
  have q1 := mkL_cap szStr_le stString_cap x.fNames ((mkL stRange x.fRanges (k + 1)).2) (szSl szRange x.fRanges r) a0 a1
  obtain ⟨a2, h⟩ := thn_get h
  rw [thn_posK a2]
  have q2 := szStr_le x.fPattern (szSl szStr x.fNames (szSl szRange x.fRanges r)) a1
  obtain ⟨a3, h⟩ := thn_get h
  rw [thn_posK a3]
  have q3 := szStr_le x.fPath (szStr x.fPattern (szSl szStr x.fNames (szSl szRange x.fRanges r))) a2
  simp only [id]
  omega
def tpType (x : GType) (k : Int) : Unit × Int := ((), (mkL stString x.fNames ((mkL stRange x.fRanges k).2)).2)
theorem stParam_cap (x : GParam) (k r : Int) (h0 : 0 ≤ r) (h : 0 ≤ szParam x r) : (stParam x k).2 ≤ k + 32 + 32 * (r - szParam x r) := by
  simp only [stParam]
  unfold szParam at h ⊢
  obtain ⟨a0, h⟩ := thn_get h
  rw [thn_posK a0]
  have q0 := szStr_le x.fName r h0
  obtain ⟨a1, h⟩ := thn_get h
  rw [thn_posK a1]
  have q1 := inType_cap x.fType (k + 1) (szStr x.fName r) a0 a1
  simp only [inType] at q1
  simp only [id]
  omega
theorem stNode_cap (x : GNode) (k r : Int) (h0 : 0 ≤ r) (h : 0 ≤ szNode x r) : (stNode x k).2 ≤ k + 32 + 32 * (r - szNode x r) := by
  rw [stNode_eq]; simp only
  rw [szNode_eq] at h ⊢
  obtain ⟨a0, h⟩ := thn_get h
  rw [thn_posK a0]
  have q0 := szStr_le x.fName r h0
  obtain ⟨a1, h⟩ := thn_get h
  rw [thn_posK a1]
  have q1 := szStr_le x.fValue (szStr x.fName r) a0
  obtain ⟨a2, h⟩ := thn_get h
  rw [thn_posK a2]
  have q2 := mkL_capm szNode_le x.fKids (fun y hy => stNode_cap y) (k + 1 + 1) (szStr x.fValue (szStr x.fName r)) a1 a2
  simp only [id]
  omega
termination_by SizeOf.sizeOf x
decreasing_by have := List.sizeOf_lt_of_mem hy; cases x; simp [GNode.fKids] at *; omega
theorem stTemplate_cap (x : GTemplate) (k r : Int) (h0 : 0 ≤ r) (h : 0 ≤ szTemplate x r) : (stTemplate x k).2 ≤ k + 32 + 32 * (r - szTemplate x r) := by
  simp only [stTemplate]
  unfold szTemplate at h ⊢
  obtain ⟨a0, h⟩ := thn_get h
  rw [thn_posK a0]
  have q0 := szStr_le x.fName r h0
  obtain ⟨a1, h⟩ := thn_get h
  rw [thn_posK a1]
  have q1 := mkL_cap szParam_le stParam_cap x.fParams (k + 1) (szStr x.fName r) a0 a1
  obtain ⟨a2, h⟩ := thn_get h
  rw [thn_posK a2]
  have q2 := mkL_cap szNode_le stNode_cap x.fBody ((mkL stParam x.fParams (k + 1)).2) (szSl szParam x.fParams (szStr x.fName r)) a1 a2
  simp only [id]
  omega
theorem stArg_cap (x : GArg) (k r : Int) (h0 : 0 ≤ r) (h : 0 ≤ szArg x r) : (stArg x k).2 ≤ k + 32 + 32 * (r - szArg x r) := by
  simp only [stArg]
  unfold szArg at h ⊢
  obtain ⟨a0, h⟩ := thn_get h
  rw [thn_posK a0]
  have q0 := szStr_le x.fName r h0
  obtain ⟨a1, h⟩ := thn_get h
  rw [thn_posK a1]
  have q1 := szStr_le x.fValue (szStr x.fName r) a0
  simp only [id]
  omega
theorem stService_cap (x : GService) (k r : Int) (h0 : 0 ≤ r) (h : 0 ≤ szService x r) : (stService x k).2 ≤ k + 32 + 32 * (r - szService x r) := by
  simp only [stService]
  unfold szService at h ⊢
  obtain ⟨a0, h⟩ := thn_get h
  rw [thn_posK a0]
  have q0 := szStr_le x.fName r h0
  obtain ⟨a1, h⟩ := thn_get h
  rw [thn_posK a1]
  have q1 := szStr_le x.fTemplate (szStr x.fName r) a0
  obtain ⟨a2, h⟩ := thn_get h
  rw [thn_posK a2]
  have q2 := mkL_cap szArg_le stArg_cap x.fArgs (k + 1 + 1) (szStr x.fTemplate (szStr x.fName r)) a1 a2
  obtain ⟨a3, h⟩ := thn_get h
  rw [thn_posK a3]
  have q3 := mkL_cap szStr_le stString_cap x.fTargets ((mkL stArg x.fArgs (k + 1 + 1)).2) (szSl szArg x.fArgs (szStr x.fTemplate (szStr x.fName r))) a2 a3
  simp only [id]
  omega
theorem tpPlan_cap (x : GPlan) (k r : Int) (h0 : 0 ≤ r) (h : 0 ≤ szPlan x r) : (tpPlan x k).2 ≤ k + 32 * (r - szPlan x r) := by
  simp only [tpPlan]
  unfold szPlan at h ⊢
  obtain ⟨a0, h⟩ := thn_get h
  rw [thn_posK a0]
  have q0 := mkL_cap szTemplate_le stTemplate_cap x.fTemplates k r h0 a0
  obtain ⟨a1, h⟩ := thn_get h
  rw [thn_posK a1]
  have q1 := mkL_cap szService_le stService_cap x.fServices ((mkL stTemplate x.fTemplates k).2) (szSl szTemplate x.fTemplates r) a0 a1
  simp only [id]
  omega
end Go.Dt
namespace Go.Dt
open Go.Ab
theorem stTest_cap (x : GTest) (k r : Int) (h0 : 0 ≤ r) (h : 0 ≤ szTest x r) : (stTest x k).2 ≤ k + 32 + 32 * (r - szTest x r) := by
  simp only [stTest]
  unfold szTest at h ⊢
  obtain ⟨a0, h⟩ := thn_get h
  rw [thn_posK a0]
  have q0 := szStr_le x.fName r h0
  obtain ⟨a1, h⟩ := thn_get h
  rw [thn_posK a1]
  have q1 := szStr_le x.fValue (szStr x.fName r) a0
  simp only [id]
  omega
theorem stStep_cap (x : GStep) (k r : Int) (h0 : 0 ≤ r) (h : 0 ≤ szStep x r) : (stStep x k).2 ≤ k + 32 + 32 * (r - szStep x r) := by
  simp only [stStep]
  unfold szStep at h ⊢
  obtain ⟨a0, h⟩ := thn_get h
  rw [thn_posK a0]
  have q0 := szStr_le x.fName r h0
  obtain ⟨a1, h⟩ := thn_get h
  rw [thn_posK a1]
  have q1 := mkL_cap szTest_le stTest_cap x.fTests (k + 1) (szStr x.fName r) a0 a1
  simp only [id]
  omega
def inPath (x : GPath) (k : Int) : Int := (mkL stStep x.fSteps (k + 1 + 1)).2
theorem inPath_cap (x : GPath) (k r : Int) (h0 : 0 ≤ r) (h : 0 ≤ szPath x r) : inPath x k ≤ k + 2 + 32 * (r - szPath x r) := by
  unfold inPath
  unfold szPath at h ⊢
  obtain ⟨a0, h⟩ := thn_get h
  rw [thn_posK a0]
  have q0 := mkL_cap szStep_le stStep_cap x.fSteps (k + 1 + 1) r h0 a0
  simp only [id]
  omega
def tpPath (x : GPath) (k : Int) : Unit × Int := ((), (mkL stStep x.fSteps k).2)
theorem stExpr_cap (x : GExpr) (k r : Int) (h0 : 0 ≤ r) (h : 0 ≤ szExpr x r) : (stExpr x k).2 ≤ k + 32 + 32 * (r - szExpr x r) := by
  rw [stExpr_eq]; simp only
  rw [szExpr_eq] at h ⊢
  obtain ⟨a0, h⟩ := thn_get h
  rw [thn_posK a0]
  have q0 := szStr_le x.fText r h0
  obtain ⟨a1, h⟩ := thn_get h
  rw [thn_posK a1]
  have q1 := inPath_cap x.fPath (k + 1 + 1 + 1) (szStr x.fText r) a0 a1
  simp only [inPath] at q1
  obtain ⟨a2, h⟩ := thn_get h
  rw [thn_posK a2]
  have q2 := mkL_capm szExpr_le x.fKids (fun y hy => stExpr_cap y) ((mkL stStep x.fPath.fSteps (k + 1 + 1 + 1 + 1 + 1)).2) (szPath x.fPath (szStr x.fText r)) a1 a2
  simp only [id]
  omega
termination_by SizeOf.sizeOf x
decreasing_by have := List.sizeOf_lt_of_mem hy; cases x; simp [GExpr.fKids] at *; omega
theorem stSchema_cap (x : GSchema) (k r : Int) (h0 : 0 ≤ r) (h : 0 ≤ szSchema x r) : (stSchema x k).2 ≤ k + 32 + 32 * (r - szSchema x r) := by
  rw [stSchema_eq]; simp only
  rw [szSchema_eq] at h ⊢
  obtain ⟨a0, h⟩ := thn_get h
  rw [thn_posK a0]
  have q0 := szStr_le x.fName r h0
  obtain ⟨a1, h⟩ := thn_get h
  rw [thn_posK a1]
  have q1 := inType_cap x.fType (k + 1 + 1) (szStr x.fName r) a0 a1
  simp only [inType] at q1
  obtain ⟨a2, h⟩ := thn_get h
  rw [thn_posK a2]
  have q2 := mkL_cap szStr_le stString_cap x.fKeys ((mkL stString x.fType.fNames ((mkL stRange x.fType.fRanges (k + 1 + 1 + 1)).2)).2 + 1 + 1) (szType x.fType (szStr x.fName r)) a1 a2
  obtain ⟨a3, h⟩ := thn_get h
  rw [thn_posK a3]
  have q3 := mkL_cap szStr_le stString_cap x.fUnique ((mkL stString x.fKeys ((mkL stString x.fType.fNames ((mkL stRange x.fType.fRanges (k + 1 + 1 + 1)).2)).2 + 1 + 1)).2) (szSl szStr x.fKeys (szType x.fType (szStr x.fName r))) a2 a3
  obtain ⟨a4, h⟩ := thn_get h
  rw [thn_posK a4]
  have q4 := szStr_le x.fDefault (szSl szStr x.fUnique (szSl szStr x.fKeys (szType x.fType (szStr x.fName r)))) a3
  obtain ⟨a5, h⟩ := thn_get h
  rw [thn_posK a5]
  have q5 := mkL_cap szExpr_le stExpr_cap x.fWhen ((mkL stString x.fUnique ((mkL stString x.fKeys ((mkL stString x.fType.fNames ((mkL stRange x.fType.fRanges (k + 1 + 1 + 1)).2)).2 + 1 + 1)).2)).2 + 1 + 1 + 1 + 1 + 1 + 1 + 1) (szStr x.fDefault (szSl szStr x.fUnique (szSl szStr x.fKeys (szType x.fType (szStr x.fName r))))) a4 a5
  obtain ⟨a6, h⟩ := thn_get h
  rw [thn_posK a6]
  have q6 := mkL_cap szExpr_le stExpr_cap x.fMust ((mkL stExpr x.fWhen ((mkL stString x.fUnique ((mkL stString x.fKeys ((mkL stString x.fType.fNames ((mkL stRange x.fType.fRanges (k + 1 + 1 + 1)).2)).2 + 1 + 1)).2)).2 + 1 + 1 + 1 + 1 + 1 + 1 + 1)).2) (szSl szExpr x.fWhen (szStr x.fDefault (szSl szStr x.fUnique (szSl szStr x.fKeys (szType x.fType (szStr x.fName r)))))) a5 a6
  obtain ⟨a7, h⟩ := thn_get h
  rw [thn_posK a7]
  have q7 := mkL_capm szSchema_le x.fKids (fun y hy => stSchema_cap y) ((mkL stExpr x.fMust ((mkL stExpr x.fWhen ((mkL stString x.fUnique ((mkL stString x.fKeys ((mkL stString x.fType.fNames ((mkL stRange x.fType.fRanges (k + 1 + 1 + 1)).2)).2 + 1 + 1)).2)).2 + 1 + 1 + 1 + 1 + 1 + 1 + 1)).2)).2) (szSl szExpr x.fMust (szSl szExpr x.fWhen (szStr x.fDefault (szSl szStr x.fUnique (szSl szStr x.fKeys (szType x.fType (szStr x.fName r))))))) a6 a7
  simp only [id]
  omega
termination_by SizeOf.sizeOf x
decreasing_by have := List.sizeOf_lt_of_mem hy; cases x; simp [GSchema.fKids] at *; omega
theorem stVersion_cap (x : GVersion) (k r : Int) (h0 : 0 ≤ r) (h : 0 ≤ szVersion x r) : (stVersion x k).2 ≤ k + 32 + 32 * (r - szVersion x r) := by
  simp only [stVersion]
  unfold szVersion at h ⊢
  obtain ⟨a0, h⟩ := thn_get h
  rw [thn_posK a0]
  have q0 := mkL_cap szNode_le stNode_cap x.fTree k r h0 a0
  simp only [id]
  omega
def inPending (x : GPending) (k : Int) : Int := (mkL stNode x.fBack (k + 1 + 1 + 1 + 1)).2
theorem inPending_cap (x : GPending) (k r : Int) (h0 : 0 ≤ r) (h : 0 ≤ szPending x r) : inPending x k ≤ k + 4 + 32 * (r - szPending x r) := by
  unfold inPending
  unfold szPending at h ⊢
  obtain ⟨a0, h⟩ := thn_get h
  rw [thn_posK a0]
  have q0 := szStr_le x.fName r h0
  obtain ⟨a1, h⟩ := thn_get h
  rw [thn_posK a1]
  have q1 := mkL_cap szNode_le stNode_cap x.fBack (k + 1 + 1 + 1 + 1) (szStr x.fName r) a0 a1
  simp only [id]
  omega
def inStore (x : GStore) (k : Int) : Int := (mkL stNode x.fWait.fBack ((mkL stVersion x.fPast ((mkL stNode x.fDraft ((mkL stNode x.fRunning ((mkL stSchema x.fSchema k).2)).2)).2 + 1)).2 + 1 + 1 + 1 + 1)).2
theorem inStore_cap (x : GStore) (k r : Int) (h0 : 0 ≤ r) (h : 0 ≤ szStore x r) : inStore x k ≤ k + 5 + 32 * (r - szStore x r) := by
  unfold inStore
  unfold szStore at h ⊢
  obtain ⟨a0, h⟩ := thn_get h
  rw [thn_posK a0]
  have q0 := mkL_cap szSchema_le stSchema_cap x.fSchema k r h0 a0
  obtain ⟨a1, h⟩ := thn_get h
  rw [thn_posK a1]
  have q1 := mkL_cap szNode_le stNode_cap x.fRunning ((mkL stSchema x.fSchema k).2) (szSl szSchema x.fSchema r) a0 a1
  obtain ⟨a2, h⟩ := thn_get h
  rw [thn_posK a2]
  have q2 := mkL_cap szNode_le stNode_cap x.fDraft ((mkL stNode x.fRunning ((mkL stSchema x.fSchema k).2)).2) (szSl szNode x.fRunning (szSl szSchema x.fSchema r)) a1 a2
  obtain ⟨a3, h⟩ := thn_get h
  rw [thn_posK a3]
  have q3 := mkL_cap szVersion_le stVersion_cap x.fPast ((mkL stNode x.fDraft ((mkL stNode x.fRunning ((mkL stSchema x.fSchema k).2)).2)).2 + 1) (szSl szNode x.fDraft (szSl szNode x.fRunning (szSl szSchema x.fSchema r))) a2 a3
  obtain ⟨a4, h⟩ := thn_get h
  rw [thn_posK a4]
  have q4 := inPending_cap x.fWait ((mkL stVersion x.fPast ((mkL stNode x.fDraft ((mkL stNode x.fRunning ((mkL stSchema x.fSchema k).2)).2)).2 + 1)).2) (szSl szVersion x.fPast (szSl szNode x.fDraft (szSl szNode x.fRunning (szSl szSchema x.fSchema r)))) a3 a4
  simp only [inPending] at q4
  simp only [id]
  omega
theorem stDevice_cap (x : GDevice) (k r : Int) (h0 : 0 ≤ r) (h : 0 ≤ szDevice x r) : (stDevice x k).2 ≤ k + 32 + 32 * (r - szDevice x r) := by
  simp only [stDevice]
  unfold szDevice at h ⊢
  obtain ⟨a0, h⟩ := thn_get h
  rw [thn_posK a0]
  have q0 := szStr_le x.fName r h0
  obtain ⟨a1, h⟩ := thn_get h
  rw [thn_posK a1]
  have q1 := inStore_cap x.fStore (k + 1) (szStr x.fName r) a0 a1
  simp only [inStore] at q1
  obtain ⟨a2, h⟩ := thn_get h
  rw [thn_posK a2]
  have q2 := mkL_cap szNode_le stNode_cap x.fBase ((mkL stNode x.fStore.fWait.fBack ((mkL stVersion x.fStore.fPast ((mkL stNode x.fStore.fDraft ((mkL stNode x.fStore.fRunning ((mkL stSchema x.fStore.fSchema (k + 1)).2)).2)).2 + 1)).2 + 1 + 1 + 1 + 1)).2) (szStore x.fStore (szStr x.fName r)) a1 a2
  simp only [id]
  omega
theorem stTask_cap (x : GTask) (k r : Int) (h0 : 0 ≤ r) (h : 0 ≤ szTask x r) : (stTask x k).2 ≤ k + 32 + 32 * (r - szTask x r) := by
  simp only [stTask]
  unfold szTask at h ⊢
  obtain ⟨a0, h⟩ := thn_get h
  rw [thn_posK a0]
  have q0 := szStr_le x.fDevice r h0
  obtain ⟨a1, h⟩ := thn_get h
  rw [thn_posK a1]
  have q1 := mkL_cap szNode_le stNode_cap x.fTree (k + 1) (szStr x.fDevice r) a0 a1
  simp only [id]
  omega
def inCampaign (x : GCampaign) (k : Int) : Int := (mkL stTask x.fTasks (k + 1)).2
theorem tpCampaign_cap (x : GCampaign) (k r : Int) (h0 : 0 ≤ r) (h : 0 ≤ szCampaign x r) : (tpCampaign x k).2 ≤ k + 32 * (r - szCampaign x r) := by
  simp only [tpCampaign]
  unfold szCampaign at h ⊢
  obtain ⟨a0, h⟩ := thn_get h
  rw [thn_posK a0]
  have q0 := mkL_cap szTask_le stTask_cap x.fTasks k r h0 a0
  simp only [id]
  omega
theorem tpManager_cap (x : GManager) (k r : Int) (h0 : 0 ≤ r) (h : 0 ≤ szManager x r) : (tpManager x k).2 ≤ k + 32 * (r - szManager x r) := by
  simp only [tpManager]
  unfold szManager at h ⊢
  obtain ⟨a0, h⟩ := thn_get h
  rw [thn_posK a0]
  have q0 := tpPlan_cap x.fPlan k r h0 a0
  simp only [tpPlan] at q0
  obtain ⟨a1, h⟩ := thn_get h
  rw [thn_posK a1]
  have q1 := mkL_cap szDevice_le stDevice_cap x.fDevices ((mkL stService x.fPlan.fServices ((mkL stTemplate x.fPlan.fTemplates k).2)).2) (szPlan x.fPlan r) a0 a1
  obtain ⟨a2, h⟩ := thn_get h
  rw [thn_posK a2]
  have q2 := tpCampaign_cap x.fCampaign ((mkL stDevice x.fDevices ((mkL stService x.fPlan.fServices ((mkL stTemplate x.fPlan.fTemplates k).2)).2)).2) (szSl szDevice x.fDevices (szPlan x.fPlan r)) a1 a2
  simp only [tpCampaign] at q2
  obtain ⟨a3, h⟩ := thn_get h
  rw [thn_posK a3]
  have q3 := tpCampaign_cap x.fLast ((mkL stTask x.fCampaign.fTasks ((mkL stDevice x.fDevices ((mkL stService x.fPlan.fServices ((mkL stTemplate x.fPlan.fTemplates k).2)).2)).2)).2) (szCampaign x.fCampaign (szSl szDevice x.fDevices (szPlan x.fPlan r))) a2 a3
  simp only [tpCampaign] at q3
  simp only [id]
  omega
end Go.Dt
