/-
  Part of a proof: McB, McZ, Rs5.
-/
import Derived.Test.YtfglembdjbhanaaGreatDoorG12
import Derived.Test.YtfglembdjbhanaaGreatDoorG17
import Derived.Test.YtfglembdjbhanaaGreatDoorG19
import Derived.Test.YtfglembdjbhanaaGreatDoorG26
set_option linter.unusedSimpArgs false
set_option linter.unusedVariables false
namespace Go.Dt
open Go.Ab
theorem szSl_lenB {α : Type} {f : α → Int → Int} {l : List α} {r : Int} (h : 0 ≤ szSl f l r) : (l.length : Int) ≤ r := by
  rcases Int.lt_or_le (r - l.length) 0 with h4 | h4
  · rw [szSl_neg h4] at h; omega
  · omega
end Go.Dt
namespace Go.Dt
open Go.Ab
theorem thn_posK {a : Int} {k : Int → Int} (h : 0 ≤ a) : thn a k = k a := by unfold thn; rw [if_neg (by omega)]
theorem mkL_capm {α : Type} {f : α → Int → α × Int} {s : α → Int → Int} (hs : ∀ x r, 0 ≤ r → s x r ≤ r) (l : List α) (hf : ∀ x ∈ l, ∀ k r, 0 ≤ r → 0 ≤ s x r → (f x k).2 ≤ k + 32 + 32 * (r - s x r)) (k r : Int) (h0 : 0 ≤ r) (h : 0 ≤ szSl s l r) : (mkL f l k).2 ≤ k + 32 * (r - szSl s l r) := by
  have key : ∀ (l : List α), (∀ x ∈ l, ∀ k r, 0 ≤ r → 0 ≤ s x r → (f x k).2 ≤ k + 32 + 32 * (r - s x r)) → ∀ (k r : Int), 0 ≤ r → 0 ≤ szGo s l r → (mkL f l k).2 ≤ k + 32 * l.length + 32 * (r - szGo s l r) := by
    intro l
    induction l with
    | nil => intro _ k r h0 _; simp [mkL, szGo]
    | cons x xs ih =>
      intro hf k r h0 h
      rw [szGo] at h ⊢
      obtain ⟨a0, h⟩ := thn_get h
      rw [thn_posK a0]
      have h1 := hf x (by simp) k r h0 a0
      have h2 := ih (fun y hy => hf y (by simp [hy])) (f x k).2 (s x r) a0 h
      simp only [mkL, List.length_cons]
      omega
  have h4 := szSl_lenB h
  rw [szSl_pos (by omega)] at h ⊢
  have := key l hf k (r - l.length) (by omega) h
  omega
theorem mkL_cap {α : Type} {f : α → Int → α × Int} {s : α → Int → Int} (hs : ∀ x r, 0 ≤ r → s x r ≤ r) (hf : ∀ x k r, 0 ≤ r → 0 ≤ s x r → (f x k).2 ≤ k + 32 + 32 * (r - s x r)) (l : List α) (k r : Int) (h0 : 0 ≤ r) (h : 0 ≤ szSl s l r) : (mkL f l k).2 ≤ k + 32 * (r - szSl s l r) :=
  mkL_capm hs l (fun x _ => hf x) k r h0 h
theorem stString_cap (x : Str) (k r : Int) (h0 : 0 ≤ r) (h : 0 ≤ szStr x r) : (stString x k).2 ≤ k + 32 + 32 * (r - szStr x r) := by
  have := szStr_le x r h0
  unfold stString; simp only; omega
end Go.Dt
namespace Go.Dt
open Go.Ab
theorem stRange_cap (x : GRange) (k r : Int) (h0 : 0 ≤ r) (h : 0 ≤ szRange x r) : (stRange x k).2 ≤ k + 32 + 32 * (r - szRange x r) := by
  simp only [stRange]
  unfold szRange; omega
def inType (x : GType) (k : Int) : Int := (mkL stString x.fNames ((mkL stRange x.fRanges (k + 1)).2)).2 + 1 + 1
theorem inType_cap (x : GType) (k r : Int) (h0 : 0 ≤ r) (h : 0 ≤ szType x r) : inType x k ≤ k + 3 + 32 * (r - szType x r) := by
  unfold inType
  unfold szType at h ⊢
  obtain ⟨a0, h⟩ := thn_get h
  rw [thn_posK a0]
  have q0 := mkL_cap szRange_le stRange_cap x.fRanges (k + 1) r h0 a0
  obtain ⟨a1, h⟩ := thn_get h
  rw [thn_posK a1]
  have q1 := mkL_cap szStr_le stString_cap x.fNames ((mkL stRange x.fRanges (k + 1)).2) (szSl szRange x.fRanges r) a0 a1
  obtain ⟨a2, h⟩ := thn_get h
  rw [thn_posK a2]
  have q2 := szStr_le x.fPattern (szSl szStr x.fNames (szSl szRange x.fRanges r)) a1
  obtain ⟨a3, h⟩ := thn_get h
  rw [thn_posK a3]
  have q3 := szStr_le x.fPath (szStr x.fPattern (szSl szStr x.fNames (szSl szRange x.fRanges r))) a2
  simp only [id]
  omega
def tpType (x : GType) (k : Int) : Unit × Int := ((), (mkL stString x.fNames ((mkL stRange x.fRanges k).2)).2)
theorem stParam_cap (x : GParam) (k r : Int) (h0 : 0 ≤ r) (h : 0 ≤ szParam x r) : (stParam x k).2 ≤ k + 32 + 32 * (r - szParam x r) := by
  simp only [stParam]
  unfold szParam at h ⊢
  obtain ⟨a0, h⟩ := thn_get h
  rw [thn_posK a0]
  have q0 := szStr_le x.fName r h0
  obtain ⟨a1, h⟩ := thn_get h
  rw [thn_posK a1]
  have q1 := inType_cap x.fType (k + 1) (szStr x.fName r) a0 a1
  simp only [inType] at q1
  simp only [id]
  omega
theorem stNode_cap (x : GNode) (k r : Int) (h0 : 0 ≤ r) (h : 0 ≤ szNode x r) : (stNode x k).2 ≤ k + 32 + 32 * (r - szNode x r) := by
  rw [stNode_eq]; simp only
  rw [szNode_eq] at h ⊢
  obtain ⟨a0, h⟩ := thn_get h
  rw [thn_posK a0]
  have q0 := szStr_le x.fName r h0
  obtain ⟨a1, h⟩ := thn_get h
  rw [thn_posK a1]
  have q1 := szStr_le x.fValue (szStr x.fName r) a0
  obtain ⟨a2, h⟩ := thn_get h
  rw [thn_posK a2]
  have q2 := mkL_capm szNode_le x.fKids (fun y hy => stNode_cap y) (k + 1 + 1) (szStr x.fValue (szStr x.fName r)) a1 a2
  simp only [id]
  omega
termination_by SizeOf.sizeOf x
decreasing_by have := List.sizeOf_lt_of_mem hy; cases x; simp [GNode.fKids] at *; omega
theorem tpTemplate_cap (x : GTemplate) (k r : Int) (h0 : 0 ≤ r) (h : 0 ≤ szTemplate x r) : (tpTemplate x k).2 ≤ k + 32 * (r - szTemplate x r) := by
  simp only [tpTemplate]
  unfold szTemplate at h ⊢
  obtain ⟨a0, h⟩ := thn_get h
  rw [thn_posK a0]
  have q0 := szStr_le x.fName r h0
  obtain ⟨a1, h⟩ := thn_get h
  rw [thn_posK a1]
  have q1 := mkL_cap szParam_le stParam_cap x.fParams k (szStr x.fName r) a0 a1
  obtain ⟨a2, h⟩ := thn_get h
  rw [thn_posK a2]
  have q2 := mkL_cap szNode_le stNode_cap x.fBody ((mkL stParam x.fParams k).2) (szSl szParam x.fParams (szStr x.fName r)) a1 a2
  simp only [id]
  omega
theorem stArg_cap (x : GArg) (k r : Int) (h0 : 0 ≤ r) (h : 0 ≤ szArg x r) : (stArg x k).2 ≤ k + 32 + 32 * (r - szArg x r) := by
  simp only [stArg]
  unfold szArg at h ⊢
  obtain ⟨a0, h⟩ := thn_get h
  rw [thn_posK a0]
  have q0 := szStr_le x.fName r h0
  obtain ⟨a1, h⟩ := thn_get h
  rw [thn_posK a1]
  have q1 := szStr_le x.fValue (szStr x.fName r) a0
  simp only [id]
  omega
end Go.Dt
namespace Go.Dt
open Go.Ab
mutual
theorem stN_fill (a : List GArg) : ∀ (x : GNode) (k : Int), (stNode (fillN a x) k).2 = (stNode x k).2
  | .mk n v ks, k => by simp only [fillN, stNode]; exact stNs_fill a ks _
theorem stNs_fill (a : List GArg) : ∀ (l : List GNode) (k : Int), (stNodes (fillL a l) k).2 = (stNodes l k).2
  | [], k => rfl
  | x :: xs, k => by simp only [fillL, stNodes, stN_fill a x, stNs_fill a xs]
end
theorem stB_fill (a : List GArg) (l : List GNode) (k : Int) : (mkL stNode (l.map (fillN a)) k).2 = (mkL stNode l k).2 := by
  rw [← stNodes_eq, ← stNodes_eq, ← fillL_map, stNs_fill]
section
variable (ip : Str → Bool) (cb : GType → Str → Bool) (cs : GType → Str → Str)
theorem stFt_le (t : GTemplate) (l : List GArg) : (mkL stNode (ftN ip cb cs t l) 1).2 ≤ (mkL stNode t.fBody 1).2 := by
  unfold ftN
  cases ftOk ip cb t l with
  | true => simp only [cond_true, stB_fill]; omega
  | false =>
    have := mkL_up stNode_ge t.fBody 1
    simp only [cond_false]
    have e : (mkL stNode [] 1).2 = 1 := rfl
    omega
theorem stFt_cap (t : GTemplate) (l : List GArg) (r : Int) (h0 : 0 ≤ r) (h : 0 ≤ szTemplate t r) : (mkL stNode (ftN ip cb cs t l) 1).2 ≤ 1 + 32 * r := by
  have q := stFt_le ip cb cs t l
  unfold szTemplate at h
  obtain ⟨a0, h⟩ := thn_get h
  have q0 := szStr_le t.fName r h0
  obtain ⟨a1, h⟩ := thn_get h
  have q1 := szSl_le szParam szParam_le t.fParams _ a0
  obtain ⟨a2, h⟩ := thn_get h
  have q2 := mkL_cap szNode_le stNode_cap t.fBody 1 _ a1 a2
  omega
end
@[go_sem] theorem ndC_cl (l : List GNode) : AV.closedL (l.map (encNode true)) = true := clL l fun x _ => ndC x
theorem fitArgs {l : List GArg} {r : Int} (h0 : 0 ≤ r) (h1 : r ≤ 1048576) (h : 0 ≤ szSl szArg l r) : ArgsOk l ∧ l.length ≤ 1048576 := by
  have hl := szSl_lenB h
  refine ⟨?_, by omega⟩
  rcases Int.lt_or_le (r - l.length) 0 with h2 | h2
  · rw [szSl_neg h2] at h; omega
  rw [szSl_pos h2] at h
  have key : ∀ (l : List GArg) (q : Int), 0 ≤ q → q ≤ 1048576 → 0 ≤ szGo szArg l q → ArgsOk l := by
    intro l
    induction l with
    | nil => intro _ _ _ _ a ha; cases ha
    | cons x xs ih =>
      intro q h0 h1 h a ha
      rw [szGo, thn] at h
      split at h
      · omega
      · have hle := szArg_le x q h0
        rcases List.mem_cons.1 ha with rfl | ha
        · rename_i hx
          simp only [szArg, thn, szStr, id] at hx
          (repeat' split at hx) <;> omega
        · exact ih _ (by omega) (by omega) h a ha
  exact key l _ h2 (by omega) h
end Go.Dt
