/-
  Part of a proof: Ml0, Mm0, Mm1, Mc0, Mc1, Rs2, Rs3.
-/
import Derived.Test.YtkdchlggdcmkbaaGreatG5
import Derived.Test.YtkdchlggdcmkbaaGreatG8
import Derived.Test.YtkdchlggdcmkbaaGreatG12
import Derived.Test.YtkdchlggdcmkbaaGreatG13
set_option linter.unusedSimpArgs false
set_option linter.unusedVariables false
namespace Go.Dt
open Go.Ab
def mkL {α : Type} (f : α → Int → α × Int) : List α → Int → List α × Int
  | [], k => ([], k)
  | x :: xs, k => ((f x k).1 :: (mkL f xs (f x k).2).1, (mkL f xs (f x k).2).2)
section
variable {α : Type} {f : α → Int → α × Int}
theorem mkL_len : ∀ (l : List α) (k : Int), (mkL f l k).1.length = l.length
  | [], _ => rfl
  | x :: xs, k => by simp only [mkL, List.length_cons, mkL_len xs]
theorem mkL_app : ∀ (l m : List α) (k : Int), mkL f (l ++ m) k = ((mkL f l k).1 ++ (mkL f m (mkL f l k).2).1, (mkL f m (mkL f l k).2).2)
  | [], _, _ => rfl
  | x :: xs, m, k => by simp only [List.cons_append, mkL, mkL_app xs m]
theorem mkL_mono (h : ∀ x k, k ≤ (f x k).2) : ∀ (l : List α) (k : Int), k ≤ (mkL f l k).2
  | [], k => Int.le_refl k
  | x :: xs, k => Int.le_trans (h x k) (mkL_mono h xs _)
def mkc (f : α → Int → α × Int) (l : List α) (k : Int) (i : Nat) : Int := (mkL f (l.take i) k).2
def mkp (f : α → Int → α × Int) (l : List α) (k : Int) (i : Nat) : List α := (mkL f (l.take i) k).1 ++ l.drop i
theorem mkp_zero (l : List α) (k : Int) : mkp f l k 0 = l := by simp [mkp, mkL]
theorem mkc_end {l : List α} {k : Int} {i : Nat} (h : ¬ i < l.length) : mkc f l k i = (mkL f l k).2 := by rw [mkc, List.take_of_length_le (by omega)]
theorem mkp_end {l : List α} {k : Int} {i : Nat} (h : ¬ i < l.length) : mkp f l k i = (mkL f l k).1 := by rw [mkp, List.take_of_length_le (by omega), List.drop_of_length_le (by omega), List.append_nil]
variable [Inhabited α]
theorem take_atM {l : List α} {i : Nat} (h : i < l.length) : l.take (i + 1) = l.take i ++ [at_ l i] := by
  rw [List.take_succ_eq_append_getElem h]; unfold at_; rw [List.getElem?_eq_getElem h]; rfl
theorem mkc_step {l : List α} {k : Int} {i : Nat} (h : i < l.length) : mkc f l k (i + 1) = (f (at_ l i) (mkc f l k i)).2 := by
  rw [mkc, take_atM h, mkL_app]; rfl
omit [Inhabited α] in
theorem mkc_le (hm : ∀ x k, k ≤ (f x k).2) (l : List α) (k : Int) (i : Nat) : mkc f l k i ≤ (mkL f l k).2 := by
  have : mkL f l k = mkL f (l.take i ++ l.drop i) k := by rw [List.take_append_drop]
  rw [this, mkL_app]; exact mkL_mono hm _ _
omit [Inhabited α] in
theorem mkc_ge (hm : ∀ x k, k ≤ (f x k).2) (l : List α) (k : Int) (i : Nat) : k ≤ mkc f l k i := mkL_mono hm _ _
theorem mkp_at {l : List α} {k : Int} {i : Nat} (h : i < l.length) : mkp f l k i = (mkL f (l.take i) k).1 ++ (at_ l i :: l.drop (i + 1)) := by rw [mkp, at_drop h]
theorem mkp_step {l : List α} {k : Int} {i : Nat} (h : i < l.length) : mkp f l k (i + 1) = (mkL f (l.take i) k).1 ++ ((f (at_ l i) (mkc f l k i)).1 :: l.drop (i + 1)) := by
  rw [mkp, take_atM h, mkL_app]; simp [mkL, mkc]
theorem mkL_at {l : List α} {k : Int} {i : Nat} (h : i < l.length) : at_ (mkL f l k).1 i = (f (at_ l i) (mkc f l k i)).1 := by
  have : mkL f l k = mkL f (l.take (i + 1) ++ l.drop (i + 1)) k := by rw [List.take_append_drop]
  rw [this, mkL_app]
  show at_ ((mkL f (l.take (i + 1)) k).1 ++ _) i = _
  rw [take_atM h, mkL_app]
  unfold at_
  rw [List.append_assoc, List.getElem?_append_right (by rw [mkL_len, List.length_take]; omega)]
  have e : i - (mkL f (l.take i) k).1.length = 0 := by rw [mkL_len, List.length_take]; omega
  rw [e]; rfl
omit [Inhabited α] in
theorem fm_len {e : α → AV} {sz : Nat} (he : ∀ x, (e x).cells.length = sz) : ∀ m : List α, ((m.map e).flatMap AV.cells).length = m.length * sz := by
  intro m
  induction m with
  | nil => simp
  | cons x xs ih => rw [List.map_cons, List.flatMap_cons, List.length_append, he, ih, List.length_cons, Nat.succ_mul, Nat.add_comm]
def mkb (e : α → AV) (f : α → Int → α × Int) (l : List α) (k : Int) (i : Nat) : List AV := ((mkL f (l.take i) k).1.map e).flatMap AV.cells
omit [Inhabited α] in
theorem mkb_len {e : α → AV} {sz : Nat} (he : ∀ x, (e x).cells.length = sz) {l : List α} {k : Int} {i : Nat} (h : i ≤ l.length) : (mkb e f l k i).length = i * sz := by
  rw [mkb, fm_len he, mkL_len, List.length_take, Nat.min_eq_left h]
theorem mkd_at {e : α → AV} {l : List α} {k : Int} {i : Nat} (h : i < l.length) : ((mkp f l k i).map e).flatMap AV.cells = mkb e f l k i ++ ((e (at_ l i)).cells ++ ((l.drop (i + 1)).map e).flatMap AV.cells) := by
  rw [mkp_at h]; simp [mkb]
theorem mkd_next {e : α → AV} {l : List α} {k : Int} {i : Nat} (h : i < l.length) : ((mkp f l k (i + 1)).map e).flatMap AV.cells = mkb e f l k i ++ ((e (f (at_ l i) (mkc f l k i)).1).cells ++ ((l.drop (i + 1)).map e).flatMap AV.cells) := by
  rw [mkp_step h]; simp [mkb]
end
theorem tk_j {p e : List AV} {n j : Nat} (h : p.length = n) : (p ++ e).take (n + j) = p ++ e.take j := by subst h; rw [List.take_length_add_append]
theorem dp_j {p e : List AV} {n j : Nat} (h : p.length = n) : (p ++ e).drop (n + j) = e.drop j := by subst h; rw [List.drop_length_add_append]
theorem dp_jj {p e : List AV} {n j m : Nat} (h : p.length = n) : (p ++ e).drop (n + j + m) = e.drop (j + m) := by rw [Nat.add_assoc]; exact dp_j h
theorem dp_jjj {p e : List AV} {n j m q : Nat} (h : p.length = n) : (p ++ e).drop (n + j + m + q) = e.drop (j + m + q) := by rw [Nat.add_assoc n j m, Nat.add_assoc n]; exact dp_j h
theorem dp_j4 {p e : List AV} {n j m q r : Nat} (h : p.length = n) : (p ++ e).drop (n + j + m + q + r) = e.drop (j + m + q + r) := by rw [Nat.add_assoc n j m, Nat.add_assoc n, Nat.add_assoc n]; exact dp_j h
theorem tk_jj {p e : List AV} {n j m : Nat} (h : p.length = n) : (p ++ e).take (n + j + m) = p ++ e.take (j + m) := by rw [Nat.add_assoc]; exact tk_j h
theorem tk_jjj {p e : List AV} {n j m q : Nat} (h : p.length = n) : (p ++ e).take (n + j + m + q) = p ++ e.take (j + m + q) := by rw [Nat.add_assoc n j m, Nat.add_assoc n]; exact tk_j h
attribute [go_sem] tk_jj tk_jjj dp_jjj dp_j4 tk_j dp_j dp_jj List.append_assoc List.append_nil List.take_succ_cons List.drop_succ_cons List.take_zero List.drop_zero
end Go.Dt
namespace Go.Dt
open Go.Ab
def stString (x : Str) (k : Int) : Str × Int := (mkT k, k + 1)
theorem stString_ge (x : Str) (k : Int) : k + 1 ≤ (stString x k).2 := by unfold stString; omega
theorem mkL_up {α : Type} {f : α → Int → α × Int} (h : ∀ x k, k + 1 ≤ (f x k).2) : ∀ (l : List α) (k : Int), k + l.length ≤ (mkL f l k).2
  | [], k => by simp [mkL]
  | x :: xs, k => by have h1 := h x k; have h2 := mkL_up h xs (f x k).2; simp only [mkL, List.length_cons]; omega
theorem up_ge {α : Type} {f : α → Int → α × Int} (h : ∀ x k, k + 1 ≤ (f x k).2) (x : α) (k : Int) : k ≤ (f x k).2 := by have := h x k; omega
end Go.Dt
namespace Go.Dt
open Go.Ab
def stRange (x : GRange) (k : Int) : GRange × Int := (⟨k, k + 1⟩, k + 1 + 1)
theorem stRange_ge (x : GRange) (k : Int) : k + 1 ≤ (stRange x k).2 := by
  unfold stRange; simp only; omega
def stParam (x : GParam) (k : Int) : GParam × Int := (⟨mkT k, ⟨k + 1, (mkL stRange x.fType.fRanges (k + 1 + 1)).1, (mkL stString x.fType.fNames ((mkL stRange x.fType.fRanges (k + 1 + 1)).2)).1, mkT ((mkL stString x.fType.fNames ((mkL stRange x.fType.fRanges (k + 1 + 1)).2)).2), mkT ((mkL stString x.fType.fNames ((mkL stRange x.fType.fRanges (k + 1 + 1)).2)).2 + 1)⟩⟩, (mkL stString x.fType.fNames ((mkL stRange x.fType.fRanges (k + 1 + 1)).2)).2 + 1 + 1)
theorem stParam_ge (x : GParam) (k : Int) : k + 1 ≤ (stParam x k).2 := by
  have g0 := mkL_up stRange_ge x.fType.fRanges (k + 1 + 1)
  have g1 := mkL_up stString_ge x.fType.fNames ((mkL stRange x.fType.fRanges (k + 1 + 1)).2)
  unfold stParam; simp only; omega
mutual
def stNode : GNode → Int → GNode × Int
  | .mk fName fValue fKids, k => (.mk (mkT k) (mkT (k + 1)) ((stNodes fKids (k + 1 + 1)).1), (stNodes fKids (k + 1 + 1)).2)
def stNodes : List GNode → Int → List GNode × Int
  | [], k => ([], k)
  | x :: xs, k => ((stNode x k).1 :: (stNodes xs (stNode x k).2).1, (stNodes xs (stNode x k).2).2)
end
theorem stNodes_eq : ∀ (l : List GNode) (k : Int), stNodes l k = mkL stNode l k
  | [], k => by simp [stNodes, mkL]
  | x :: xs, k => by simp [stNodes, mkL, stNodes_eq xs]
theorem stNode_eq (x : GNode) (k : Int) : stNode x k = (.mk (mkT k) (mkT (k + 1)) ((mkL stNode x.fKids (k + 1 + 1)).1), (mkL stNode x.fKids (k + 1 + 1)).2) := by
  cases x; simp only [stNode, stNodes_eq]; rfl
mutual
theorem stNode_ge : ∀ (x : GNode) (k : Int), k + 1 ≤ (stNode x k).2
  | .mk fName fValue fKids, k => by
    have g0 := stNodes_ge fKids (k + 1 + 1)
    simp only [stNode]; omega
theorem stNodes_ge : ∀ (l : List GNode) (k : Int), k + l.length ≤ (stNodes l k).2
  | [], k => by simp [stNodes]
  | x :: xs, k => by have h1 := stNode_ge x k; have h2 := stNodes_ge xs (stNode x k).2; simp only [stNodes, List.length_cons]; omega
end
def stTemplate (x : GTemplate) (k : Int) : GTemplate × Int := (⟨mkT k, (mkL stParam x.fParams (k + 1)).1, (mkL stNode x.fBody ((mkL stParam x.fParams (k + 1)).2)).1⟩, (mkL stNode x.fBody ((mkL stParam x.fParams (k + 1)).2)).2)
theorem stTemplate_ge (x : GTemplate) (k : Int) : k + 1 ≤ (stTemplate x k).2 := by
  have g0 := mkL_up stParam_ge x.fParams (k + 1)
  have g1 := mkL_up stNode_ge x.fBody ((mkL stParam x.fParams (k + 1)).2)
  unfold stTemplate; simp only; omega
def stArg (x : GArg) (k : Int) : GArg × Int := (⟨mkT k, mkT (k + 1)⟩, k + 1 + 1)
theorem stArg_ge (x : GArg) (k : Int) : k + 1 ≤ (stArg x k).2 := by
  unfold stArg; simp only; omega
def stService (x : GService) (k : Int) : GService × Int := (⟨mkT k, mkT (k + 1), (mkL stArg x.fArgs (k + 1 + 1)).1, (mkL stString x.fTargets ((mkL stArg x.fArgs (k + 1 + 1)).2)).1⟩, (mkL stString x.fTargets ((mkL stArg x.fArgs (k + 1 + 1)).2)).2)
theorem stService_ge (x : GService) (k : Int) : k + 1 ≤ (stService x k).2 := by
  have g0 := mkL_up stArg_ge x.fArgs (k + 1 + 1)
  have g1 := mkL_up stString_ge x.fTargets ((mkL stArg x.fArgs (k + 1 + 1)).2)
  unfold stService; simp only; omega
def tpPlan (x : GPlan) (k : Int) : GPlan × Int := (⟨(mkL stTemplate x.fTemplates k).1, (mkL stService x.fServices ((mkL stTemplate x.fTemplates k).2)).1⟩, (mkL stService x.fServices ((mkL stTemplate x.fTemplates k).2)).2)
theorem tpPlan_ge (x : GPlan) (k : Int) : k ≤ (tpPlan x k).2 := by
  have g0 := mkL_up stTemplate_ge x.fTemplates k
  have g1 := mkL_up stService_ge x.fServices ((mkL stTemplate x.fTemplates k).2)
  unfold tpPlan; simp only; omega
end Go.Dt
namespace Go.Dt
open Go.Ab
theorem thn_posK {a : Int} {k : Int → Int} (h : 0 ≤ a) : thn a k = k a := by unfold thn; rw [if_neg (by omega)]
theorem mkL_capm {α : Type} {f : α → Int → α × Int} {s : α → Int → Int} (hs : ∀ x r, 0 ≤ r → s x r ≤ r) (l : List α) (hf : ∀ x ∈ l, ∀ k r, 0 ≤ r → 0 ≤ s x r → (f x k).2 ≤ k + 32 + 32 * (r - s x r)) (k r : Int) (h0 : 0 ≤ r) (h : 0 ≤ szSl s l r) : (mkL f l k).2 ≤ k + 32 * (r - szSl s l r) := by
  have key : ∀ (l : List α), (∀ x ∈ l, ∀ k r, 0 ≤ r → 0 ≤ s x r → (f x k).2 ≤ k + 32 + 32 * (r - s x r)) → ∀ (k r : Int), 0 ≤ r → 0 ≤ szGo s l r → (mkL f l k).2 ≤ k + 32 * l.length + 32 * (r - szGo s l r) := by
    intro l
    induction l with
    | nil => intro _ k r h0 _; simp [mkL, szGo]
    | cons x xs ih =>
      intro hf k r h0 h
      rw [szGo] at h ⊢
      obtain ⟨a0, h⟩ := thn_get h
      rw [thn_posK a0]
      have h1 := hf x (by simp) k r h0 a0
      have h2 := ih (fun y hy => hf y (by simp [hy])) (f x k).2 (s x r) a0 h
      simp only [mkL, List.length_cons]
      omega
  have h4 := szSl_lenle h
  rw [szSl_pos (by omega)] at h ⊢
  have := key l hf k (r - l.length) (by omega) h
  omega
theorem mkL_cap {α : Type} {f : α → Int → α × Int} {s : α → Int → Int} (hs : ∀ x r, 0 ≤ r → s x r ≤ r) (hf : ∀ x k r, 0 ≤ r → 0 ≤ s x r → (f x k).2 ≤ k + 32 + 32 * (r - s x r)) (l : List α) (k r : Int) (h0 : 0 ≤ r) (h : 0 ≤ szSl s l r) : (mkL f l k).2 ≤ k + 32 * (r - szSl s l r) :=
  mkL_capm hs l (fun x _ => hf x) k r h0 h
theorem stString_cap (x : Str) (k r : Int) (h0 : 0 ≤ r) (h : 0 ≤ szStr x r) : (stString x k).2 ≤ k + 32 + 32 * (r - szStr x r) := by
  have := szStr_le x r h0
  unfold stString; simp only; omega
end Go.Dt
namespace Go.Dt
open Go.Ab
theorem stRange_cap (x : GRange) (k r : Int) (h0 : 0 ≤ r) (h : 0 ≤ szRange x r) : (stRange x k).2 ≤ k + 32 + 32 * (r - szRange x r) := by
  simp only [stRange]
  unfold szRange; omega
def inType (x : GType) (k : Int) : Int := (mkL stString x.fNames ((mkL stRange x.fRanges (k + 1)).2)).2 + 1 + 1
theorem inType_cap (x : GType) (k r : Int) (h0 : 0 ≤ r) (h : 0 ≤ szType x r) : inType x k ≤ k + 3 + 32 * (r - szType x r) := by
  unfold inType
  unfold szType at h ⊢
  obtain ⟨a0, h⟩ := thn_get h
  rw [thn_posK a0]
  have q0 := mkL_cap szRange_le stRange_cap x.fRanges (k + 1) r h0 a0
  obtain ⟨a1, h⟩ := thn_get h
  rw [thn_posK a1]
  have q1 := mkL_cap szStr_le stString_cap x.fNames ((mkL stRange x.fRanges (k + 1)).2) (szSl szRange x.fRanges r) a0 a1
  obtain ⟨a2, h⟩ := thn_get h
  rw [thn_posK a2]
  have q2 := szStr_le x.fPattern (szSl szStr x.fNames (szSl szRange x.fRanges r)) a1
  obtain ⟨a3, h⟩ := thn_get h
  rw [thn_posK a3]
  have q3 := szStr_le x.fPath (szStr x.fPattern (szSl szStr x.fNames (szSl szRange x.fRanges r))) a2
  simp only [id]
  omega
def tpType (x : GType) (k : Int) : Unit × Int := ((), (mkL stString x.fNames ((mkL stRange x.fRanges k).2)).2)
theorem stParam_cap (x : GParam) (k r : Int) (h0 : 0 ≤ r) (h : 0 ≤ szParam x r) : (stParam x k).2 ≤ k + 32 + 32 * (r - szParam x r) := by
  simp only [stParam]
  unfold szParam at h ⊢
  obtain ⟨a0, h⟩ := thn_get h
  rw [thn_posK a0]
  have q0 := szStr_le x.fName r h0
  obtain ⟨a1, h⟩ := thn_get h
  rw [thn_posK a1]
  have q1 := inType_cap x.fType (k + 1) (szStr x.fName r) a0 a1
  simp only [inType] at q1
  simp only [id]
  omega
theorem stNode_cap (x : GNode) (k r : Int) (h0 : 0 ≤ r) (h : 0 ≤ szNode x r) : (stNode x k).2 ≤ k + 32 + 32 * (r - szNode x r) := by
  rw [stNode_eq]; simp only
  rw [szNode_eq] at h ⊢
  obtain ⟨a0, h⟩ := thn_get h
  rw [thn_posK a0]
  have q0 := szStr_le x.fName r h0
  obtain ⟨a1, h⟩ := thn_get h
  rw [thn_posK a1]
  have q1 := szStr_le x.fValue (szStr x.fName r) a0
  obtain ⟨a2, h⟩ := thn_get h
  rw [thn_posK a2]
  have q2 := mkL_capm szNode_le x.fKids (fun y hy => stNode_cap y) (k + 1 + 1) (szStr x.fValue (szStr x.fName r)) a1 a2
  simp only [id]
  omega
termination_by SizeOf.sizeOf x
decreasing_by have := List.sizeOf_lt_of_mem hy; cases x; simp [GNode.fKids] at *; omega
theorem stTemplate_cap (x : GTemplate) (k r : Int) (h0 : 0 ≤ r) (h : 0 ≤ szTemplate x r) : (stTemplate x k).2 ≤ k + 32 + 32 * (r - szTemplate x r) := by
  simp only [stTemplate]
  unfold szTemplate at h ⊢
  obtain ⟨a0, h⟩ := thn_get h
  rw [thn_posK a0]
  have q0 := szStr_le x.fName r h0
  obtain ⟨a1, h⟩ := thn_get h
  rw [thn_posK a1]
  have q1 := mkL_cap szParam_le stParam_cap x.fParams (k + 1) (szStr x.fName r) a0 a1
  obtain ⟨a2, h⟩ := thn_get h
  rw [thn_posK a2]
  have q2 := mkL_cap szNode_le stNode_cap x.fBody ((mkL stParam x.fParams (k + 1)).2) (szSl szParam x.fParams (szStr x.fName r)) a1 a2
  simp only [id]
  omega
theorem stArg_cap (x : GArg) (k r : Int) (h0 : 0 ≤ r) (h : 0 ≤ szArg x r) : (stArg x k).2 ≤ k + 32 + 32 * (r - szArg x r) := by
  simp only [stArg]
  unfold szArg at h ⊢
  obtain ⟨a0, h⟩ := thn_get h
  rw [thn_posK a0]
  have q0 := szStr_le x.fName r h0
  obtain ⟨a1, h⟩ := thn_get h
  rw [thn_posK a1]
  have q1 := szStr_le x.fValue (szStr x.fName r) a0
  simp only [id]
  omega
theorem stService_cap (x : GService) (k r : Int) (h0 : 0 ≤ r) (h : 0 ≤ szService x r) : (stService x k).2 ≤ k + 32 + 32 * (r - szService x r) := by
  simp only [stService]
  unfold szService at h ⊢
  obtain ⟨a0, h⟩ := thn_get h
  rw [thn_posK a0]
  have q0 := szStr_le x.fName r h0
  obtain ⟨a1, h⟩ := thn_get h
  rw [thn_posK a1]
  have q1 := szStr_le x.fTemplate (szStr x.fName r) a0
  obtain ⟨a2, h⟩ := thn_get h
  rw [thn_posK a2]
  have q2 := mkL_cap szArg_le stArg_cap x.fArgs (k + 1 + 1) (szStr x.fTemplate (szStr x.fName r)) a1 a2
  obtain ⟨a3, h⟩ := thn_get h
  rw [thn_posK a3]
  have q3 := mkL_cap szStr_le stString_cap x.fTargets ((mkL stArg x.fArgs (k + 1 + 1)).2) (szSl szArg x.fArgs (szStr x.fTemplate (szStr x.fName r))) a2 a3
  simp only [id]
  omega
theorem tpPlan_cap (x : GPlan) (k r : Int) (h0 : 0 ≤ r) (h : 0 ≤ szPlan x r) : (tpPlan x k).2 ≤ k + 32 * (r - szPlan x r) := by
  simp only [tpPlan]
  unfold szPlan at h ⊢
  obtain ⟨a0, h⟩ := thn_get h
  rw [thn_posK a0]
  have q0 := mkL_cap szTemplate_le stTemplate_cap x.fTemplates k r h0 a0
  obtain ⟨a1, h⟩ := thn_get h
  rw [thn_posK a1]
  have q1 := mkL_cap szService_le stService_cap x.fServices ((mkL stTemplate x.fTemplates k).2) (szSl szTemplate x.fTemplates r) a0 a1
  simp only [id]
  omega
end Go.Dt
namespace Go.Dt
open Go.Ab
theorem mkL_capG {α : Type} {f : α → Int → α × Int} {s : α → Int → Int} (hf : ∀ x k r, 0 ≤ r → 0 ≤ s x r → (f x k).2 ≤ k + 32 + 32 * (r - s x r)) : ∀ (l : List α) (k r : Int), 0 ≤ r → 0 ≤ szGo s l r → (mkL f l k).2 ≤ k + 32 * l.length + 32 * (r - szGo s l r)
  | [], k, r, _, _ => by simp [mkL, szGo]
  | x :: xs, k, r, h0, h => by
    rw [szGo] at h ⊢
    obtain ⟨a0, h⟩ := thn_get h
    rw [thn_posK a0]
    have h1 := hf x k r h0 a0
    have h2 := mkL_capG hf xs (f x k).2 (s x r) a0 h
    simp only [mkL, List.length_cons]
    omega
theorem mkL_app2 {α : Type} {f : α → Int → α × Int} : ∀ (a b : List α) (k : Int), (mkL f (a ++ b) k).2 = (mkL f b (mkL f a k).2).2
  | [], b, k => rfl
  | x :: a, b, k => by simp only [List.cons_append, mkL, mkL_app2 a b]
theorem szGo_app {α : Type} {s : α → Int → Int} : ∀ (a b : List α) (r : Int), 0 ≤ r → 0 ≤ szGo s (a ++ b) r → 0 ≤ szGo s a r ∧ szGo s (a ++ b) r = szGo s b (szGo s a r)
  | [], b, r, h0, h => ⟨h0, rfl⟩
  | x :: a, b, r, h0, h => by
    rw [List.cons_append, szGo] at h ⊢
    rw [szGo]
    obtain ⟨a0, h⟩ := thn_get h
    rw [thn_posK a0, thn_posK a0]
    exact szGo_app a b (s x r) a0 h
theorem part_cap {α : Type} {f : α → Int → α × Int} {s : α → Int → Int} (hs : ∀ x r, 0 ≤ r → s x r ≤ r) (hf : ∀ x k r, 0 ≤ r → 0 ≤ s x r → (f x k).2 ≤ k + 32 + 32 * (r - s x r)) (a c b : List α) (r : Int) (h0 : 0 ≤ r) (h : 0 ≤ szSl s (a ++ (c ++ b)) r) :
    ∃ u v : Int, (∀ k, (mkL f a k).2 ≤ k + u) ∧ (∀ k, (mkL f b k).2 ≤ k + v) ∧ u + v ≤ 32 * r := by
  have hl := szSl_lenle h
  rw [szSl_pos (by omega)] at h
  have hr : 0 ≤ r - (a ++ (c ++ b)).length := by omega
  obtain ⟨h1, e1⟩ := szGo_app a (c ++ b) _ hr h
  rw [e1] at h
  obtain ⟨h2, e2⟩ := szGo_app c b _ h1 h
  rw [e2] at h
  have h3 := szGo_le s hs c _ h1
  refine ⟨32 * a.length + 32 * (r - (a ++ (c ++ b)).length - szGo s a (r - (a ++ (c ++ b)).length)), 32 * b.length + 32 * (szGo s c (szGo s a (r - (a ++ (c ++ b)).length)) - szGo s b (szGo s c (szGo s a (r - (a ++ (c ++ b)).length)))), fun k => ?_, fun k => ?_, ?_⟩
  · have := mkL_capG hf a k _ hr h1; omega
  · have := mkL_capG hf b k _ h2 h; omega
  · simp only [List.length_append] at *
    omega
end Go.Dt
namespace Go.Dt
open Go.Ab
theorem add_cap {ip : Str → Bool} {x : GPlan} {y : GService} {r r' k : Int} (h0 : 0 ≤ r) (h : 0 ≤ szPlan x r) (h1 : 0 ≤ r') (h2 : 0 ≤ szService y r') : (mkL stService (addP ip x y).fServices (mkL stTemplate (addP ip x y).fTemplates k).2).2 ≤ k + 64 * r + 32 + 32 * r' := by
  unfold szPlan at h
  obtain ⟨a0, h⟩ := thn_get h
  obtain ⟨a1, _⟩ := thn_get h
  have q1 := mkL_cap szTemplate_le stTemplate_cap x.fTemplates k r h0 a0
  have q2 := szSl_le szTemplate szTemplate_le x.fTemplates r h0
  unfold addP
  cases addB ip x y with
  | false =>
    simp only [cond_false]
    have := mkL_cap szService_le stService_cap x.fServices (mkL stTemplate x.fTemplates k).2 _ a0 a1
    omega
  | true =>
    simp only [cond_true, addS]
    have e : x.fServices = x.fServices.take (addK x.fServices y) ++ ([] ++ x.fServices.drop (addK x.fServices y)) := by rw [List.nil_append, List.take_append_drop]
    rw [e] at a1
    obtain ⟨u, v, p1, p2, p3⟩ := part_cap szService_le stService_cap _ _ _ _ a0 a1
    rw [mkL_app2]
    simp only [mkL]
    have s1 := p1 (mkL stTemplate x.fTemplates k).2
    have s2 := stService_cap y (mkL stService (x.fServices.take (addK x.fServices y)) (mkL stTemplate x.fTemplates k).2).2 r' h1 h2
    have s3 := p2 (stService y (mkL stService (x.fServices.take (addK x.fServices y)) (mkL stTemplate x.fTemplates k).2).2).2
    omega
theorem plan_len {x : GPlan} (h : ¬ szPlan x 1048576 < 0) : x.fServices.length ≤ 1048576 := by
  have h := Int.not_lt.1 h
  unfold szPlan at h
  obtain ⟨a0, h⟩ := thn_get h
  obtain ⟨a1, _⟩ := thn_get h
  have h1 := szSl_lenle a1
  have h2 := szSl_le szTemplate szTemplate_le x.fTemplates 1048576 (by omega)
  omega
end Go.Dt
