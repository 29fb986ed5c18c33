/-
  Part of a proof: Dat2.
-/
import Derived.Test.YtfglembdjbhanaaGreatDoorG1
set_option linter.unusedSimpArgs false
set_option linter.unusedVariables false
namespace Go.Dt
open Go.Ab

abbrev Str := List UInt8
theorem frzL_map {α : Type} (f g : α → AV) (h : ∀ x, (f x).frz = g x) (l : List α) : AV.frzL (l.map f) = l.map g := by
  rw [AV.frzL_eq, List.map_map]; apply List.map_congr_left; intro x _; exact h x
theorem frzL_str (l : List Str) : AV.frzL (l.map AV.str) = l.map AV.str := frzL_map _ _ (fun _ => rfl) l
/-! sizes -/
def thn (a : Int) (k : Int → Int) : Int := if a < 0 then -1 else k a
def szStr (s : Str) (left : Int) : Int := left - s.length
def szGo {α : Type} (f : α → Int → Int) : List α → Int → Int
  | [], r => r
  | x :: xs, r => thn (f x r) (szGo f xs)
def szSl {α : Type} (f : α → Int → Int) (l : List α) (left : Int) : Int := thn (left - l.length) (szGo f l)

theorem thn_le {a b : Int} {k : Int → Int} (h : ∀ x, 0 ≤ x → k x ≤ x) (hb : a ≤ b) (h0 : 0 ≤ b) : thn a k ≤ b := by
  unfold thn; split
  · omega
  · have := h a (by omega); omega

theorem szStr_le (s : Str) (r : Int) (_h : 0 ≤ r) : szStr s r ≤ r := by unfold szStr; omega

structure GRange where
  fLo : Int
  fHi : Int
instance : Inhabited GRange := ⟨⟨0, 0⟩⟩

@[go_sem] def encRange (o : Bool) (x : GRange) : AV := .agg [.v (.int .i64 x.fLo), .v (.int .i64 x.fHi)]
theorem encRange_frz (x : GRange) : (encRange true x).frz = encRange false x := by
  simp only [encRange, AV.frz, AV.frzL, cond_true]
theorem encRangeM_frz (l : List GRange) : AV.frzL (l.map (encRange true)) = l.map (encRange false) := frzL_map _ _ encRange_frz l
def szRange (x : GRange) (left : Int) : Int := left
structure GType where
  fKind : Int
  fRanges : List GRange
  fNames : List Str
  fPattern : Str
  fPath : Str
instance : Inhabited GType := ⟨⟨0, [], [], [], []⟩⟩

@[go_sem] def encType (o : Bool) (x : GType) : AV := .agg [.v (.int .i64 x.fKind), .sl o 2 (x.fRanges.map (encRange o)), .sl o 1 (x.fNames.map AV.str), .str x.fPattern, .str x.fPath]
def szType (x : GType) (left : Int) : Int := thn (szSl szRange x.fRanges left) (fun a0 => thn (szSl szStr x.fNames a0) (fun a1 => thn (szStr x.fPattern a1) (fun a2 => thn (szStr x.fPath a2) (id))))
inductive GNode where
  | mk (fName : Str) (fValue : Str) (fKids : List GNode)
instance : Inhabited GNode := ⟨.mk [] [] []⟩

def GNode.fName : GNode → Str | .mk a _ _ => a
def GNode.fValue : GNode → Str | .mk _ a _ => a
def GNode.fKids : GNode → List GNode | .mk _ _ a => a
mutual
def encNode (o : Bool) : GNode → AV
  | .mk fName fValue fKids => .agg [.str fName, .str fValue, .sl o 3 (encNodes o fKids)]
def encNodes (o : Bool) : List GNode → List AV
  | [] => []
  | x :: xs => encNode o x :: encNodes o xs
end
theorem encNodes_eq (o : Bool) (l : List GNode) : encNodes o l = l.map (encNode o) := by
  induction l with
  | nil => rfl
  | cons x xs ih => simp [encNodes, ih]
@[go_sem] theorem encNode_eq (o : Bool) (x : GNode) : encNode o x = .agg [.str x.fName, .str x.fValue, .sl o 3 (x.fKids.map (encNode o))] := by
  cases x; simp [encNode, encNodes_eq, GNode.fName, GNode.fValue, GNode.fKids]
mutual
theorem encNode_frz : ∀ x : GNode, (encNode true x).frz = encNode false x
  | .mk fName fValue fKids => by simp only [encNode, AV.frz, AV.frzL, cond_true, encNodes_frz fKids]
theorem encNodes_frz : ∀ l : List GNode, AV.frzL (encNodes true l) = encNodes false l
  | [] => rfl
  | x :: xs => by simp only [encNodes, AV.frzL, encNode_frz x, encNodes_frz xs]
end
theorem encNodeM_frz (l : List GNode) : AV.frzL (l.map (encNode true)) = l.map (encNode false) := by
  rw [← encNodes_eq, encNodes_frz, encNodes_eq]
mutual
def szNode : GNode → Int → Int
  | .mk fName fValue fKids, left => thn (szStr fName left) (fun a0 => thn (szStr fValue a0) (fun a1 => thn ((fun b => thn (b - fKids.length) (szNodeGo fKids)) a1) (id)))
def szNodeGo : List GNode → Int → Int
  | [], r => r
  | x :: xs, r => thn (szNode x r) (szNodeGo xs)
end
mutual
theorem szNode_le : ∀ (x : GNode) (r : Int), 0 ≤ r → szNode x r ≤ r
  | .mk fName fValue fKids, r, h => by
    simp only [szNode]
    exact thn_le (fun a0 g0 => thn_le (fun a1 g1 => thn_le (fun _ _ => Int.le_refl _) (thn_le (fun y hy => szNodeGo_le fKids y hy) (by omega) g1) g1) (szStr_le fValue a0 g0) g0) (szStr_le fName r h) h
theorem szNodeGo_le : ∀ (l : List GNode) (r : Int), 0 ≤ r → szNodeGo l r ≤ r
  | [], r, _ => Int.le_refl _
  | x :: xs, r, h => by
    simp only [szNodeGo]
    exact thn_le (fun y hy => szNodeGo_le xs y hy) (szNode_le x r h) h
end

structure GArg where
  fName : Str
  fValue : Str
instance : Inhabited GArg := ⟨⟨[], []⟩⟩

@[go_sem] def encArg (o : Bool) (x : GArg) : AV := .agg [.str x.fName, .str x.fValue]
theorem encArg_frz (x : GArg) : (encArg true x).frz = encArg false x := by
  simp only [encArg, AV.frz, AV.frzL, cond_true]
theorem encArgM_frz (l : List GArg) : AV.frzL (l.map (encArg true)) = l.map (encArg false) := frzL_map _ _ encArg_frz l
def szArg (x : GArg) (left : Int) : Int := thn (szStr x.fName left) (fun a0 => thn (szStr x.fValue a0) (id))
structure GParam where
  fName : Str
  fType : GType
instance : Inhabited GParam := ⟨⟨[], default⟩⟩

@[go_sem] def encParam (o : Bool) (x : GParam) : AV := .agg [.str x.fName, .v (.int .i64 x.fType.fKind), .sl o 2 (x.fType.fRanges.map (encRange o)), .sl o 1 (x.fType.fNames.map AV.str), .str x.fType.fPattern, .str x.fType.fPath]
theorem encParam_frz (x : GParam) : (encParam true x).frz = encParam false x := by
  simp only [encParam, AV.frz, AV.frzL, cond_true, encRangeM_frz, frzL_str]
theorem encParamM_frz (l : List GParam) : AV.frzL (l.map (encParam true)) = l.map (encParam false) := frzL_map _ _ encParam_frz l
def szParam (x : GParam) (left : Int) : Int := thn (szStr x.fName left) (fun a0 => thn (szType x.fType a0) (id))
structure GTemplate where
  fName : Str
  fParams : List GParam
  fBody : List GNode
instance : Inhabited GTemplate := ⟨⟨[], [], []⟩⟩

@[go_sem] def encTemplate (o : Bool) (x : GTemplate) : AV := .agg [.str x.fName, .sl o 6 (x.fParams.map (encParam o)), .sl o 3 (x.fBody.map (encNode o))]
def szTemplate (x : GTemplate) (left : Int) : Int := thn (szStr x.fName left) (fun a0 => thn (szSl szParam x.fParams a0) (fun a1 => thn (szSl szNode x.fBody a1) (id)))
def limT : Nat → Nat
  | 0 => 2097152 + 0
  | _ => 2147483648
theorem limT_b (n : Nat) : 1048576 ≤ limT n ∧ limT n ≤ 4611686018427387904 := by unfold limT; first | (split <;> omega) | omega
def lim (sz : Nat) : Nat := if sz ≤ 1 then 1099511627776 else if sz < 1000000000 then 2147483648 else limT (sz - 1000000000)
def rawL (_ : Nat) : Nat := 140737488355328
end Go.Dt
