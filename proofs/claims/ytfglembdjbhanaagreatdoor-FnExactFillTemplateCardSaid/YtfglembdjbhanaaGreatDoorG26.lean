/-
  Part of a proof: Ft2.
-/
import Derived.Test.YtfglembdjbhanaaGreatDoorG12
import Derived.Test.YtfglembdjbhanaaGreatDoorG25
set_option linter.unusedSimpArgs false
set_option linter.unusedVariables false
namespace Go.Dt
open Go.Ab
theorem idx_le {α : Type} [Inhabited α] {p : α → Bool} : ∀ {l : List α} {j : Nat}, j < l.length → p (at_ l j) = true → idx p l ≤ j ∧ 0 ≤ idx p l
  | [], _, h, _ => by simp at h
  | x :: xs, 0, _, h => by
    have : p x = true := h
    simp [idx, this]
  | x :: xs, j + 1, h, e => by
    have e' : p (at_ xs j) = true := by simpa [at_] using e
    have := idx_le (l := xs) (j := j) (by simpa using h) e'
    simp only [idx]
    split
    · omega
    · split <;> omega
theorem arg_first {l : List GArg} {k : Nat} (hk : k < l.length) : cont ((l.take k).map GArg.fName) (at_ l k).fName = !decide (idx (argP (at_ l k).fName) l = k) := by
  have hself : argP (at_ l k).fName (at_ l k) = true := by simp [argP]
  have hle := idx_le hk hself
  cases hc : cont ((l.take k).map GArg.fName) (at_ l k).fName with
  | true =>
    have hm := (cont_iff _ _).1 hc
    obtain ⟨x, hx, e⟩ := List.mem_map.1 hm
    obtain ⟨j, hj, e1⟩ := List.getElem_of_mem hx
    rw [List.length_take] at hj
    have e2 : argP (at_ l k).fName (at_ l j) = true := by
      have : at_ l j = x := by
        unfold at_
        rw [List.getElem_take] at e1
        rw [List.getElem?_eq_getElem (by omega), e1]; rfl
      rw [this, argP, e]; simp
    have := idx_le (show j < l.length by omega) e2
    have : decide (idx (argP (at_ l k).fName) l = k) = false := decide_eq_false (by omega)
    rw [this]; rfl
  | false =>
    have : idx (argP (at_ l k).fName) l = k := by
      refine idx_at' hk (fun y hy => ?_) hself
      rw [argP, beq_eq_false_iff_ne]
      intro e
      rw [(cont_iff _ _).2 (List.mem_map.2 ⟨y, hy, e⟩)] at hc
      cases hc
    rw [decide_eq_true this]; rfl
def argOk (ps : List GParam) (l : List GArg) (j : Nat) : Bool := decide (0 ≤ prmI ps (at_ l j).fName) && decide (idx (argP (at_ l j).fName) l = j)
def argsOk (ps : List GParam) (l : List GArg) : Bool := allTo (argOk ps l) l.length && decide (l.length = ps.length)
def prT (ps : List GParam) (x : GArg) : GType := (at_ ps (prmI ps x.fName).toNat).fType
section
variable (ip : Str → Bool) (cb : GType → Str → Bool) (cs : GType → Str → Str)
def cnB (ps : List GParam) (x : GArg) : Bool := cb (prT ps x) x.fValue
def cnA (ps : List GParam) (x : GArg) : GArg := ⟨x.fName, cs (prT ps x) x.fValue⟩
def ftOk (t : GTemplate) (l : List GArg) : Bool := isTemplate ip t && argsOk t.fParams l && allTo (fun j => cnB cb t.fParams (at_ l j)) l.length
def ftC (t : GTemplate) (l : List GArg) : Int := if isTemplate ip t = false then 1 else if argsOk t.fParams l = false then 2 else if allTo (fun j => cnB cb t.fParams (at_ l j)) l.length = false then 3 else 0
def ftN (t : GTemplate) (l : List GArg) : List GNode := bif ftOk ip cb t l then t.fBody.map (fillN (l.map (cnA cs t.fParams))) else []
end
theorem prm_lt (ps : List GParam) (n : Str) : prmI ps n < ps.length := idx_lt ps
theorem argOk_no {ps : List GParam} {l : List GArg} {k : Nat} (hk : k < l.length) (h : argOk ps l k = false) : argsOk ps l = false := by rw [argsOk, allTo_false hk h]; rfl
theorem argOk_get {ps : List GParam} {l : List GArg} {k : Nat} (h : argsOk ps l = true) (hk : k < l.length) : 0 ≤ prmI ps (at_ l k).fName := by
  rw [argsOk, Bool.and_eq_true] at h
  have := allTo_get h.1 hk
  rw [argOk, Bool.and_eq_true, decide_eq_true_eq] at this
  exact this.1
theorem clL {α : Type} {f : α → AV} : ∀ (l : List α), (∀ x ∈ l, (f x).closed = true) → AV.closedL (l.map f) = true
  | [], _ => rfl
  | x :: xs, h => by simp only [List.map_cons, AV.closedL, h x (by simp), clL xs fun y hy => h y (by simp [hy]), Bool.true_and]
theorem ndC (x : GNode) : (encNode true x).closed = true := by
  rw [encNode_eq]
  simp only [AV.closed, AV.closedL, clL x.fKids (fun y hy => ndC y), Bool.true_and, Bool.and_true]
termination_by SizeOf.sizeOf x
decreasing_by have := List.sizeOf_lt_of_mem hy; cases x; simp [GNode.fKids] at *; omega
@[go_sem] theorem fill_cl (f : GNode → GNode) (l : List GNode) : AV.closedL (l.map (encNode true ∘ f)) = true := clL l fun x _ => ndC (f x)
end Go.Dt
