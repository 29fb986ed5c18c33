/-
  Part of a proof: Tx0, Tp0, Tp3, Ft0.
-/
import Derived.Test.YtfglembdjbhanaaGreatDoorG3
import Derived.Test.YtfglembdjbhanaaGreatDoorG5
import Derived.Test.YtfglembdjbhanaaGreatDoorG12
set_option linter.unusedSimpArgs false
set_option linter.unusedVariables false
namespace Go.Dt
open Go.Ab
def allTo (p : Nat → Bool) : Nat → Bool
  | 0 => true
  | k + 1 => allTo p k && p k
theorem allTo_false {p : Nat → Bool} : ∀ {n j : Nat}, j < n → p j = false → allTo p n = false
  | 0, _, h, _ => by omega
  | n + 1, j, h, e => by
    simp only [allTo]
    by_cases hj : j = n
    · subst hj; simp [e]
    · rw [allTo_false (n := n) (by omega) e]; rfl
theorem allTo_step {p : Nat → Bool} {k : Nat} (h : allTo p k = true) (e : p k = true) : allTo p (k + 1) = true := by simp [allTo, h, e]
theorem allTo_get {p : Nat → Bool} : ∀ {n j : Nat}, allTo p n = true → j < n → p j = true
  | 0, _, _, h => by omega
  | n + 1, j, h, hj => by
    simp only [allTo, Bool.and_eq_true] at h
    by_cases e : j = n
    · subst e; exact h.2
    · exact allTo_get h.1 (by omega)
theorem allTo_list {α : Type} [Inhabited α] (q : α → Bool) (l : List α) : allTo (fun j => q (at_ l j)) l.length = l.all q := by
  have key : ∀ n, n ≤ l.length → allTo (fun j => q (at_ l j)) n = (l.take n).all q := by
    intro n
    induction n with
    | zero => intro _; simp [allTo]
    | succ n ih =>
      intro h
      rw [allTo, ih (by omega)]
      have : l.take (n + 1) = l.take n ++ [at_ l n] := by
        rw [List.take_succ_eq_append_getElem (by omega)]
        unfold at_; rw [List.getElem?_eq_getElem (by omega)]; rfl
      rw [this]; simp
  have := key l.length (Nat.le_refl _)
  rwa [List.take_length] at this

theorem rawL_n (n : Nat) : rawL n = 140737488355328 := rfl
attribute [go_sem] rawL_n
class Lok (L : Nat → Nat) : Prop where
  le : ∀ z, L z ≤ 4611686018427387904
theorem lim_le (z : Nat) : lim z ≤ 4611686018427387904 := by
  have := limT_b (z - 1000000000)
  unfold lim; split
  · omega
  · split <;> omega
instance : Lok lim := ⟨lim_le⟩
instance : Lok rawL := ⟨fun z => by unfold rawL; omega⟩

def chN (s : Str) (j : Nat) : Bool := ltI (at8 s j) || (!(j == 0) && nmI (at8 s j))
def isName (s : Str) : Bool := allTo (chN s) s.length && (decide (1 ≤ s.length) && decide (s.length ≤ 16) && !(at8 s (s.length - 1 : Nat) == 45))
def chT (s : Str) (j : Nat) : Bool := decide (32 ≤ at8 s j) && decide (at8 s j ≤ 126)
def isText (s : Str) : Bool := allTo (chT s) s.length && decide (s.length ≤ 40)
end Go.Dt
namespace Go.Dt
open Go.Ab
def rgOk (l : List GRange) : Nat → Bool
  | 0 => decide ((at_ l 0).fLo ≤ (at_ l 0).fHi) && decide (-1000000000 ≤ (at_ l 0).fLo) && decide ((at_ l 0).fHi ≤ 1000000000)
  | j + 1 => decide ((at_ l (j + 1)).fLo ≤ (at_ l (j + 1)).fHi) && decide (-1000000000 ≤ (at_ l (j + 1)).fLo) && decide ((at_ l (j + 1)).fHi ≤ 1000000000) && decide ((at_ l j).fHi + 2 ≤ (at_ l (j + 1)).fLo)
theorem rgOk_hi {l : List GRange} {j : Nat} (h : rgOk l j = true) : (at_ l j).fLo ≤ (at_ l j).fHi ∧ -1000000000 ≤ (at_ l j).fLo ∧ (at_ l j).fHi ≤ 1000000000 := by
  cases j <;> simp [rgOk] at h <;> omega
theorem rg0 (l : List GRange) : rgOk l 0 = true ↔ (at_ l 0).fLo ≤ (at_ l 0).fHi ∧ -1000000000 ≤ (at_ l 0).fLo ∧ (at_ l 0).fHi ≤ 1000000000 := by simp [rgOk, and_assoc]
theorem rgS (l : List GRange) (j : Nat) : rgOk l (j + 1) = true ↔ (at_ l (j + 1)).fLo ≤ (at_ l (j + 1)).fHi ∧ -1000000000 ≤ (at_ l (j + 1)).fLo ∧ (at_ l (j + 1)).fHi ≤ 1000000000 ∧ (at_ l j).fHi + 2 ≤ (at_ l (j + 1)).fLo := by simp [rgOk, and_assoc]
def areRanges (l : List GRange) : Bool := allTo (rgOk l) l.length && decide (l.length ≤ 6)
theorem areRanges_no {l : List GRange} {j : Nat} (hj : j < l.length) (h : rgOk l j = false) : areRanges l = false := by
  rw [areRanges, allTo_false hj h]; rfl
theorem areRanges_end {l : List GRange} {k : Nat} (h : allTo (rgOk l) k = true) (e : k = l.length) : areRanges l = decide ((l.length : Int) ≤ 6) := by
  subst e; rw [areRanges, h, Bool.true_and]; exact decide_eq_decide.2 (by omega)
def cont (l : List Str) (s : Str) : Bool := decide (0 ≤ idx (fun x => x == s) l)
def diffs (l : List Str) : Bool := allTo (fun j => !cont (l.take j) (at_ l j)) l.length
def prmI (l : List GParam) (n : Str) : Int := idx (fun x => x.fName == n) l
def names (l : List Str) : Bool := allTo (fun j => isName (at_ l j)) l.length
end Go.Dt
namespace Go.Dt
open Go.Ab
def wtg : List GNode → Nat
  | [] => 0
  | .mk n v ks :: xs => (n.length + v.length + ks.length + wtg ks) + wtg xs
def wt (l : List GNode) : Nat := l.length + wtg l
def kc : List GNode → Nat
  | [] => 0
  | .mk _ _ ks :: xs => (ks.length + kc ks) + kc xs
def cnt (l : List GNode) : Nat := l.length + kc l
def dep : List GNode → Nat
  | [] => 0
  | .mk _ _ ks :: xs => max (1 + dep ks) (dep xs)
def nodeOk (x : GNode) : Bool := isName x.fName && isText x.fValue && (x.fValue == [] || x.fKids.length == 0)
def frm : List GNode → Bool
  | [] => true
  | .mk n v ks :: xs => (nodeOk (.mk n v ks) && frm ks) && frm xs
def lfr : List GNode → Nat → Bool
  | [], _ => true
  | .mk n v ks :: xs, d => (nodeOk (.mk n v ks) && (lfr ks (d + 1) && (ks.length == 0 || decide (d + 1 ≤ 10)))) && lfr xs d
def l13g : List GNode → Int → Int
  | [], q => q
  | .mk _ _ ks :: xs, q => if q < 0 then q else l13g xs (l13g ks (q - ks.length))
def bodyOk (ps : List Str) : List GNode → Bool
  | [] => true
  | .mk _ v ks :: xs => (((tk v).2 && (nmL (tk v)).all (cont ps)) && bodyOk ps ks) && bodyOk ps xs

section
variable {l : List GNode} {k : Nat}
theorem wtg_at (h : k < l.length) : wtg (l.drop k) = ((at_ l k).fName.length + (at_ l k).fValue.length + (at_ l k).fKids.length + wtg (at_ l k).fKids) + wtg (l.drop (k + 1)) := by
  rw [at_drop h]; cases at_ l k; rw [wtg]; rfl
theorem kc_at (h : k < l.length) : kc (l.drop k) = ((at_ l k).fKids.length + kc (at_ l k).fKids) + kc (l.drop (k + 1)) := by
  rw [at_drop h]; cases at_ l k; rw [kc]; rfl
theorem dep_at (h : k < l.length) : dep (l.drop k) = max (1 + dep (at_ l k).fKids) (dep (l.drop (k + 1))) := by
  rw [at_drop h]; cases at_ l k; rw [dep]; rfl
theorem frm_at (h : k < l.length) : frm (l.drop k) = ((nodeOk (at_ l k) && frm (at_ l k).fKids) && frm (l.drop (k + 1))) := by
  rw [at_drop h]; cases at_ l k; rw [frm]; rfl
theorem lfr_at (h : k < l.length) (d : Nat) : lfr (l.drop k) d = ((nodeOk (at_ l k) && (lfr (at_ l k).fKids (d + 1) && ((at_ l k).fKids.length == 0 || decide (d + 1 ≤ 10)))) && lfr (l.drop (k + 1)) d) := by
  rw [at_drop h]; cases at_ l k; rw [lfr]; rfl
theorem l13g_at (h : k < l.length) (q : Int) : l13g (l.drop k) q = if q < 0 then q else l13g (l.drop (k + 1)) (l13g (at_ l k).fKids (q - (at_ l k).fKids.length)) := by
  rw [at_drop h]; cases at_ l k; rw [l13g]; rfl
theorem bodyOk_at (ps : List Str) (h : k < l.length) : bodyOk ps (l.drop k) = ((((tk (at_ l k).fValue).2 && (nmL (tk (at_ l k).fValue)).all (cont ps)) && bodyOk ps (at_ l k).fKids) && bodyOk ps (l.drop (k + 1))) := by
  rw [at_drop h]; cases at_ l k; rw [bodyOk]; rfl
theorem wt_kid (h : k < l.length) : wt (at_ l k).fKids < wt l ∧ (at_ l k).fName.length ≤ wt l ∧ (at_ l k).fValue.length ≤ wt l := by
  have h1 := wtg_at h
  have h2 : ∀ j (l : List GNode), wtg (l.drop j) ≤ wtg l := by
    intro j
    induction j with
    | zero => intro l; simp
    | succ j ih =>
      intro l
      cases l with
      | nil => simp
      | cons x xs => cases x; simp only [List.drop_succ_cons, wtg]; have := ih xs; omega
  have h3 := h2 k l
  unfold wt
  omega
end
theorem nodeOk_no {x : GNode} (h : (isName x.fName = false ∨ isText x.fValue = false) ∨ ¬ x.fValue = [] ∧ 0 < (x.fKids.length : Int)) : nodeOk x = false := by
  unfold nodeOk
  rcases h with (h | h) | h
  · simp [h]
  · simp [h]
  · have : (x.fKids.length == 0) = false := by simp only [beq_eq_false_iff_ne]; omega
    simp [h.1, this]
theorem nodeOk_yes {x : GNode} (h : (isName x.fName = true ∧ isText x.fValue = true) ∧ (¬ x.fValue = [] → (x.fKids.length : Int) ≤ 0)) : nodeOk x = true := by
  unfold nodeOk
  rw [h.1.1, h.1.2]
  by_cases e : x.fValue = []
  · simp [e]
  · have := h.2 e
    have : (x.fKids.length == 0) = true := by simp only [beq_iff_eq]; omega
    simp [this]
theorem idx_map {α β : Type} (f : α → β) (p : β → Bool) : ∀ l : List α, idx (fun x => p (f x)) l = idx p (l.map f)
  | [] => rfl
  | x :: xs => by simp only [List.map_cons, idx, idx_map f p xs]
theorem prm_cont (ps : List GParam) (n : Str) : decide (0 ≤ prmI ps n) = cont (ps.map GParam.fName) n := by
  rw [prmI, idx_map GParam.fName (fun x => x == n)]; rfl
theorem rights_le : ∀ d : List Tok, (rights d).length ≤ d.length
  | [] => by simp [rights]
  | .inl _ :: d => by have := rights_le d; simp only [rights, List.length_cons]; omega
  | .inr _ :: d => by have := rights_le d; simp only [rights, List.length_cons]; omega
theorem nmL_len (s : Str) : (nmL (tk s)).length ≤ s.length := by
  have h1 := tk_len s
  have h2 := rights_le (tk s).1
  unfold nmL
  cases (tk s).2
  · simp
  · simp only [cond_true]; omega
theorem drop_end {α : Type} {l : List α} {k : Nat} (h : ¬ k < l.length) : l.drop k = [] := List.drop_eq_nil_of_le (by omega)

theorem kc_le : ∀ l : List GNode, kc l ≤ wtg l
  | [] => by simp [kc]
  | .mk n v ks :: xs => by have := kc_le ks; have := kc_le xs; simp only [kc, wtg]; omega
theorem cnt_le (l : List GNode) : cnt l ≤ wt l := by have := kc_le l; unfold cnt wt; omega
theorem dep_le : ∀ l : List GNode, dep l ≤ wt l
  | [] => by simp [dep]
  | .mk n v ks :: xs => by
    have h1 := dep_le ks; have h2 := dep_le xs; simp only [dep, wt, wtg, List.length_cons] at *; omega
theorem dep_pos : ∀ l : List GNode, dep l = 0 ↔ l.length = 0
  | [] => by simp [dep]
  | .mk n v ks :: xs => by simp only [dep, List.length_cons]; omega
theorem l13g_le : ∀ (l : List GNode) (q : Int), l13g l q ≤ q
  | [], q => by simp [l13g]
  | .mk n v ks :: xs, q => by
    have h1 := l13g_le ks (q - ks.length)
    have h2 := l13g_le xs (l13g ks (q - ks.length))
    simp only [l13g]; split <;> omega
theorem l13g_neg (l : List GNode) {q : Int} (h : q < 0) : l13g l q = q := by
  cases l with
  | nil => rw [l13g]
  | cons x xs => cases x; simp only [l13g]; rw [if_pos h]
theorem l13g_eq : ∀ (l : List GNode) (q : Int), 0 ≤ q → (0 ≤ l13g l q ↔ (kc l : Int) ≤ q) ∧ ((kc l : Int) ≤ q → l13g l q = q - kc l)
  | [], q, h => by simp only [l13g, kc]; omega
  | .mk n v ks :: xs, q, h => by
    simp only [l13g, kc]
    rw [if_neg (by omega)]
    rcases Int.lt_or_le (q - ks.length) 0 with h1 | h1
    · rw [l13g_neg ks h1, l13g_neg xs h1]
      constructor
      · omega
      · omega
    · have h2 := l13g_eq ks _ h1
      rcases Int.lt_or_le (l13g ks (q - ks.length)) 0 with h3 | h3
      · rw [l13g_neg xs h3]
        constructor
        · omega
        · omega
      · have h4 := l13g_eq xs _ h3
        have h5 := h2.2 (h2.1.1 h3)
        rw [h5] at h3 h4 ⊢
        constructor
        · omega
        · omega
theorem l13g_ge : ∀ (l : List GNode) (q : Int), -4611686018427387904 ≤ q → (wt l : Int) ≤ 1048576 → -4611686018427387904 ≤ l13g l q
  | [], q, h, _ => by simpa [l13g] using h
  | .mk n v ks :: xs, q, h, hw => by
    simp only [l13g]
    split
    · exact h
    · have e : (wt (.mk n v ks :: xs) : Nat) = (n.length + v.length + wt ks) + 1 + wt xs := by simp only [wt, wtg, List.length_cons]; omega
      have e2 : ks.length ≤ wt ks := by unfold wt; omega
      exact l13g_ge xs _ (l13g_ge ks _ (by omega) (by omega)) (by omega)
theorem lfr_eq : ∀ (l : List GNode) (d : Nat), 1 ≤ d → d ≤ 10 → lfr l d = (frm l && decide (d + dep l ≤ 11))
  | [], d, _, h => by simp [lfr, frm, dep]; omega
  | .mk n v ks :: xs, d, h0, h => by
    have h2 := lfr_eq xs d h0 h
    simp only [lfr, frm, dep]
    rw [h2]
    by_cases h3 : d + 1 ≤ 10
    · have h1 := lfr_eq ks (d + 1) (by omega) h3
      rw [h1]
      have e1 : decide (d + 1 ≤ 10) = true := by simpa using h3
      rw [e1, Bool.or_true, Bool.and_true]
      have e2 : decide (d + max (1 + dep ks) (dep xs) ≤ 11) = (decide (d + 1 + dep ks ≤ 11) && decide (d + dep xs ≤ 11)) := by
        rw [← Bool.decide_and]; exact decide_eq_decide.2 (by omega)
      rw [e2]
      cases nodeOk (.mk n v ks) <;> cases frm ks <;> cases frm xs <;> simp
    · have e1 : decide (d + 1 ≤ 10) = false := by simpa using h3
      rw [e1, Bool.or_false]
      have hd := dep_pos ks
      by_cases h4 : ks.length = 0
      · have h5 : ks = [] := List.length_eq_zero_iff.1 h4
        subst h5
        have e2 : decide (d + max (1 + dep []) (dep xs) ≤ 11) = decide (d + dep xs ≤ 11) := decide_eq_decide.2 (by simp only [dep]; omega)
        rw [e2]
        simp [lfr, frm]
        cases nodeOk (.mk n v []) <;> cases frm xs <;> simp
      · have e3 : (ks.length == 0) = false := by simpa using h4
        have e4 : decide (d + max (1 + dep ks) (dep xs) ≤ 11) = false := by simp only [decide_eq_false_iff_not]; omega
        rw [e3, e4]; simp
def isForm (l : List GNode) : Bool := decide (cnt l ≤ 120) && decide (dep l ≤ 10) && frm l
theorem isForm_spec (l : List GNode) : (decide (0 ≤ l13g l (120 - l.length)) && (lfr l 1 && (l.length == 0 || decide (1 ≤ 10)))) = isForm l := by
  rw [lfr_eq l 1 (by omega) (by omega)]
  have e1 : decide (0 ≤ l13g l (120 - l.length)) = decide (cnt l ≤ 120) := by
    apply decide_eq_decide.2
    unfold cnt
    rcases Int.lt_or_le (120 - (l.length : Int)) 0 with h | h
    · rw [l13g_neg l h]; omega
    · have := (l13g_eq l _ h).1; omega
  have e2 : decide (1 + dep l ≤ 11) = decide (dep l ≤ 10) := decide_eq_decide.2 (by omega)
  rw [e1, e2]
  simp [isForm]
  cases decide (cnt l ≤ 120) <;> cases frm l <;> simp
def isType (ip : Str → Bool) (x : GType) : Bool :=
  (decide (x.fKind = 1) && areRanges x.fRanges && x.fNames.isEmpty && x.fPattern.isEmpty && x.fPath.isEmpty) ||
  (decide (x.fKind = 2) && areRanges x.fRanges && (x.fRanges.isEmpty || decide (0 ≤ (at_ x.fRanges 0).fLo)) && (x.fPattern.isEmpty || ip x.fPattern) && x.fNames.isEmpty && x.fPath.isEmpty) ||
  (decide (x.fKind = 4) && decide (1 ≤ x.fNames.length) && decide (x.fNames.length ≤ 6) && names x.fNames && diffs x.fNames && x.fRanges.isEmpty && x.fPattern.isEmpty && x.fPath.isEmpty) ||
  (decide (x.fKind = 5) && isText x.fPath && !x.fPath.isEmpty && x.fRanges.isEmpty && x.fNames.isEmpty && x.fPattern.isEmpty) ||
  (decide (x.fKind = 3 ∨ x.fKind = 6) && x.fRanges.isEmpty && x.fNames.isEmpty && x.fPattern.isEmpty && x.fPath.isEmpty)

section
variable {ip : Str → Bool} {x : GType}
theorem isType_k1 (h : x.fKind = 1) : isType ip x = (areRanges x.fRanges && x.fNames.isEmpty && x.fPattern.isEmpty && x.fPath.isEmpty) := by simp [isType, h]
theorem isType_k2 (h : x.fKind = 2) : isType ip x = (areRanges x.fRanges && (x.fRanges.isEmpty || decide (0 ≤ (at_ x.fRanges 0).fLo)) && (x.fPattern.isEmpty || ip x.fPattern) && x.fNames.isEmpty && x.fPath.isEmpty) := by simp [isType, h]
theorem isType_k4 (h : x.fKind = 4) : isType ip x = (decide (1 ≤ x.fNames.length) && decide (x.fNames.length ≤ 6) && names x.fNames && diffs x.fNames && x.fRanges.isEmpty && x.fPattern.isEmpty && x.fPath.isEmpty) := by simp [isType, h]
theorem isType_k5 (h : x.fKind = 5) : isType ip x = (isText x.fPath && !x.fPath.isEmpty && x.fRanges.isEmpty && x.fNames.isEmpty && x.fPattern.isEmpty) := by simp [isType, h]
theorem isType_kz (h1 : ¬ x.fKind = 1) (h2 : ¬ x.fKind = 2) (h4 : ¬ x.fKind = 4) (h5 : ¬ x.fKind = 5) : isType ip x = (decide (x.fKind = 3 ∨ x.fKind = 6) && x.fRanges.isEmpty && x.fNames.isEmpty && x.fPattern.isEmpty && x.fPath.isEmpty) := by simp [isType, h1, h2, h4, h5]
theorem isType_no (h : (((¬x.fKind = 1 ∧ ¬x.fKind = 2) ∧ ¬x.fRanges = [] ∨ ¬x.fKind = 4 ∧ ¬x.fNames = []) ∨ ¬x.fKind = 2 ∧ ¬x.fPattern = []) ∨ ¬x.fKind = 5 ∧ ¬x.fPath = []) : isType ip x = false := by
  by_cases h1 : x.fKind = 1
  · rw [isType_k1 h1]; simp [h1] at h
    rcases h with (h | h) | h <;> simp [h]
  by_cases h2 : x.fKind = 2
  · rw [isType_k2 h2]; simp [h2] at h
    rcases h with h | h <;> simp [h]
  by_cases h4 : x.fKind = 4
  · rw [isType_k4 h4]; simp [h4] at h
    rcases h with (h | h) | h <;> simp [h]
  by_cases h5 : x.fKind = 5
  · rw [isType_k5 h5]; simp [h5] at h
    rcases h with (h | h) | h <;> simp [h]
  · rw [isType_kz h1 h2 h4 h5]; simp [h1, h2, h4, h5] at h
    rcases h with ((h | h) | h) | h <;> simp [h]
end

section
variable {ip : Str → Bool} {x : GType}
theorem nil_of {α : Type} {l : List α} (h : (l.length : Int) ≤ 0) : l = [] := List.length_eq_zero_iff.1 (by omega)
theorem isE0 {α : Type} (l : List α) : ((l.length : Int) == 0) = l.isEmpty := by cases l <;> simp <;> omega
theorem isEn {α : Type} [BEq α] (l : List α) : (l == []) = l.isEmpty := by cases l <;> rfl
theorem isType_w0 (h : (((¬x.fKind = 1 ∧ ¬x.fKind = 2) ∧ (0 : Int) < x.fRanges.length ∨ ¬x.fKind = 4 ∧ (0 : Int) < x.fNames.length) ∨ ¬x.fKind = 2 ∧ ¬x.fPattern = []) ∨ ¬x.fKind = 5 ∧ ¬x.fPath = []) : false = isType ip x := by
  have e3 : (0 : Int) < x.fRanges.length ↔ ¬ x.fRanges = [] := by rw [← List.length_eq_zero_iff]; omega
  have e4 : (0 : Int) < x.fNames.length ↔ ¬ x.fNames = [] := by rw [← List.length_eq_zero_iff]; omega
  rw [e3, e4] at h
  exact (isType_no h).symm
section
variable (H : (((¬x.fKind = 1 ∧ ¬x.fKind = 2 → (x.fRanges.length : Int) ≤ 0) ∧ (¬x.fKind = 4 → (x.fNames.length : Int) ≤ 0)) ∧ (¬x.fKind = 2 → x.fPattern = [])) ∧ (¬x.fKind = 5 → x.fPath = []))
include H
theorem isType_w1 (h : x.fKind = 1) : areRanges x.fRanges = isType ip x := by
  rw [isType_k1 h, nil_of (H.1.1.2 (by omega)), H.1.2 (by omega), H.2 (by omega)]; simp
theorem isType_w2 (h : x.fKind = 2) : (areRanges x.fRanges && ((x.fRanges.length : Int) == 0 || decide (0 ≤ (at_ x.fRanges 0).fLo)) && (x.fPattern == [] || ip x.fPattern)) = isType ip x := by
  rw [isType_k2 h, nil_of (H.1.1.2 (by omega)), H.2 (by omega), isE0, isEn]; simp
theorem isType_w4 (h : x.fKind = 4) : (decide ((1 : Int) ≤ x.fNames.length) && decide ((x.fNames.length : Int) ≤ 6) && names x.fNames && diffs x.fNames) = isType ip x := by
  rw [isType_k4 h, nil_of (H.1.1.1 (by omega)), H.1.2 (by omega), H.2 (by omega)]
  rw [show decide ((1 : Int) ≤ x.fNames.length) = decide (1 ≤ x.fNames.length) from decide_eq_decide.2 (by omega), show decide ((x.fNames.length : Int) ≤ 6) = decide (x.fNames.length ≤ 6) from decide_eq_decide.2 (by omega)]
  simp
theorem isType_w5 (h : x.fKind = 5) : (!x.fPath == [] && isText x.fPath) = isType ip x := by
  rw [isType_k5 h, nil_of (H.1.1.1 (by omega)), nil_of (H.1.1.2 (by omega)), H.1.2 (by omega), isEn]
  cases x.fPath.isEmpty <;> simp
theorem isType_wz (h1 : ¬ x.fKind = 1) (h2 : ¬ x.fKind = 2) (h4 : ¬ x.fKind = 4) (h5 : ¬ x.fKind = 5) : (x.fKind == 3 || x.fKind == 6) = isType ip x := by
  rw [isType_kz h1 h2 h4 h5, nil_of (H.1.1.1 (by omega)), nil_of (H.1.1.2 (by omega)), H.1.2 (by omega), H.2 (by omega)]
  by_cases h3 : x.fKind = 3 <;> by_cases h6 : x.fKind = 6 <;> simp [h3, h6]
end
end

theorem isEp {α : Type} (l : List α) : (!decide ((0 : Int) < l.length)) = l.isEmpty := by
  cases l with
  | nil => rfl
  | cons x xs => simp
theorem idx_mem (s : Str) : ∀ l : List Str, 0 ≤ idx (fun x => x == s) l ↔ s ∈ l
  | [] => by simp [idx]
  | x :: xs => by
    have ih := idx_mem s xs
    have h0 := idx_ge (fun x => x == s) xs
    by_cases e : x = s
    · subst e; simp [idx]
    · have e' : (x == s) = false := by simpa using e
      have e'' : ¬ s = x := fun h => e h.symm
      simp only [idx, e', Bool.false_eq_true, if_false, List.mem_cons, e'', false_or, ← ih]
      split <;> omega
theorem cont_iff (l : List Str) (s : Str) : cont l s = true ↔ s ∈ l := by
  unfold cont
  rw [decide_eq_true_eq, idx_mem]
theorem at_take {α : Type} [Inhabited α] {l : List α} {j k : Nat} (h : j < k) : at_ (l.take k) j = at_ l j := by unfold at_; rw [List.getElem?_take, if_pos h]
theorem cont_dup {l : List Str} {j k : Nat} (hj : j < k) (hk : k < l.length) (h : at_ l j = at_ l k) : cont (l.take k) (at_ l k) = true := by
  rw [cont_iff, ← h]
  have : (l.take k)[j]? = some (at_ l j) := by rw [List.getElem?_take, if_pos hj]; exact at_get (by omega)
  exact List.mem_of_getElem? this
theorem cont_free {l : List Str} {k : Nat} {s : Str} (h : ∀ y ∈ l.take k, (y == s) = false) : cont (l.take k) s = false := by
  rw [Bool.eq_false_iff]
  intro hc
  have := h s ((cont_iff _ _).1 hc)
  simp at this
section
variable {ip : Str → Bool} {x : GType}
theorem isType_bad {k : Nat} (hk : k < x.fNames.length) (h : names x.fNames = false ∨ diffs x.fNames = false) : false = isType ip x := by
  have e : x.fNames.isEmpty = false := by cases hx : x.fNames with | nil => rw [hx] at hk; simp at hk | cons a b => rfl
  unfold isType
  rw [e]
  rcases h with h | h <;> simp [h]
theorem isType_v1 (h : x.fKind = 1) : (areRanges x.fRanges && !decide ((0 : Int) < x.fNames.length) && x.fPattern == [] && x.fPath == []) = isType ip x := by
  rw [isType_k1 h, isEp, isEn, isEn]
theorem isType_v2 (h : x.fKind = 2) : (areRanges x.fRanges && (!decide ((0 : Int) < x.fRanges.length) || decide (0 ≤ (at_ x.fRanges 0).fLo)) && (x.fPattern == [] || ip x.fPattern) && !decide ((0 : Int) < x.fNames.length) && x.fPath == []) = isType ip x := by
  rw [isType_k2 h, isEp, isEp, isEn, isEn]
theorem isType_v4 (h : x.fKind = 4) (h1 : names x.fNames = true) (h2 : diffs x.fNames = true) : (decide ((1 : Int) ≤ x.fNames.length) && decide ((x.fNames.length : Int) ≤ 6) && !decide ((0 : Int) < x.fRanges.length) && x.fPattern == [] && x.fPath == []) = isType ip x := by
  rw [isType_k4 h, isEp, isEn, isEn, h1, h2, Bool.and_true, Bool.and_true]
  rw [show decide ((1 : Int) ≤ x.fNames.length) = decide (1 ≤ x.fNames.length) from decide_eq_decide.2 (by omega), show decide ((x.fNames.length : Int) ≤ 6) = decide (x.fNames.length ≤ 6) from decide_eq_decide.2 (by omega)]
theorem isType_v5 (h : x.fKind = 5) : (isText x.fPath && !x.fPath == [] && !decide ((0 : Int) < x.fRanges.length) && !decide ((0 : Int) < x.fNames.length) && x.fPattern == []) = isType ip x := by
  rw [isType_k5 h, isEp, isEp, isEn, isEn]
theorem isType_v3 (h1 : ¬ x.fKind = 1) (h2 : ¬ x.fKind = 2) (h4 : ¬ x.fKind = 4) (h5 : ¬ x.fKind = 5) (h : x.fKind = 3 ∨ x.fKind = 6) : (!decide ((0 : Int) < x.fRanges.length) && !decide ((0 : Int) < x.fNames.length) && x.fPattern == [] && x.fPath == []) = isType ip x := by
  rw [isType_kz h1 h2 h4 h5, isEp, isEp, isEn, isEn, show decide (x.fKind = 3 ∨ x.fKind = 6) = true by simpa using h, Bool.true_and]
theorem isType_vz (h1 : ¬ x.fKind = 1) (h2 : ¬ x.fKind = 2) (h4 : ¬ x.fKind = 4) (h5 : ¬ x.fKind = 5) (h3 : ¬ x.fKind = 3) (h6 : ¬ x.fKind = 6) : false = isType ip x := by
  rw [isType_kz h1 h2 h4 h5, show decide (x.fKind = 3 ∨ x.fKind = 6) = false by simp [h3, h6]]; rfl
end

def prmOk (ip : Str → Bool) (l : List GParam) (j : Nat) : Bool := isName (at_ l j).fName && isType ip (at_ l j).fType
def isTemplate (ip : Str → Bool) (x : GTemplate) : Bool := allTo (prmOk ip x.fParams) x.fParams.length && diffs (x.fParams.map GParam.fName) && isName x.fName && decide (x.fParams.length ≤ 6) && isForm x.fBody && bodyOk (x.fParams.map GParam.fName) x.fBody

theorem at_map {α β : Type} [Inhabited α] [Inhabited β] (f : α → β) {l : List α} {k : Nat} (h : k < l.length) : at_ (l.map f) k = f (at_ l k) := by
  unfold at_; rw [List.getElem?_map, List.getElem?_eq_getElem h]; rfl
theorem prm_first {l : List GParam} {k : Nat} (hk : k < l.length) : prmI l (at_ l k).fName = k ↔ cont ((l.map GParam.fName).take k) (at_ (l.map GParam.fName) k) = false := by
  have hk' : k < (l.map GParam.fName).length := by simpa using hk
  rw [at_map GParam.fName hk, prmI, idx_map GParam.fName (fun x => x == (at_ l k).fName)]
  have hself : ((at_ (l.map GParam.fName) k) == (at_ l k).fName) = true := by rw [at_map GParam.fName hk]; simp
  constructor
  · intro h
    rw [Bool.eq_false_iff]
    intro hc
    have hm := (cont_iff _ _).1 hc
    obtain ⟨j, hj, e⟩ := List.getElem_of_mem hm
    rw [List.length_take] at hj
    have e2 : at_ (l.map GParam.fName) j = (at_ l k).fName := by
      unfold at_
      rw [List.getElem_take] at e
      rw [List.getElem?_eq_getElem (by omega), e]; rfl
    have hle : ∀ (m : List Str) (j : Nat), j < m.length → at_ m j = (at_ l k).fName → idx (fun x => x == (at_ l k).fName) m ≤ j := by
      intro m
      induction m with
      | nil => intro j h; simp at h
      | cons y ys ih =>
        intro j hj he
        simp only [idx]
        split
        · omega
        · cases j with
          | zero => rename_i hn; simp [at_] at he; simp [he] at hn; simp [at_] at hn
          | succ j =>
            have := ih j (by simpa using hj) (by simpa [at_] using he)
            split
            · omega
            · omega
    have := hle _ j (by omega) e2
    omega
  · intro h
    refine idx_at' hk' (fun y hy => ?_) hself
    rw [beq_eq_false_iff_ne]
    intro e
    rw [e] at hy
    rw [(cont_iff _ _).2 hy] at h
    cases h
theorem isTemplate_no {ip : Str → Bool} {x : GTemplate} {k : Nat} (hk : k < x.fParams.length) (h : prmOk ip x.fParams k = false) : isTemplate ip x = false := by
  unfold isTemplate; rw [allTo_false hk h]; rfl
theorem isTemplate_dup {ip : Str → Bool} {x : GTemplate} {k : Nat} (hk : k < x.fParams.length) (h : cont ((x.fParams.map GParam.fName).take k) (at_ (x.fParams.map GParam.fName) k) = true) : isTemplate ip x = false := by
  unfold isTemplate
  rw [show diffs (x.fParams.map GParam.fName) = false from allTo_false (by simpa using hk) (by simp [h])]
  simp
end Go.Dt
namespace Go.Dt
open Go.Ab
mutual
def fillN (a : List GArg) : GNode → GNode
  | .mk n v ks => .mk n (flS a (tk v)) (fillL a ks)
def fillL (a : List GArg) : List GNode → List GNode
  | [] => []
  | x :: xs => fillN a x :: fillL a xs
end
theorem fillL_map (a : List GArg) : ∀ l : List GNode, fillL a l = l.map (fillN a)
  | [] => rfl
  | x :: xs => by simp only [fillL, List.map_cons, fillL_map a xs]
theorem fillN_eq (a : List GArg) (x : GNode) : fillN a x = .mk x.fName (flS a (tk x.fValue)) (x.fKids.map (fillN a)) := by
  cases x; simp only [fillN, fillL_map]; rfl
theorem take_atL {α : Type} [Inhabited α] {l : List α} {k : Nat} (h : k < l.length) : l.take (k + 1) = l.take k ++ [at_ l k] := by
  rw [List.take_succ_eq_append_getElem h]
  unfold at_; rw [List.getElem?_eq_getElem h]; rfl
theorem flS_le {a : List GArg} {s : Str} (h : ArgsOk a) (hs : s.length ≤ 1048576) : (flS a (tk s)).length ≤ 1099511627776 := by
  have h1 := outF_len h (tk s).1
  have h2 := tk_len s
  unfold flS
  cases flB a (tk s) with
  | false => simp
  | true => simp only [cond_true]; omega
end Go.Dt
