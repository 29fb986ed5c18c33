/-
  Part of a proof: Tp3, Tp4, Tp5, Tp6, Tp7.
-/
import Derived.Test.YtkdchlggdcmkbaaG3
import Derived.Test.YtkdchlggdcmkbaaG6
set_option linter.unusedSimpArgs false
set_option linter.unusedVariables false
namespace Go.Dt
open Go.Ab
/-- what a tree weighs, without the count of the list itself -/
def wtg : List GNode → Nat
  | [] => 0
  | .mk n v ks :: xs => (n.length + v.length + ks.length + wtg ks) + wtg xs
def wt (l : List GNode) : Nat := l.length + wtg l
def kc : List GNode → Nat
  | [] => 0
  | .mk _ _ ks :: xs => (ks.length + kc ks) + kc xs
def cnt (l : List GNode) : Nat := l.length + kc l
def dep : List GNode → Nat
  | [] => 0
  | .mk _ _ ks :: xs => max (1 + dep ks) (dep xs)
def nodeOk (x : GNode) : Bool := isName x.fName && isText x.fValue && (x.fValue == [] || x.fKids.length == 0)
def frm : List GNode → Bool
  | [] => true
  | .mk n v ks :: xs => (nodeOk (.mk n v ks) && frm ks) && frm xs
/-- l20Form without its last test -/
def lfr : List GNode → Nat → Bool
  | [], _ => true
  | .mk n v ks :: xs, d => (nodeOk (.mk n v ks) && (lfr ks (d + 1) && (ks.length == 0 || decide (d + 1 ≤ 10)))) && lfr xs d
def l13g : List GNode → Int → Int
  | [], q => q
  | .mk _ _ ks :: xs, q => if q < 0 then q else l13g xs (l13g ks (q - ks.length))
/-- all names of the texts are known -/
def bodyOk (ps : List Str) : List GNode → Bool
  | [] => true
  | .mk _ v ks :: xs => (((tk v).2 && (nmL (tk v)).all (cont ps)) && bodyOk ps ks) && bodyOk ps xs

section
variable {l : List GNode} {k : Nat}
theorem wtg_at (h : k < l.length) : wtg (l.drop k) = ((at_ l k).fName.length + (at_ l k).fValue.length + (at_ l k).fKids.length + wtg (at_ l k).fKids) + wtg (l.drop (k + 1)) := by
  rw [at_drop h]; cases at_ l k; rw [wtg]; rfl
theorem kc_at (h : k < l.length) : kc (l.drop k) = ((at_ l k).fKids.length + kc (at_ l k).fKids) + kc (l.drop (k + 1)) := by
  rw [at_drop h]; cases at_ l k; rw [kc]; rfl
theorem dep_at (h : k < l.length) : dep (l.drop k) = max (1 + dep (at_ l k).fKids) (dep (l.drop (k + 1))) := by
  rw [at_drop h]; cases at_ l k; rw [dep]; rfl
theorem frm_at (h : k < l.length) : frm (l.drop k) = ((nodeOk (at_ l k) && frm (at_ l k).fKids) && frm (l.drop (k + 1))) := by
  rw [at_drop h]; cases at_ l k; rw [frm]; rfl
theorem lfr_at (h : k < l.length) (d : Nat) : lfr (l.drop k) d = ((nodeOk (at_ l k) && (lfr (at_ l k).fKids (d + 1) && ((at_ l k).fKids.length == 0 || decide (d + 1 ≤ 10)))) && lfr (l.drop (k + 1)) d) := by
  rw [at_drop h]; cases at_ l k; rw [lfr]; rfl
theorem l13g_at (h : k < l.length) (q : Int) : l13g (l.drop k) q = if q < 0 then q else l13g (l.drop (k + 1)) (l13g (at_ l k).fKids (q - (at_ l k).fKids.length)) := by
  rw [at_drop h]; cases at_ l k; rw [l13g]; rfl
theorem bodyOk_at (ps : List Str) (h : k < l.length) : bodyOk ps (l.drop k) = ((((tk (at_ l k).fValue).2 && (nmL (tk (at_ l k).fValue)).all (cont ps)) && bodyOk ps (at_ l k).fKids) && bodyOk ps (l.drop (k + 1))) := by
  rw [at_drop h]; cases at_ l k; rw [bodyOk]; rfl
theorem wt_kid (h : k < l.length) : wt (at_ l k).fKids < wt l ∧ (at_ l k).fName.length ≤ wt l ∧ (at_ l k).fValue.length ≤ wt l := by
  have h1 := wtg_at h
  have h2 : ∀ j (l : List GNode), wtg (l.drop j) ≤ wtg l := by
    intro j
    induction j with
    | zero => intro l; simp
    | succ j ih =>
      intro l
      cases l with
      | nil => simp
      | cons x xs => cases x; simp only [List.drop_succ_cons, wtg]; have := ih xs; omega
  have h3 := h2 k l
  unfold wt
  omega
end
theorem nodeOk_no {x : GNode} (h : (isName x.fName = false ∨ isText x.fValue = false) ∨ ¬ x.fValue = [] ∧ 0 < (x.fKids.length : Int)) : nodeOk x = false := by
  unfold nodeOk
  rcases h with (h | h) | h
  · simp [h]
  · simp [h]
  · have : (x.fKids.length == 0) = false := by simp only [beq_eq_false_iff_ne]; omega
    simp [h.1, this]
theorem nodeOk_yes {x : GNode} (h : (isName x.fName = true ∧ isText x.fValue = true) ∧ (¬ x.fValue = [] → (x.fKids.length : Int) ≤ 0)) : nodeOk x = true := by
  unfold nodeOk
  rw [h.1.1, h.1.2]
  by_cases e : x.fValue = []
  · simp [e]
  · have := h.2 e
    have : (x.fKids.length == 0) = true := by simp only [beq_iff_eq]; omega
    simp [this]
theorem idx_map {α β : Type} (f : α → β) (p : β → Bool) : ∀ l : List α, idx (fun x => p (f x)) l = idx p (l.map f)
  | [] => rfl
  | x :: xs => by simp only [List.map_cons, idx, idx_map f p xs]
theorem prm_cont (ps : List GParam) (n : Str) : decide (0 ≤ prmI ps n) = cont (ps.map GParam.fName) n := by
  rw [prmI, idx_map GParam.fName (fun x => x == n)]; rfl
theorem rights_le : ∀ d : List Tok, (rights d).length ≤ d.length
  | [] => by simp [rights]
  | .inl _ :: d => by have := rights_le d; simp only [rights, List.length_cons]; omega
  | .inr _ :: d => by have := rights_le d; simp only [rights, List.length_cons]; omega
theorem nmL_len (s : Str) : (nmL (tk s)).length ≤ s.length := by
  have h1 := tk_len s
  have h2 := rights_le (tk s).1
  unfold nmL
  cases (tk s).2
  · simp
  · simp only [cond_true]; omega
theorem drop_end {α : Type} {l : List α} {k : Nat} (h : ¬ k < l.length) : l.drop k = [] := List.drop_eq_nil_of_le (by omega)

theorem kc_le : ∀ l : List GNode, kc l ≤ wtg l
  | [] => by simp [kc]
  | .mk n v ks :: xs => by have := kc_le ks; have := kc_le xs; simp only [kc, wtg]; omega
theorem cnt_le (l : List GNode) : cnt l ≤ wt l := by have := kc_le l; unfold cnt wt; omega
theorem dep_le : ∀ l : List GNode, dep l ≤ wt l
  | [] => by simp [dep]
  | .mk n v ks :: xs => by
    have h1 := dep_le ks; have h2 := dep_le xs; simp only [dep, wt, wtg, List.length_cons] at *; omega
theorem dep_pos : ∀ l : List GNode, dep l = 0 ↔ l.length = 0
  | [] => by simp [dep]
  | .mk n v ks :: xs => by simp only [dep, List.length_cons]; omega
theorem l13g_le : ∀ (l : List GNode) (q : Int), l13g l q ≤ q
  | [], q => by simp [l13g]
  | .mk n v ks :: xs, q => by
    have h1 := l13g_le ks (q - ks.length)
    have h2 := l13g_le xs (l13g ks (q - ks.length))
    simp only [l13g]; split <;> omega
theorem l13g_neg (l : List GNode) {q : Int} (h : q < 0) : l13g l q = q := by
  cases l with
  | nil => rw [l13g]
  | cons x xs => cases x; simp only [l13g]; rw [if_pos h]
/-- what is left, if it is enough -/
theorem l13g_eq : ∀ (l : List GNode) (q : Int), 0 ≤ q → (0 ≤ l13g l q ↔ (kc l : Int) ≤ q) ∧ ((kc l : Int) ≤ q → l13g l q = q - kc l)
  | [], q, h => by simp only [l13g, kc]; omega
  | .mk n v ks :: xs, q, h => by
    simp only [l13g, kc]
    rw [if_neg (by omega)]
    rcases Int.lt_or_le (q - ks.length) 0 with h1 | h1
    · rw [l13g_neg ks h1, l13g_neg xs h1]
      constructor
      · omega
      · omega
    · have h2 := l13g_eq ks _ h1
      rcases Int.lt_or_le (l13g ks (q - ks.length)) 0 with h3 | h3
      · rw [l13g_neg xs h3]
        constructor
        · omega
        · omega
      · have h4 := l13g_eq xs _ h3
        have h5 := h2.2 (h2.1.1 h3)
        rw [h5] at h3 h4 ⊢
        constructor
        · omega
        · omega
theorem l13g_ge : ∀ (l : List GNode) (q : Int), -4611686018427387904 ≤ q → (wt l : Int) ≤ 1048576 → -4611686018427387904 ≤ l13g l q
  | [], q, h, _ => by simpa [l13g] using h
  | .mk n v ks :: xs, q, h, hw => by
    simp only [l13g]
    split
    · exact h
    · have e : (wt (.mk n v ks :: xs) : Nat) = (n.length + v.length + wt ks) + 1 + wt xs := by simp only [wt, wtg, List.length_cons]; omega
      have e2 : ks.length ≤ wt ks := by unfold wt; omega
      exact l13g_ge xs _ (l13g_ge ks _ (by omega) (by omega)) (by omega)
/-- the two forms of a tree agree -/
theorem lfr_eq : ∀ (l : List GNode) (d : Nat), 1 ≤ d → d ≤ 10 → lfr l d = (frm l && decide (d + dep l ≤ 11))
  | [], d, _, h => by simp [lfr, frm, dep]; omega
  | .mk n v ks :: xs, d, h0, h => by
    have h2 := lfr_eq xs d h0 h
    simp only [lfr, frm, dep]
    rw [h2]
    by_cases h3 : d + 1 ≤ 10
    · have h1 := lfr_eq ks (d + 1) (by omega) h3
      rw [h1]
      have e1 : decide (d + 1 ≤ 10) = true := by simpa using h3
      rw [e1, Bool.or_true, Bool.and_true]
      have e2 : decide (d + max (1 + dep ks) (dep xs) ≤ 11) = (decide (d + 1 + dep ks ≤ 11) && decide (d + dep xs ≤ 11)) := by
        rw [← Bool.decide_and]; exact decide_eq_decide.2 (by omega)
      rw [e2]
      cases nodeOk (.mk n v ks) <;> cases frm ks <;> cases frm xs <;> simp
    · have e1 : decide (d + 1 ≤ 10) = false := by simpa using h3
      rw [e1, Bool.or_false]
      have hd := dep_pos ks
      by_cases h4 : ks.length = 0
      · have h5 : ks = [] := List.length_eq_zero_iff.1 h4
        subst h5
        have e2 : decide (d + max (1 + dep []) (dep xs) ≤ 11) = decide (d + dep xs ≤ 11) := decide_eq_decide.2 (by simp only [dep]; omega)
        rw [e2]
        simp [lfr, frm]
        cases nodeOk (.mk n v []) <;> cases frm xs <;> simp
      · have e3 : (ks.length == 0) = false := by simpa using h4
        have e4 : decide (d + max (1 + dep ks) (dep xs) ≤ 11) = false := by simp only [decide_eq_false_iff_not]; omega
        rw [e3, e4]; simp
def isForm (l : List GNode) : Bool := decide (cnt l ≤ 120) && decide (dep l ≤ 10) && frm l
theorem isForm_spec (l : List GNode) : (decide (0 ≤ l13g l (120 - l.length)) && (lfr l 1 && (l.length == 0 || decide (1 ≤ 10)))) = isForm l := by
  rw [lfr_eq l 1 (by omega) (by omega)]
  have e1 : decide (0 ≤ l13g l (120 - l.length)) = decide (cnt l ≤ 120) := by
    apply decide_eq_decide.2
    unfold cnt
    rcases Int.lt_or_le (120 - (l.length : Int)) 0 with h | h
    · rw [l13g_neg l h]; omega
    · have := (l13g_eq l _ h).1; omega
  have e2 : decide (1 + dep l ≤ 11) = decide (dep l ≤ 10) := decide_eq_decide.2 (by omega)
  rw [e1, e2]
  simp [isForm]
  cases decide (cnt l ≤ 120) <;> cases frm l <;> simp
theorem thn_ge {a : Int} {k : Int → Int} (h : 0 ≤ thn a k) : 0 ≤ a ∧ thn a k = k a := by
  unfold thn at h ⊢
  split at h
  · omega
  · rw [if_neg (by assumption)]; exact ⟨by omega, rfl⟩
theorem wt_of_sz : ∀ (l : List GNode) (r : Int), 0 ≤ r → 0 ≤ szNodeGo l r → szNodeGo l r + wtg l = r
  | [], r, _, _ => by simp [szNodeGo, wtg]
  | .mk n v ks :: xs, r, h0, h => by
    rw [szNodeGo] at h ⊢
    have hx : ∀ q, 0 ≤ szNode (.mk n v ks) q → 0 ≤ q → szNode (.mk n v ks) q + (n.length + v.length + ks.length + wtg ks : Nat) = q := by
      intro q hq h0
      rw [szNode] at hq ⊢
      obtain ⟨h1, e1⟩ := thn_ge hq
      rw [e1] at hq ⊢
      obtain ⟨h2, e2⟩ := thn_ge hq
      rw [e2] at hq ⊢
      obtain ⟨h3, e3⟩ := thn_ge hq
      rw [e3] at hq ⊢
      simp only [id] at h3 ⊢
      obtain ⟨h4, e4⟩ := thn_ge h3
      rw [e4] at h3 ⊢
      have := wt_of_sz ks _ h4 h3
      unfold szStr at *
      omega
    obtain ⟨h1, e1⟩ := thn_ge h
    rw [e1] at h ⊢
    have h3 := hx r h1 h0
    have h2 := wt_of_sz xs _ h1 h
    rw [wtg]
    omega
theorem wt_fit {l : List GNode} {r : Int} (h0 : 0 ≤ r) (h : 0 ≤ szSl szNode l r) : (wt l : Int) ≤ r := by
  rcases Int.lt_or_le (r - l.length) 0 with h2 | h2
  · rw [szSl_neg h2] at h; omega
  · rw [szSl_pos h2, ← szNodeGo_eq] at h
    have := wt_of_sz l _ h2 h
    unfold wt; omega

/-- is it a type; ip: is it a pattern -/
def isType (ip : Str → Bool) (x : GType) : Bool :=
  (decide (x.fKind = 1) && areRanges x.fRanges && x.fNames.isEmpty && x.fPattern.isEmpty && x.fPath.isEmpty) ||
  (decide (x.fKind = 2) && areRanges x.fRanges && (x.fRanges.isEmpty || decide (0 ≤ (at_ x.fRanges 0).fLo)) && (x.fPattern.isEmpty || ip x.fPattern) && x.fNames.isEmpty && x.fPath.isEmpty) ||
  (decide (x.fKind = 4) && decide (1 ≤ x.fNames.length) && decide (x.fNames.length ≤ 6) && names x.fNames && diffs x.fNames && x.fRanges.isEmpty && x.fPattern.isEmpty && x.fPath.isEmpty) ||
  (decide (x.fKind = 5) && isText x.fPath && !x.fPath.isEmpty && x.fRanges.isEmpty && x.fNames.isEmpty && x.fPattern.isEmpty) ||
  (decide (x.fKind = 3 ∨ x.fKind = 6) && x.fRanges.isEmpty && x.fNames.isEmpty && x.fPattern.isEmpty && x.fPath.isEmpty)

section
variable {ip : Str → Bool} {x : GType}
theorem isType_k1 (h : x.fKind = 1) : isType ip x = (areRanges x.fRanges && x.fNames.isEmpty && x.fPattern.isEmpty && x.fPath.isEmpty) := by simp [isType, h]
theorem isType_k2 (h : x.fKind = 2) : isType ip x = (areRanges x.fRanges && (x.fRanges.isEmpty || decide (0 ≤ (at_ x.fRanges 0).fLo)) && (x.fPattern.isEmpty || ip x.fPattern) && x.fNames.isEmpty && x.fPath.isEmpty) := by simp [isType, h]
theorem isType_k4 (h : x.fKind = 4) : isType ip x = (decide (1 ≤ x.fNames.length) && decide (x.fNames.length ≤ 6) && names x.fNames && diffs x.fNames && x.fRanges.isEmpty && x.fPattern.isEmpty && x.fPath.isEmpty) := by simp [isType, h]
theorem isType_k5 (h : x.fKind = 5) : isType ip x = (isText x.fPath && !x.fPath.isEmpty && x.fRanges.isEmpty && x.fNames.isEmpty && x.fPattern.isEmpty) := by simp [isType, h]
theorem isType_kz (h1 : ¬ x.fKind = 1) (h2 : ¬ x.fKind = 2) (h4 : ¬ x.fKind = 4) (h5 : ¬ x.fKind = 5) : isType ip x = (decide (x.fKind = 3 ∨ x.fKind = 6) && x.fRanges.isEmpty && x.fNames.isEmpty && x.fPattern.isEmpty && x.fPath.isEmpty) := by simp [isType, h1, h2, h4, h5]
theorem isType_no (h : (((¬x.fKind = 1 ∧ ¬x.fKind = 2) ∧ ¬x.fRanges = [] ∨ ¬x.fKind = 4 ∧ ¬x.fNames = []) ∨ ¬x.fKind = 2 ∧ ¬x.fPattern = []) ∨ ¬x.fKind = 5 ∧ ¬x.fPath = []) : isType ip x = false := by
  by_cases h1 : x.fKind = 1
  · rw [isType_k1 h1]; simp [h1] at h
    rcases h with (h | h) | h <;> simp [h]
  by_cases h2 : x.fKind = 2
  · rw [isType_k2 h2]; simp [h2] at h
    rcases h with h | h <;> simp [h]
  by_cases h4 : x.fKind = 4
  · rw [isType_k4 h4]; simp [h4] at h
    rcases h with (h | h) | h <;> simp [h]
  by_cases h5 : x.fKind = 5
  · rw [isType_k5 h5]; simp [h5] at h
    rcases h with (h | h) | h <;> simp [h]
  · rw [isType_kz h1 h2 h4 h5]; simp [h1, h2, h4, h5] at h
    rcases h with ((h | h) | h) | h <;> simp [h]
end

section
variable {ip : Str → Bool} {x : GType}
theorem nil_of {α : Type} {l : List α} (h : (l.length : Int) ≤ 0) : l = [] := List.length_eq_zero_iff.1 (by omega)
theorem isE0 {α : Type} (l : List α) : ((l.length : Int) == 0) = l.isEmpty := by cases l <;> simp <;> omega
theorem isEn {α : Type} [BEq α] (l : List α) : (l == []) = l.isEmpty := by cases l <;> rfl
theorem isType_w0 (h : (((¬x.fKind = 1 ∧ ¬x.fKind = 2) ∧ (0 : Int) < x.fRanges.length ∨ ¬x.fKind = 4 ∧ (0 : Int) < x.fNames.length) ∨ ¬x.fKind = 2 ∧ ¬x.fPattern = []) ∨ ¬x.fKind = 5 ∧ ¬x.fPath = []) : false = isType ip x := by
  have e3 : (0 : Int) < x.fRanges.length ↔ ¬ x.fRanges = [] := by rw [← List.length_eq_zero_iff]; omega
  have e4 : (0 : Int) < x.fNames.length ↔ ¬ x.fNames = [] := by rw [← List.length_eq_zero_iff]; omega
  rw [e3, e4] at h
  exact (isType_no h).symm
section
variable (H : (((¬x.fKind = 1 ∧ ¬x.fKind = 2 → (x.fRanges.length : Int) ≤ 0) ∧ (¬x.fKind = 4 → (x.fNames.length : Int) ≤ 0)) ∧ (¬x.fKind = 2 → x.fPattern = [])) ∧ (¬x.fKind = 5 → x.fPath = []))
include H
theorem isType_w1 (h : x.fKind = 1) : areRanges x.fRanges = isType ip x := by
  rw [isType_k1 h, nil_of (H.1.1.2 (by omega)), H.1.2 (by omega), H.2 (by omega)]; simp
theorem isType_w2 (h : x.fKind = 2) : (areRanges x.fRanges && ((x.fRanges.length : Int) == 0 || decide (0 ≤ (at_ x.fRanges 0).fLo)) && (x.fPattern == [] || ip x.fPattern)) = isType ip x := by
  rw [isType_k2 h, nil_of (H.1.1.2 (by omega)), H.2 (by omega), isE0, isEn]; simp
theorem isType_w4 (h : x.fKind = 4) : (decide ((1 : Int) ≤ x.fNames.length) && decide ((x.fNames.length : Int) ≤ 6) && names x.fNames && diffs x.fNames) = isType ip x := by
  rw [isType_k4 h, nil_of (H.1.1.1 (by omega)), H.1.2 (by omega), H.2 (by omega)]
  rw [show decide ((1 : Int) ≤ x.fNames.length) = decide (1 ≤ x.fNames.length) from decide_eq_decide.2 (by omega), show decide ((x.fNames.length : Int) ≤ 6) = decide (x.fNames.length ≤ 6) from decide_eq_decide.2 (by omega)]
  simp
theorem isType_w5 (h : x.fKind = 5) : (!x.fPath == [] && isText x.fPath) = isType ip x := by
  rw [isType_k5 h, nil_of (H.1.1.1 (by omega)), nil_of (H.1.1.2 (by omega)), H.1.2 (by omega), isEn]
  cases x.fPath.isEmpty <;> simp
theorem isType_wz (h1 : ¬ x.fKind = 1) (h2 : ¬ x.fKind = 2) (h4 : ¬ x.fKind = 4) (h5 : ¬ x.fKind = 5) : (x.fKind == 3 || x.fKind == 6) = isType ip x := by
  rw [isType_kz h1 h2 h4 h5, nil_of (H.1.1.1 (by omega)), nil_of (H.1.1.2 (by omega)), H.1.2 (by omega), H.2 (by omega)]
  by_cases h3 : x.fKind = 3 <;> by_cases h6 : x.fKind = 6 <;> simp [h3, h6]
end
end

theorem isEp {α : Type} (l : List α) : (!decide ((0 : Int) < l.length)) = l.isEmpty := by
  cases l with
  | nil => rfl
  | cons x xs => simp
theorem idx_mem (s : Str) : ∀ l : List Str, 0 ≤ idx (fun x => x == s) l ↔ s ∈ l
  | [] => by simp [idx]
  | x :: xs => by
    have ih := idx_mem s xs
    have h0 := idx_ge (fun x => x == s) xs
    by_cases e : x = s
    · subst e; simp [idx]
    · have e' : (x == s) = false := by simpa using e
      have e'' : ¬ s = x := fun h => e h.symm
      simp only [idx, e', Bool.false_eq_true, if_false, List.mem_cons, e'', false_or, ← ih]
      split <;> omega
theorem cont_iff (l : List Str) (s : Str) : cont l s = true ↔ s ∈ l := by
  unfold cont
  rw [decide_eq_true_eq, idx_mem]
theorem at_take {α : Type} [Inhabited α] {l : List α} {j k : Nat} (h : j < k) : at_ (l.take k) j = at_ l j := by unfold at_; rw [List.getElem?_take, if_pos h]
theorem cont_dup {l : List Str} {j k : Nat} (hj : j < k) (hk : k < l.length) (h : at_ l j = at_ l k) : cont (l.take k) (at_ l k) = true := by
  rw [cont_iff, ← h]
  have : (l.take k)[j]? = some (at_ l j) := by rw [List.getElem?_take, if_pos hj]; exact at_get (by omega)
  exact List.mem_of_getElem? this
theorem cont_free {l : List Str} {k : Nat} {s : Str} (h : ∀ y ∈ l.take k, (y == s) = false) : cont (l.take k) s = false := by
  rw [Bool.eq_false_iff]
  intro hc
  have := h s ((cont_iff _ _).1 hc)
  simp at this
section
variable {ip : Str → Bool} {x : GType}
theorem isType_bad {k : Nat} (hk : k < x.fNames.length) (h : names x.fNames = false ∨ diffs x.fNames = false) : false = isType ip x := by
  have e : x.fNames.isEmpty = false := by cases hx : x.fNames with | nil => rw [hx] at hk; simp at hk | cons a b => rfl
  unfold isType
  rw [e]
  rcases h with h | h <;> simp [h]
theorem isType_v1 (h : x.fKind = 1) : (areRanges x.fRanges && !decide ((0 : Int) < x.fNames.length) && x.fPattern == [] && x.fPath == []) = isType ip x := by
  rw [isType_k1 h, isEp, isEn, isEn]
theorem isType_v2 (h : x.fKind = 2) : (areRanges x.fRanges && (!decide ((0 : Int) < x.fRanges.length) || decide (0 ≤ (at_ x.fRanges 0).fLo)) && (x.fPattern == [] || ip x.fPattern) && !decide ((0 : Int) < x.fNames.length) && x.fPath == []) = isType ip x := by
  rw [isType_k2 h, isEp, isEp, isEn, isEn]
theorem isType_v4 (h : x.fKind = 4) (h1 : names x.fNames = true) (h2 : diffs x.fNames = true) : (decide ((1 : Int) ≤ x.fNames.length) && decide ((x.fNames.length : Int) ≤ 6) && !decide ((0 : Int) < x.fRanges.length) && x.fPattern == [] && x.fPath == []) = isType ip x := by
  rw [isType_k4 h, isEp, isEn, isEn, h1, h2, Bool.and_true, Bool.and_true]
  rw [show decide ((1 : Int) ≤ x.fNames.length) = decide (1 ≤ x.fNames.length) from decide_eq_decide.2 (by omega), show decide ((x.fNames.length : Int) ≤ 6) = decide (x.fNames.length ≤ 6) from decide_eq_decide.2 (by omega)]
theorem isType_v5 (h : x.fKind = 5) : (isText x.fPath && !x.fPath == [] && !decide ((0 : Int) < x.fRanges.length) && !decide ((0 : Int) < x.fNames.length) && x.fPattern == []) = isType ip x := by
  rw [isType_k5 h, isEp, isEp, isEn, isEn]
theorem isType_v3 (h1 : ¬ x.fKind = 1) (h2 : ¬ x.fKind = 2) (h4 : ¬ x.fKind = 4) (h5 : ¬ x.fKind = 5) (h : x.fKind = 3 ∨ x.fKind = 6) : (!decide ((0 : Int) < x.fRanges.length) && !decide ((0 : Int) < x.fNames.length) && x.fPattern == [] && x.fPath == []) = isType ip x := by
  rw [isType_kz h1 h2 h4 h5, isEp, isEp, isEn, isEn, show decide (x.fKind = 3 ∨ x.fKind = 6) = true by simpa using h, Bool.true_and]
theorem isType_vz (h1 : ¬ x.fKind = 1) (h2 : ¬ x.fKind = 2) (h4 : ¬ x.fKind = 4) (h5 : ¬ x.fKind = 5) (h3 : ¬ x.fKind = 3) (h6 : ¬ x.fKind = 6) : false = isType ip x := by
  rw [isType_kz h1 h2 h4 h5, show decide (x.fKind = 3 ∨ x.fKind = 6) = false by simp [h3, h6]]; rfl
end

def prmOk (ip : Str → Bool) (l : List GParam) (j : Nat) : Bool := isName (at_ l j).fName && isType ip (at_ l j).fType
/-- is it a template -/
def isTemplate (ip : Str → Bool) (x : GTemplate) : Bool := allTo (prmOk ip x.fParams) x.fParams.length && diffs (x.fParams.map GParam.fName) && isName x.fName && decide (x.fParams.length ≤ 6) && isForm x.fBody && bodyOk (x.fParams.map GParam.fName) x.fBody

theorem at_map {α β : Type} [Inhabited α] [Inhabited β] (f : α → β) {l : List α} {k : Nat} (h : k < l.length) : at_ (l.map f) k = f (at_ l k) := by
  unfold at_; rw [List.getElem?_map, List.getElem?_eq_getElem h]; rfl
theorem prm_first {l : List GParam} {k : Nat} (hk : k < l.length) : prmI l (at_ l k).fName = k ↔ cont ((l.map GParam.fName).take k) (at_ (l.map GParam.fName) k) = false := by
  have hk' : k < (l.map GParam.fName).length := by simpa using hk
  rw [at_map GParam.fName hk, prmI, idx_map GParam.fName (fun x => x == (at_ l k).fName)]
  have hself : ((at_ (l.map GParam.fName) k) == (at_ l k).fName) = true := by rw [at_map GParam.fName hk]; simp
  constructor
  · intro h
    rw [Bool.eq_false_iff]
    intro hc
    have hm := (cont_iff _ _).1 hc
    obtain ⟨j, hj, e⟩ := List.getElem_of_mem hm
    rw [List.length_take] at hj
    have e2 : at_ (l.map GParam.fName) j = (at_ l k).fName := by
      unfold at_
      rw [List.getElem_take] at e
      rw [List.getElem?_eq_getElem (by omega), e]; rfl
    have hle : ∀ (m : List Str) (j : Nat), j < m.length → at_ m j = (at_ l k).fName → idx (fun x => x == (at_ l k).fName) m ≤ j := by
      intro m
      induction m with
      | nil => intro j h; simp at h
      | cons y ys ih =>
        intro j hj he
        simp only [idx]
        split
        · omega
        · cases j with
          | zero => rename_i hn; simp [at_] at he; simp [he] at hn; simp [at_] at hn
          | succ j =>
            have := ih j (by simpa using hj) (by simpa [at_] using he)
            split
            · omega
            · omega
    have := hle _ j (by omega) e2
    omega
  · intro h
    refine idx_at' hk' (fun y hy => ?_) hself
    rw [beq_eq_false_iff_ne]
    intro e
    rw [e] at hy
    rw [(cont_iff _ _).2 hy] at h
    cases h
theorem isTemplate_no {ip : Str → Bool} {x : GTemplate} {k : Nat} (hk : k < x.fParams.length) (h : prmOk ip x.fParams k = false) : isTemplate ip x = false := by
  unfold isTemplate; rw [allTo_false hk h]; rfl
theorem isTemplate_dup {ip : Str → Bool} {x : GTemplate} {k : Nat} (hk : k < x.fParams.length) (h : cont ((x.fParams.map GParam.fName).take k) (at_ (x.fParams.map GParam.fName) k) = true) : isTemplate ip x = false := by
  unfold isTemplate
  rw [show diffs (x.fParams.map GParam.fName) = false from allTo_false (by simpa using hk) (by simp [h])]
  simp
end Go.Dt
namespace Go.Proofs.Ytkdchlggdcmkbaa
open Go.Ab Go.Dt
set_option maxRecDepth 20000
set_option maxHeartbeats 2000000

theorem iCountTree_n (L : Nat → Nat) [hL : Lok L] : ∀ (n : Nat) (l : List GNode), Ctr L Try.prog 133 [] [.sl false 3 (l.map (encNode false))] (.v (.int .i64 (cnt l))) [] (wt l < n ∧ n ≤ 1048577)
  | 0, l => ⟨en133, fun h => absurd h.1 (Nat.not_lt_zero _)⟩
  | n + 1, l => by
    have ih := iCountTree_n L n
    refine Ctr.of_body en133 Try.func133 rfl rfl fun hp => (?_); rw [Try.ntmps133]
    have hc := cnt_le l
    have hl : l.length ≤ wt l := by unfold wt; omega
    (repeat' (first | (with_reducible first | refine Z ?_ | refine Y ?_ | (refine hK _ _ ?_; clear hK K) | exact trivial | refine And.intro ?_ ?_) | (refine AW.i rfl (fun h => ?_) (fun h => ?_) <;> try simp only [hC, reduceCtorEq] at h) | with_reducible rfl | with_reducible refine E ?_ | refine eF rfl ?_ | (with_reducible refine fun (K : _ → _ → Prop) hK => ?_) | (with_reducible show drawOK _ _ = true; kernel_rfl) | (with_reducible refine gI fun hg => ?_; try simp only [hC, reduceCtorEq] at hg; try simp only [hg]) | simp (maxSteps := 2000000) (disch := omega) only [go_sem] | (with_reducible intro hg; try simp only [hC, reduceCtorEq] at hg) | (with_reducible show List.Nodup _; decide) | (with_reducible show (_ : Bool) = false; first | rfl | (simp [*]; done)) | with_reducible exact at8_le _ _ | with_reducible exact at8_ge _ _ | (simp only [hC, reduceCtorEq]; omega) | omega | with_reducible assumption | (with_reducible show (_ : Bool) = true; first | (simp [*]; done) | (simp only [hC, reduceCtorEq]; (repeat' (first | assumption | apply And.intro)); done))))
    refine AW.loopV [3, 10] [0, 8, 9] (fun m xs o => ∃ k q : Nat, xs = [.v (.int .i64 q), .v (.int .i64 k)] ∧ o = [] ∧ m = l.length - k ∧ k ≤ l.length ∧ q + kc (l.drop k) = cnt l) l.length [] trivial ⟨0, l.length, ?_, rfl, rfl, ?_, rfl⟩ ?_
    · rfl
    · omega
    rintro m xs o ⟨k, q, rfl, rfl, rfl, hk, hR⟩
    have h1 : k < l.length → _ := wt_kid (l := l) (k := k)
    have h2 : k < l.length → _ := kc_at (l := l) (k := k)
    have h3 : cnt (at_ l k).fKids = (at_ l k).fKids.length + kc (at_ l k).fKids := rfl
    (repeat' (first | (with_reducible first | refine Z ?_ | refine Y ?_ | (refine hK _ _ ?_; clear hK K) | exact trivial | refine And.intro ?_ ?_) | (refine AW.i rfl (fun h => ?_) (fun h => ?_) <;> try simp only [hC, reduceCtorEq] at h) | with_reducible rfl | with_reducible refine E ?_ | refine eF rfl ?_ | (with_reducible refine fun (K : _ → _ → Prop) hK => ?_) | (with_reducible show drawOK _ _ = true; kernel_rfl) | (with_reducible refine gI fun hg => ?_; try simp only [hC, reduceCtorEq] at hg; try simp only [hg]) | simp (maxSteps := 2000000) (disch := omega) only [go_sem] | (with_reducible intro hg; try simp only [hC, reduceCtorEq] at hg) | (with_reducible show List.Nodup _; decide) | (with_reducible show (_ : Bool) = false; first | rfl | (simp [*]; done)) | with_reducible exact at8_le _ _ | with_reducible exact at8_ge _ _ | (simp only [hC, reduceCtorEq]; omega) | omega | with_reducible assumption | (with_reducible show (_ : Bool) = true; first | (simp [*]; done) | (simp only [hC, reduceCtorEq]; (repeat' (first | assumption | apply And.intro)); done))))
    · exact ⟨_, [_, _], [], by omega, ⟨k + 1, q + cnt (at_ l k).fKids, rfl, rfl, rfl, by omega, by omega⟩, rfl, trivial⟩
    · rw [drop_end h, kc] at hR; rw [← hR, Nat.add_zero]
theorem itreeDepth_n (L : Nat → Nat) [hL : Lok L] : ∀ (n : Nat) (l : List GNode), Ctr L Try.prog 134 [] [.sl false 3 (l.map (encNode false))] (.v (.int .i64 (dep l))) [] (wt l < n ∧ n ≤ 1048577)
  | 0, l => ⟨en134, fun h => absurd h.1 (Nat.not_lt_zero _)⟩
  | n + 1, l => by
    have ih := itreeDepth_n L n
    refine Ctr.of_body en134 Try.func134 rfl rfl fun hp => (?_); rw [Try.ntmps134]
    have hc := dep_le l
    have hl : l.length ≤ wt l := by unfold wt; omega
    (repeat' (first | (with_reducible first | refine Z ?_ | refine Y ?_ | (refine hK _ _ ?_; clear hK K) | exact trivial | refine And.intro ?_ ?_) | (refine AW.i rfl (fun h => ?_) (fun h => ?_) <;> try simp only [hC, reduceCtorEq] at h) | with_reducible rfl | with_reducible refine E ?_ | refine eF rfl ?_ | (with_reducible refine fun (K : _ → _ → Prop) hK => ?_) | (with_reducible show drawOK _ _ = true; kernel_rfl) | (with_reducible refine gI fun hg => ?_; try simp only [hC, reduceCtorEq] at hg; try simp only [hg]) | simp (maxSteps := 2000000) (disch := omega) only [go_sem] | (with_reducible intro hg; try simp only [hC, reduceCtorEq] at hg) | (with_reducible show List.Nodup _; decide) | (with_reducible show (_ : Bool) = false; first | rfl | (simp [*]; done)) | with_reducible exact at8_le _ _ | with_reducible exact at8_ge _ _ | (simp only [hC, reduceCtorEq]; omega) | omega | with_reducible assumption | (with_reducible show (_ : Bool) = true; first | (simp [*]; done) | (simp only [hC, reduceCtorEq]; (repeat' (first | assumption | apply And.intro)); done))))
    refine AW.loopV [3, 8] [0, 6, 7] (fun m xs o => ∃ k q : Nat, xs = [.v (.int .i64 q), .v (.int .i64 k)] ∧ o = [] ∧ m = l.length - k ∧ k ≤ l.length ∧ max q (dep (l.drop k)) = dep l) l.length [] trivial ⟨0, 0, ?_, rfl, rfl, ?_, ?_⟩ ?_
    · rfl
    · omega
    · simp
    rintro m xs o ⟨k, q, rfl, rfl, rfl, hk, hR⟩
    have h1 : k < l.length → _ := wt_kid (l := l) (k := k)
    have h2 : k < l.length → _ := dep_at (l := l) (k := k)
    (repeat' (first | (with_reducible first | refine Z ?_ | refine Y ?_ | (refine hK _ _ ?_; clear hK K) | exact trivial | refine And.intro ?_ ?_) | (refine AW.i rfl (fun h => ?_) (fun h => ?_) <;> try simp only [hC, reduceCtorEq] at h) | with_reducible rfl | with_reducible refine E ?_ | refine eF rfl ?_ | (with_reducible refine fun (K : _ → _ → Prop) hK => ?_) | (with_reducible show drawOK _ _ = true; kernel_rfl) | (with_reducible refine gI fun hg => ?_; try simp only [hC, reduceCtorEq] at hg; try simp only [hg]) | simp (maxSteps := 2000000) (disch := omega) only [go_sem] | (with_reducible intro hg; try simp only [hC, reduceCtorEq] at hg) | (with_reducible show List.Nodup _; decide) | (with_reducible show (_ : Bool) = false; first | rfl | (simp [*]; done)) | with_reducible exact at8_le _ _ | with_reducible exact at8_ge _ _ | (simp only [hC, reduceCtorEq]; omega) | omega | with_reducible assumption | (with_reducible show (_ : Bool) = true; first | (simp [*]; done) | (simp only [hC, reduceCtorEq]; (repeat' (first | assumption | apply And.intro)); done))))
    · refine ⟨_, [_, _], [], by omega, ⟨k + 1, max q (1 + dep (at_ l k).fKids), ?_, rfl, rfl, by omega, by omega⟩, rfl, trivial⟩
      refine congrArg (fun z => [AV.v (.int .i64 z), _]) ?_
      split <;> omega
    · rw [drop_end h, dep] at hR; rw [← hR, Nat.max_zero]
theorem iisForm_n (L : Nat → Nat) [hL : Lok L] : ∀ (n : Nat) (l : List GNode), Ctr L Try.prog 135 [] [.sl false 3 (l.map (encNode false))] (.v (.bool (frm l))) [] (wt l < n ∧ n ≤ 1048577)
  | 0, l => ⟨en135, fun h => absurd h.1 (Nat.not_lt_zero _)⟩
  | n + 1, l => by
    have ih := iisForm_n L n
    refine Ctr.of_body en135 Try.func135 rfl rfl fun hp => (?_); rw [Try.ntmps135]
    have hl : l.length ≤ wt l := by unfold wt; omega
    (repeat' (first | (with_reducible first | refine Z ?_ | refine Y ?_ | (refine hK _ _ ?_; clear hK K) | exact trivial | refine And.intro ?_ ?_) | (refine AW.i rfl (fun h => ?_) (fun h => ?_) <;> try simp only [hC, reduceCtorEq] at h) | with_reducible rfl | with_reducible refine E ?_ | refine eF rfl ?_ | (with_reducible refine fun (K : _ → _ → Prop) hK => ?_) | (with_reducible show drawOK _ _ = true; kernel_rfl) | (with_reducible refine gI fun hg => ?_; try simp only [hC, reduceCtorEq] at hg; try simp only [hg]) | simp (maxSteps := 2000000) (disch := omega) only [go_sem] | (with_reducible intro hg; try simp only [hC, reduceCtorEq] at hg) | (with_reducible show List.Nodup _; decide) | (with_reducible show (_ : Bool) = false; first | rfl | (simp [*]; done)) | with_reducible exact at8_le _ _ | with_reducible exact at8_ge _ _ | (simp only [hC, reduceCtorEq]; omega) | omega | with_reducible assumption | (with_reducible show (_ : Bool) = true; first | (simp [*]; done) | (simp only [hC, reduceCtorEq]; (repeat' (first | assumption | apply And.intro)); done))))
    refine AW.loopV [7] [0, 5, 6] (fun m xs o => ∃ k : Nat, xs = [.v (.int .i64 k)] ∧ o = [] ∧ m = l.length - k ∧ k ≤ l.length ∧ frm (l.drop k) = frm l) l.length [] trivial ⟨0, ?_, rfl, rfl, ?_, rfl⟩ ?_
    · rfl
    · omega
    rintro m xs o ⟨k, rfl, rfl, rfl, hk, hR⟩
    have h1 : k < l.length → _ := wt_kid (l := l) (k := k)
    (repeat' (first | (with_reducible first | refine Z ?_ | refine Y ?_ | (refine hK _ _ ?_; clear hK K) | exact trivial | refine And.intro ?_ ?_) | (refine AW.i rfl (fun h => ?_) (fun h => ?_) <;> try simp only [hC, reduceCtorEq] at h) | with_reducible rfl | with_reducible refine E ?_ | refine eF rfl ?_ | (with_reducible refine fun (K : _ → _ → Prop) hK => ?_) | (with_reducible show drawOK _ _ = true; kernel_rfl) | (with_reducible refine gI fun hg => ?_; try simp only [hC, reduceCtorEq] at hg; try simp only [hg]) | simp (maxSteps := 2000000) (disch := omega) only [go_sem] | (with_reducible intro hg; try simp only [hC, reduceCtorEq] at hg) | (with_reducible show List.Nodup _; decide) | (with_reducible show (_ : Bool) = false; first | rfl | (simp [*]; done)) | with_reducible exact at8_le _ _ | with_reducible exact at8_ge _ _ | (simp only [hC, reduceCtorEq]; omega) | omega | with_reducible assumption | (with_reducible show (_ : Bool) = true; first | (simp [*]; done) | (simp only [hC, reduceCtorEq]; (repeat' (first | assumption | apply And.intro)); done))))
    · rw [← hR, frm_at (l := l) (k := k) (by assumption)]
      rcases h with h | h
      · rw [nodeOk_no h]; rfl
      · rw [h, Bool.and_false]; rfl
    · exact ⟨_, [_], [], by omega, ⟨k + 1, rfl, rfl, rfl, by omega, by rw [← hR, frm_at (l := l) (k := k) (by assumption), nodeOk_yes h.1, h.2]; rfl⟩, rfl, trivial⟩
    · rw [← hR, drop_end h, frm]
theorem sl20Form_n (L : Nat → Nat) [hL : Lok L] : ∀ (n : Nat) (l : List GNode) (d : Nat), Ctr L Try.prog 125 [] [.sl false 3 (l.map (encNode false)), .v (.int .i64 d)] (.v (.bool (lfr l d && (l.length == 0 || decide (d ≤ 10))))) [] (wt l < n ∧ n + d ≤ 1048579)
  | 0, l, d => ⟨en125, fun h => absurd h.1 (Nat.not_lt_zero _)⟩
  | n + 1, l, d => by
    have ih := sl20Form_n L n
    refine Ctr.of_body en125 Try.func125 rfl rfl fun hp => (?_); rw [Try.ntmps125]
    have hl : l.length ≤ wt l := by unfold wt; omega
    (repeat' (first | (with_reducible first | refine Z ?_ | refine Y ?_ | (refine hK _ _ ?_; clear hK K) | exact trivial | refine And.intro ?_ ?_) | (refine AW.i rfl (fun h => ?_) (fun h => ?_) <;> try simp only [hC, reduceCtorEq] at h) | with_reducible rfl | with_reducible refine E ?_ | refine eF rfl ?_ | (with_reducible refine fun (K : _ → _ → Prop) hK => ?_) | (with_reducible show drawOK _ _ = true; kernel_rfl) | (with_reducible refine gI fun hg => ?_; try simp only [hC, reduceCtorEq] at hg; try simp only [hg]) | simp (maxSteps := 2000000) (disch := omega) only [go_sem] | (with_reducible intro hg; try simp only [hC, reduceCtorEq] at hg) | (with_reducible show List.Nodup _; decide) | (with_reducible show (_ : Bool) = false; first | rfl | (simp [*]; done)) | with_reducible exact at8_le _ _ | with_reducible exact at8_ge _ _ | (simp only [hC, reduceCtorEq]; omega) | omega | with_reducible assumption | (with_reducible show (_ : Bool) = true; first | (simp [*]; done) | (simp only [hC, reduceCtorEq]; (repeat' (first | assumption | apply And.intro)); done))))
    refine AW.loopV [5] [0, 1] (fun m xs o => ∃ k : Nat, xs = [.v (.int .i64 k)] ∧ o = [] ∧ m = l.length - k ∧ k ≤ l.length ∧ lfr (l.drop k) d = lfr l d) l.length [] trivial ⟨0, ?_, rfl, rfl, ?_, rfl⟩ ?_
    · rfl
    · omega
    rintro m xs o ⟨k, rfl, rfl, rfl, hk, hR⟩
    have h1 : k < l.length → _ := wt_kid (l := l) (k := k)
    (repeat' (first | (with_reducible first | refine Z ?_ | refine Y ?_ | (refine hK _ _ ?_; clear hK K) | exact trivial | refine And.intro ?_ ?_) | (refine AW.i rfl (fun h => ?_) (fun h => ?_) <;> try simp only [hC, reduceCtorEq] at h) | with_reducible rfl | with_reducible refine E ?_ | refine eF rfl ?_ | (with_reducible refine fun (K : _ → _ → Prop) hK => ?_) | (with_reducible show drawOK _ _ = true; kernel_rfl) | (with_reducible refine gI fun hg => ?_; try simp only [hC, reduceCtorEq] at hg; try simp only [hg]) | simp (maxSteps := 2000000) (disch := omega) only [go_sem] | (with_reducible intro hg; try simp only [hC, reduceCtorEq] at hg) | (with_reducible show List.Nodup _; decide) | (with_reducible show (_ : Bool) = false; first | rfl | (simp [*]; done)) | with_reducible exact at8_le _ _ | with_reducible exact at8_ge _ _ | (simp only [hC, reduceCtorEq]; omega) | omega | with_reducible assumption | (with_reducible show (_ : Bool) = true; first | (simp [*]; done) | (simp only [hC, reduceCtorEq]; (repeat' (first | assumption | apply And.intro)); done))))
    · rw [← hR, lfr_at (l := l) (k := k) (by assumption)]
      rcases h with h | h
      · rw [nodeOk_no h]; rfl
      · have : (lfr (at_ l k).fKids (d + 1) && ((at_ l k).fKids.length == 0 || decide (d + 1 ≤ 10))) = false := by
          cases e : lfr (at_ l k).fKids (d + 1) with
          | false => rfl
          | true =>
            have h5 := h e
            have e1 : ((at_ l k).fKids.length == 0) = false := by simpa using h5.1
            have e2 : decide (d + 1 ≤ 10) = false := by simp only [decide_eq_false_iff_not]; omega
            rw [e1, e2]; rfl
        rw [this, Bool.and_false]; rfl
    · refine ⟨_, [_], [], by omega, ⟨k + 1, rfl, rfl, rfl, by omega, ?_⟩, rfl, trivial⟩
      rw [← hR, lfr_at (l := l) (k := k) (by assumption), nodeOk_yes h.1, h.2.1]
      have : ((at_ l k).fKids.length == 0 || decide (d + 1 ≤ 10)) = true := by rw [Bool.or_eq_true, beq_iff_eq, decide_eq_true_eq]; omega
      rw [this]; rfl
    · rw [← hR, drop_end h, lfr, Bool.true_and]
      refine congrArg (fun z => AV.v (.bool z)) ?_
      congr 1
      · exact Bool.eq_iff_iff.2 (by simp)
      · exact decide_eq_decide.2 (by omega)
theorem sl13Left_n (L : Nat → Nat) [hL : Lok L] : ∀ (n : Nat) (l : List GNode) (r : Int), Ctr L Try.prog 124 [] [.sl false 3 (l.map (encNode false)), .v (.int .i64 r)] (.v (.int .i64 (l13g l (r - l.length)))) [] (wt l < n ∧ n ≤ 1048577 ∧ 0 ≤ r ∧ r ≤ 1048576)
  | 0, l, r => ⟨en124, fun h => absurd h.1 (Nat.not_lt_zero _)⟩
  | n + 1, l, r => by
    have ih := sl13Left_n L n
    refine Ctr.of_body en124 Try.func124 rfl rfl fun hp => (?_); rw [Try.ntmps124]
    have hl : l.length ≤ wt l := by unfold wt; omega
    (repeat' (first | (with_reducible first | refine Z ?_ | refine Y ?_ | (refine hK _ _ ?_; clear hK K) | exact trivial | refine And.intro ?_ ?_) | (refine AW.i rfl (fun h => ?_) (fun h => ?_) <;> try simp only [hC, reduceCtorEq] at h) | with_reducible rfl | with_reducible refine E ?_ | refine eF rfl ?_ | (with_reducible refine fun (K : _ → _ → Prop) hK => ?_) | (with_reducible show drawOK _ _ = true; kernel_rfl) | (with_reducible refine gI fun hg => ?_; try simp only [hC, reduceCtorEq] at hg; try simp only [hg]) | simp (maxSteps := 2000000) (disch := omega) only [go_sem] | (with_reducible intro hg; try simp only [hC, reduceCtorEq] at hg) | (with_reducible show List.Nodup _; decide) | (with_reducible show (_ : Bool) = false; first | rfl | (simp [*]; done)) | with_reducible exact at8_le _ _ | with_reducible exact at8_ge _ _ | (simp only [hC, reduceCtorEq]; omega) | omega | with_reducible assumption | (with_reducible show (_ : Bool) = true; first | (simp [*]; done) | (simp only [hC, reduceCtorEq]; (repeat' (first | assumption | apply And.intro)); done))))
    refine AW.loopV [1, 5] [0] (fun m xs o => ∃ (k : Nat) (q : Int), xs = [.v (.int .i64 q), .v (.int .i64 k)] ∧ o = [] ∧ m = l.length - k ∧ k ≤ l.length ∧ -4611686018427387904 ≤ q ∧ q ≤ 1048576 ∧ l13g (l.drop k) q = l13g l (r - l.length)) l.length [] trivial ⟨0, r - l.length, ?_, rfl, rfl, ?_, ?_, ?_, rfl⟩ ?_
    · rfl
    · omega
    · omega
    · omega
    rintro m xs o ⟨k, q, rfl, rfl, rfl, hk, h0, h1, hR⟩
    have hw : k < l.length → _ := wt_kid (l := l) (k := k)
    have h3 := l13g_le (at_ l k).fKids (q - (at_ l k).fKids.length)
    (repeat' (first | (with_reducible first | refine Z ?_ | refine Y ?_ | (refine hK _ _ ?_; clear hK K) | exact trivial | refine And.intro ?_ ?_) | (refine AW.i rfl (fun h => ?_) (fun h => ?_) <;> try simp only [hC, reduceCtorEq] at h) | with_reducible rfl | with_reducible refine E ?_ | refine eF rfl ?_ | (with_reducible refine fun (K : _ → _ → Prop) hK => ?_) | (with_reducible show drawOK _ _ = true; kernel_rfl) | (with_reducible refine gI fun hg => ?_; try simp only [hC, reduceCtorEq] at hg; try simp only [hg]) | simp (maxSteps := 2000000) (disch := omega) only [go_sem] | (with_reducible intro hg; try simp only [hC, reduceCtorEq] at hg) | (with_reducible show List.Nodup _; decide) | (with_reducible show (_ : Bool) = false; first | rfl | (simp [*]; done)) | with_reducible exact at8_le _ _ | with_reducible exact at8_ge _ _ | (simp only [hC, reduceCtorEq]; omega) | omega | with_reducible assumption | (with_reducible show (_ : Bool) = true; first | (simp [*]; done) | (simp only [hC, reduceCtorEq]; (repeat' (first | assumption | apply And.intro)); done))))
    · have h4 : -4611686018427387904 ≤ l13g (at_ l k).fKids (q - (at_ l k).fKids.length) := l13g_ge _ _ (by have := hw h.1; unfold wt at *; omega) (by have := hw h.1; omega)
      refine ⟨_, [_, _], [], by omega, ⟨k + 1, _, rfl, rfl, rfl, by omega, h4, by omega, ?_⟩, rfl, trivial⟩
      rw [← hR, l13g_at h.1, if_neg (by omega)]
    · rw [← hR]
      by_cases e : k < l.length
      · rw [l13g_neg _ (h e)]
      · rw [drop_end e, l13g]

instance iCountTree_i (L : Nat → Nat) [hL : Lok L] (l : List GNode) : Ctr L Try.prog 133 [] [.sl false 3 (l.map (encNode false))] (.v (.int .i64 (cnt l))) [] (wt l ≤ 1048576) := ⟨en133, fun h => (iCountTree_n L 1048577 l).out ⟨by omega, by omega⟩⟩
instance itreeDepth_i (L : Nat → Nat) [hL : Lok L] (l : List GNode) : Ctr L Try.prog 134 [] [.sl false 3 (l.map (encNode false))] (.v (.int .i64 (dep l))) [] (wt l ≤ 1048576) := ⟨en134, fun h => (itreeDepth_n L 1048577 l).out ⟨by omega, by omega⟩⟩
instance iisForm_i (L : Nat → Nat) [hL : Lok L] (l : List GNode) : Ctr L Try.prog 135 [] [.sl false 3 (l.map (encNode false))] (.v (.bool (frm l))) [] (wt l ≤ 1048576) := ⟨en135, fun h => (iisForm_n L 1048577 l).out ⟨by omega, by omega⟩⟩
instance sl20Form_i (L : Nat → Nat) [hL : Lok L] (l : List GNode) : Ctr L Try.prog 125 [] [.sl false 3 (l.map (encNode false)), .v (.int .i64 1)] (.v (.bool (lfr l 1 && (l.length == 0 || decide (1 ≤ 10))))) [] (wt l ≤ 1048576) := ⟨en125, fun h => (sl20Form_n L 1048577 l 1).out ⟨by omega, by omega⟩⟩
instance sl13Left_i (L : Nat → Nat) [hL : Lok L] (l : List GNode) (r : Int) : Ctr L Try.prog 124 [] [.sl false 3 (l.map (encNode false)), .v (.int .i64 r)] (.v (.int .i64 (l13g l (r - l.length)))) [] (wt l ≤ 1048576 ∧ 0 ≤ r ∧ r ≤ 1048576) := ⟨en124, fun h => (sl13Left_n L 1048577 l r).out ⟨by omega, by omega, h.2⟩⟩
instance iIsForm_i (L : Nat → Nat) [hL : Lok L] (l : List GNode) : Ctr L Try.prog 90 [] [.sl false 3 (l.map (encNode false))] (.v (.bool (isForm l))) [] (wt l ≤ 1048576) := by
  refine Ctr.of_body en90 Try.func90 rfl rfl fun hp => (?_); rw [Try.ntmps90]
  (repeat' (first | (with_reducible first | refine Z ?_ | refine Y ?_ | (refine hK _ _ ?_; clear hK K) | exact trivial | refine And.intro ?_ ?_) | (refine AW.i rfl (fun h => ?_) (fun h => ?_) <;> try simp only [hC, reduceCtorEq] at h) | with_reducible rfl | with_reducible refine E ?_ | refine eF rfl ?_ | (with_reducible refine fun (K : _ → _ → Prop) hK => ?_) | (with_reducible show drawOK _ _ = true; kernel_rfl) | (with_reducible refine gI fun hg => ?_; try simp only [hC, reduceCtorEq] at hg; try simp only [hg]) | simp (maxSteps := 2000000) (disch := omega) only [go_sem] | (with_reducible intro hg; try simp only [hC, reduceCtorEq] at hg) | (with_reducible show List.Nodup _; decide) | (with_reducible show (_ : Bool) = false; first | rfl | (simp [*]; done)) | with_reducible exact at8_le _ _ | with_reducible exact at8_ge _ _ | (simp only [hC, reduceCtorEq]; omega) | omega | with_reducible assumption | (with_reducible show (_ : Bool) = true; first | (simp [*]; done) | (simp only [hC, reduceCtorEq]; (repeat' (first | assumption | apply And.intro)); done))))
  rw [isForm]
  refine congrArg (fun z => AV.v (.bool z)) ?_
  rw [show decide ((cnt l : Int) ≤ 120) = decide (cnt l ≤ 120) from decide_eq_decide.2 (by omega), show decide ((dep l : Int) ≤ 10) = decide (dep l ≤ 10) from decide_eq_decide.2 (by omega)]
instance sIsForm_i (L : Nat → Nat) [hL : Lok L] (l : List GNode) : Ctr L Try.prog 83 [] [.sl false 3 (l.map (encNode false))] (.v (.bool (isForm l))) [] (wt l ≤ 1048576) := by
  refine Ctr.of_body en83 Try.func83 rfl rfl fun hp => (?_); rw [Try.ntmps83]
  (repeat' (first | (with_reducible first | refine Z ?_ | refine Y ?_ | (refine hK _ _ ?_; clear hK K) | exact trivial | refine And.intro ?_ ?_) | (refine AW.i rfl (fun h => ?_) (fun h => ?_) <;> try simp only [hC, reduceCtorEq] at h) | with_reducible rfl | with_reducible refine E ?_ | refine eF rfl ?_ | (with_reducible refine fun (K : _ → _ → Prop) hK => ?_) | (with_reducible show drawOK _ _ = true; kernel_rfl) | (with_reducible refine gI fun hg => ?_; try simp only [hC, reduceCtorEq] at hg; try simp only [hg]) | simp (maxSteps := 2000000) (disch := omega) only [go_sem] | (with_reducible intro hg; try simp only [hC, reduceCtorEq] at hg) | (with_reducible show List.Nodup _; decide) | (with_reducible show (_ : Bool) = false; first | rfl | (simp [*]; done)) | with_reducible exact at8_le _ _ | with_reducible exact at8_ge _ _ | (simp only [hC, reduceCtorEq]; omega) | omega | with_reducible assumption | (with_reducible show (_ : Bool) = true; first | (simp [*]; done) | (simp only [hC, reduceCtorEq]; (repeat' (first | assumption | apply And.intro)); done))))
  rw [← isForm_spec]; rfl
end Go.Proofs.Ytkdchlggdcmkbaa
namespace Go.Proofs.Ytkdchlggdcmkbaa
open Go.Ab Go.Dt
set_option maxRecDepth 20000
set_option maxHeartbeats 2000000

theorem valuesFit_n : ∀ (n : Nat) (l : List GNode) (ps : List Str), Ctr lim Try.prog 91 [] [.sl false 3 (l.map (encNode false)), .sl false 1 (ps.map AV.str)] (.v (.bool (bodyOk ps l))) [] (wt l < n ∧ n ≤ 1048577)
  | 0, l, ps => ⟨en91, fun h => absurd h.1 (Nat.not_lt_zero _)⟩
  | n + 1, l, ps => by
    have ih := valuesFit_n n
    refine Ctr.of_body en91 Try.func91 rfl rfl fun hp => (?_); rw [Try.ntmps91]
    have hl : l.length ≤ wt l := by unfold wt; omega
    (repeat' (first | (with_reducible first | refine Z ?_ | refine Y ?_ | (refine hK _ _ ?_; clear hK K) | exact trivial | refine And.intro ?_ ?_) | (refine AW.i rfl (fun h => ?_) (fun h => ?_) <;> try simp only [hC, reduceCtorEq] at h) | with_reducible rfl | with_reducible refine E ?_ | refine eF rfl ?_ | (with_reducible refine fun (K : _ → _ → Prop) hK => ?_) | (with_reducible show drawOK _ _ = true; kernel_rfl) | (with_reducible refine gI fun hg => ?_; try simp only [hC, reduceCtorEq] at hg; try simp only [hg]) | simp (maxSteps := 2000000) (disch := omega) only [go_sem] | (with_reducible intro hg; try simp only [hC, reduceCtorEq] at hg) | (with_reducible show List.Nodup _; decide) | (with_reducible show (_ : Bool) = false; first | rfl | (simp [*]; done)) | with_reducible exact at8_le _ _ | with_reducible exact at8_ge _ _ | (simp only [hC, reduceCtorEq]; omega) | omega | with_reducible assumption | (with_reducible show (_ : Bool) = true; first | (simp [*]; done) | (simp only [hC, reduceCtorEq]; (repeat' (first | assumption | apply And.intro)); done))))
    refine AW.loopV [13] [0, 1, 11, 12] (fun m xs o => ∃ k : Nat, xs = [.v (.int .i64 k)] ∧ o = [] ∧ m = l.length - k ∧ k ≤ l.length ∧ bodyOk ps (l.drop k) = bodyOk ps l) l.length [] trivial ⟨0, ?_, rfl, rfl, ?_, rfl⟩ ?_
    · rfl
    · omega
    rintro m xs o ⟨k, rfl, rfl, rfl, hk, hR⟩
    have h1 : k < l.length → _ := wt_kid (l := l) (k := k)
    (repeat' (first | (with_reducible first | refine Z ?_ | refine Y ?_ | (refine hK _ _ ?_; clear hK K) | exact trivial | refine And.intro ?_ ?_) | with_reducible rfl | with_reducible refine E ?_ | refine eF rfl ?_ | (with_reducible refine fun (K : _ → _ → Prop) hK => ?_) | (with_reducible show drawOK _ _ = true; kernel_rfl) | (with_reducible refine gI fun hg => ?_; try simp only [hC, reduceCtorEq] at hg; try simp only [hg]) | simp (maxSteps := 2000000) (disch := omega) only [go_sem] | (with_reducible intro hg; try simp only [hC, reduceCtorEq] at hg) | (with_reducible show List.Nodup _; decide) | (with_reducible show (_ : Bool) = false; first | rfl | (simp [*]; done)) | with_reducible exact at8_le _ _ | with_reducible exact at8_ge _ _ | (simp only [hC, reduceCtorEq]; omega) | omega | with_reducible assumption | (with_reducible show (_ : Bool) = true; first | (simp [*]; done) | (simp only [hC, reduceCtorEq]; (repeat' (first | assumption | apply And.intro)); done))))
    (refine AW.i rfl (fun h => ?_) (fun h => ?_) <;> try simp only [hC, reduceCtorEq] at h)
    · (repeat' (first | (with_reducible first | refine Z ?_ | refine Y ?_ | (refine hK _ _ ?_; clear hK K) | exact trivial | refine And.intro ?_ ?_) | with_reducible rfl | with_reducible refine E ?_ | refine eF rfl ?_ | (with_reducible refine fun (K : _ → _ → Prop) hK => ?_) | (with_reducible show drawOK _ _ = true; kernel_rfl) | (with_reducible refine gI fun hg => ?_; try simp only [hC, reduceCtorEq] at hg; try simp only [hg]) | simp (maxSteps := 2000000) (disch := omega) only [go_sem] | (with_reducible intro hg; try simp only [hC, reduceCtorEq] at hg) | (with_reducible show List.Nodup _; decide) | (with_reducible show (_ : Bool) = false; first | rfl | (simp [*]; done)) | with_reducible exact at8_le _ _ | with_reducible exact at8_ge _ _ | (simp only [hC, reduceCtorEq]; omega) | omega | with_reducible assumption | (with_reducible show (_ : Bool) = true; first | (simp [*]; done) | (simp only [hC, reduceCtorEq]; (repeat' (first | assumption | apply And.intro)); done))))
      (refine AW.i rfl (fun h => ?_) (fun h => ?_) <;> try simp only [hC, reduceCtorEq] at h)
      · rw [← hR, bodyOk_at ps (l := l) (k := k) (by assumption)]
        rcases h with h | h
        · (repeat' (first | (with_reducible first | refine Z ?_ | refine Y ?_ | (refine hK _ _ ?_; clear hK K) | exact trivial | refine And.intro ?_ ?_) | (refine AW.i rfl (fun h => ?_) (fun h => ?_) <;> try simp only [hC, reduceCtorEq] at h) | with_reducible rfl | with_reducible refine E ?_ | refine eF rfl ?_ | (with_reducible refine fun (K : _ → _ → Prop) hK => ?_) | (with_reducible show drawOK _ _ = true; kernel_rfl) | (with_reducible refine gI fun hg => ?_; try simp only [hC, reduceCtorEq] at hg; try simp only [hg]) | simp (maxSteps := 2000000) (disch := omega) only [go_sem] | (with_reducible intro hg; try simp only [hC, reduceCtorEq] at hg) | (with_reducible show List.Nodup _; decide) | (with_reducible show (_ : Bool) = false; first | rfl | (simp [*]; done)) | with_reducible exact at8_le _ _ | with_reducible exact at8_ge _ _ | (simp only [hC, reduceCtorEq]; omega) | omega | with_reducible assumption | (with_reducible show (_ : Bool) = true; first | (simp [*]; done) | (simp only [hC, reduceCtorEq]; (repeat' (first | assumption | apply And.intro)); done))))
          simp [h]
        · (repeat' (first | (with_reducible first | refine Z ?_ | refine Y ?_ | (refine hK _ _ ?_; clear hK K) | exact trivial | refine And.intro ?_ ?_) | (refine AW.i rfl (fun h => ?_) (fun h => ?_) <;> try simp only [hC, reduceCtorEq] at h) | with_reducible rfl | with_reducible refine E ?_ | refine eF rfl ?_ | (with_reducible refine fun (K : _ → _ → Prop) hK => ?_) | (with_reducible show drawOK _ _ = true; kernel_rfl) | (with_reducible refine gI fun hg => ?_; try simp only [hC, reduceCtorEq] at hg; try simp only [hg]) | simp (maxSteps := 2000000) (disch := omega) only [go_sem] | (with_reducible intro hg; try simp only [hC, reduceCtorEq] at hg) | (with_reducible show List.Nodup _; decide) | (with_reducible show (_ : Bool) = false; first | rfl | (simp [*]; done)) | with_reducible exact at8_le _ _ | with_reducible exact at8_ge _ _ | (simp only [hC, reduceCtorEq]; omega) | omega | with_reducible assumption | (with_reducible show (_ : Bool) = true; first | (simp [*]; done) | (simp only [hC, reduceCtorEq]; (repeat' (first | assumption | apply And.intro)); done))))
          simp [h]
      · have hn := allTo_list (cont ps) (nmL (tk (at_ l k).fValue))
        have hnl := nmL_len (at_ l k).fValue
        refine AW.imp (Imp.frz 7 ?_)
        simp (maxSteps := 2000000) (disch := omega) only [go_sem, frzL_str]
        (repeat' (first | (with_reducible first | refine Z ?_ | refine Y ?_ | (refine hK _ _ ?_; clear hK K) | exact trivial | refine And.intro ?_ ?_) | (refine AW.i rfl (fun h => ?_) (fun h => ?_) <;> try simp only [hC, reduceCtorEq] at h) | with_reducible rfl | with_reducible refine E ?_ | refine eF rfl ?_ | (with_reducible refine fun (K : _ → _ → Prop) hK => ?_) | (with_reducible show drawOK _ _ = true; kernel_rfl) | (with_reducible refine gI fun hg => ?_; try simp only [hC, reduceCtorEq] at hg; try simp only [hg]) | simp (maxSteps := 2000000) (disch := omega) only [go_sem] | (with_reducible intro hg; try simp only [hC, reduceCtorEq] at hg) | (with_reducible show List.Nodup _; decide) | (with_reducible show (_ : Bool) = false; first | rfl | (simp [*]; done)) | with_reducible exact at8_le _ _ | with_reducible exact at8_ge _ _ | (simp only [hC, reduceCtorEq]; omega) | omega | with_reducible assumption | (with_reducible show (_ : Bool) = true; first | (simp [*]; done) | (simp only [hC, reduceCtorEq]; (repeat' (first | assumption | apply And.intro)); done))))
        refine AW.loopV [34] [0, 1, 11, 12, 13, 32, 33] (fun m xs o => ∃ j : Nat, xs = [.v (.int .i64 j)] ∧ o = [] ∧ m = (nmL (tk (at_ l k).fValue)).length - j ∧ j ≤ (nmL (tk (at_ l k).fValue)).length ∧ allTo (fun j => cont ps (at_ (nmL (tk (at_ l k).fValue)) j)) j = true) _ [] trivial ⟨0, ?_, rfl, rfl, ?_, rfl⟩ ?_
        · rfl
        · omega
        rintro m xs o ⟨j, rfl, rfl, rfl, hj, hQ⟩
        (repeat' (first | (with_reducible first | refine Z ?_ | refine Y ?_ | (refine hK _ _ ?_; clear hK K) | exact trivial | refine And.intro ?_ ?_) | (refine AW.i rfl (fun h => ?_) (fun h => ?_) <;> try simp only [hC, reduceCtorEq] at h) | with_reducible rfl | with_reducible refine E ?_ | refine eF rfl ?_ | (with_reducible refine fun (K : _ → _ → Prop) hK => ?_) | (with_reducible show drawOK _ _ = true; kernel_rfl) | (with_reducible refine gI fun hg => ?_; try simp only [hC, reduceCtorEq] at hg; try simp only [hg]) | simp (maxSteps := 2000000) (disch := omega) only [go_sem] | (with_reducible intro hg; try simp only [hC, reduceCtorEq] at hg) | (with_reducible show List.Nodup _; decide) | (with_reducible show (_ : Bool) = false; first | rfl | (simp [*]; done)) | with_reducible exact at8_le _ _ | with_reducible exact at8_ge _ _ | (simp only [hC, reduceCtorEq]; omega) | omega | with_reducible assumption | (with_reducible show (_ : Bool) = true; first | (simp [*]; done) | (simp only [hC, reduceCtorEq]; (repeat' (first | assumption | apply And.intro)); done))))
        · rw [← hR, bodyOk_at ps (l := l) (k := k) (by assumption), ← hn, allTo_false (by assumption) h]; simp
        · exact ⟨_, [_], [], by omega, ⟨j + 1, rfl, rfl, rfl, by omega, allTo_step hQ h⟩, rfl, trivial⟩
        · rw [show j = (nmL (tk (at_ l k).fValue)).length by omega] at hQ
          rename_i h8 h9
          refine ⟨_, [_], [], by omega, ⟨k + 1, rfl, rfl, rfl, by omega, ?_⟩, rfl, trivial⟩
          rw [← hR, bodyOk_at ps (l := l) (k := k) (by assumption), ← hn, hQ, h9.1, h9.2]; rfl
    · (repeat' (first | (with_reducible first | refine Z ?_ | refine Y ?_ | (refine hK _ _ ?_; clear hK K) | exact trivial | refine And.intro ?_ ?_) | (refine AW.i rfl (fun h => ?_) (fun h => ?_) <;> try simp only [hC, reduceCtorEq] at h) | with_reducible rfl | with_reducible refine E ?_ | refine eF rfl ?_ | (with_reducible refine fun (K : _ → _ → Prop) hK => ?_) | (with_reducible show drawOK _ _ = true; kernel_rfl) | (with_reducible refine gI fun hg => ?_; try simp only [hC, reduceCtorEq] at hg; try simp only [hg]) | simp (maxSteps := 2000000) (disch := omega) only [go_sem] | (with_reducible intro hg; try simp only [hC, reduceCtorEq] at hg) | (with_reducible show List.Nodup _; decide) | (with_reducible show (_ : Bool) = false; first | rfl | (simp [*]; done)) | with_reducible exact at8_le _ _ | with_reducible exact at8_ge _ _ | (simp only [hC, reduceCtorEq]; omega) | omega | with_reducible assumption | (with_reducible show (_ : Bool) = true; first | (simp [*]; done) | (simp only [hC, reduceCtorEq]; (repeat' (first | assumption | apply And.intro)); done))))
      rw [← hR, drop_end h, bodyOk]
theorem l28Body_n : ∀ (n : Nat) (l : List GNode) (nm : Str) (ps : List GParam) (bd : List GNode), Ctr lim Try.prog 84 [] [.agg [.str nm, .sl false 6 (ps.map (encParam false)), .sl false 3 (bd.map (encNode false))], .sl false 3 (l.map (encNode false))] (.v (.bool (bodyOk (ps.map GParam.fName) l))) [] (wt l < n ∧ n ≤ 1048577)
  | 0, l, nm, ps, bd => ⟨en84, fun h => absurd h.1 (Nat.not_lt_zero _)⟩
  | n + 1, l, nm, ps, bd => by
    have ih := l28Body_n n
    refine Ctr.of_body en84 Try.func84 rfl rfl fun hp => (?_); rw [Try.ntmps84]
    have hl : l.length ≤ wt l := by unfold wt; omega
    (repeat' (first | (with_reducible first | refine Z ?_ | refine Y ?_ | (refine hK _ _ ?_; clear hK K) | exact trivial | refine And.intro ?_ ?_) | (refine AW.i rfl (fun h => ?_) (fun h => ?_) <;> try simp only [hC, reduceCtorEq] at h) | with_reducible rfl | with_reducible refine E ?_ | refine eF rfl ?_ | (with_reducible refine fun (K : _ → _ → Prop) hK => ?_) | (with_reducible show drawOK _ _ = true; kernel_rfl) | (with_reducible refine gI fun hg => ?_; try simp only [hC, reduceCtorEq] at hg; try simp only [hg]) | simp (maxSteps := 2000000) (disch := omega) only [go_sem] | (with_reducible intro hg; try simp only [hC, reduceCtorEq] at hg) | (with_reducible show List.Nodup _; decide) | (with_reducible show (_ : Bool) = false; first | rfl | (simp [*]; done)) | with_reducible exact at8_le _ _ | with_reducible exact at8_ge _ _ | (simp only [hC, reduceCtorEq]; omega) | omega | with_reducible assumption | (with_reducible show (_ : Bool) = true; first | (simp [*]; done) | (simp only [hC, reduceCtorEq]; (repeat' (first | assumption | apply And.intro)); done))))
    refine AW.loopV [5] [0, 1, 2] (fun m xs o => ∃ k : Nat, xs = [.v (.int .i64 k)] ∧ o = [] ∧ m = l.length - k ∧ k ≤ l.length ∧ bodyOk (ps.map GParam.fName) (l.drop k) = bodyOk (ps.map GParam.fName) l) l.length [] trivial ⟨0, ?_, rfl, rfl, ?_, rfl⟩ ?_
    · rfl
    · omega
    rintro m xs o ⟨k, rfl, rfl, rfl, hk, hR⟩
    have h1 : k < l.length → _ := wt_kid (l := l) (k := k)
    (repeat' (first | (with_reducible first | refine Z ?_ | refine Y ?_ | (refine hK _ _ ?_; clear hK K) | exact trivial | refine And.intro ?_ ?_) | with_reducible rfl | with_reducible refine E ?_ | refine eF rfl ?_ | (with_reducible refine fun (K : _ → _ → Prop) hK => ?_) | (with_reducible show drawOK _ _ = true; kernel_rfl) | (with_reducible refine gI fun hg => ?_; try simp only [hC, reduceCtorEq] at hg; try simp only [hg]) | simp (maxSteps := 2000000) (disch := omega) only [go_sem] | (with_reducible intro hg; try simp only [hC, reduceCtorEq] at hg) | (with_reducible show List.Nodup _; decide) | (with_reducible show (_ : Bool) = false; first | rfl | (simp [*]; done)) | with_reducible exact at8_le _ _ | with_reducible exact at8_ge _ _ | (simp only [hC, reduceCtorEq]; omega) | omega | with_reducible assumption | (with_reducible show (_ : Bool) = true; first | (simp [*]; done) | (simp only [hC, reduceCtorEq]; (repeat' (first | assumption | apply And.intro)); done))))
    (refine AW.i rfl (fun h => ?_) (fun h => ?_) <;> try simp only [hC, reduceCtorEq] at h)
    · (repeat' (first | (with_reducible first | refine Z ?_ | refine Y ?_ | (refine hK _ _ ?_; clear hK K) | exact trivial | refine And.intro ?_ ?_) | with_reducible rfl | with_reducible refine E ?_ | refine eF rfl ?_ | (with_reducible refine fun (K : _ → _ → Prop) hK => ?_) | (with_reducible show drawOK _ _ = true; kernel_rfl) | (with_reducible refine gI fun hg => ?_; try simp only [hC, reduceCtorEq] at hg; try simp only [hg]) | simp (maxSteps := 2000000) (disch := omega) only [go_sem] | (with_reducible intro hg; try simp only [hC, reduceCtorEq] at hg) | (with_reducible show List.Nodup _; decide) | (with_reducible show (_ : Bool) = false; first | rfl | (simp [*]; done)) | with_reducible exact at8_le _ _ | with_reducible exact at8_ge _ _ | (simp only [hC, reduceCtorEq]; omega) | omega | with_reducible assumption | (with_reducible show (_ : Bool) = true; first | (simp [*]; done) | (simp only [hC, reduceCtorEq]; (repeat' (first | assumption | apply And.intro)); done))))
      have hn := allTo_list (cont (ps.map GParam.fName)) (nmL (tk (at_ l k).fValue))
      have hnl := nmL_len (at_ l k).fValue
      refine AW.imp (Imp.frz 6 ?_)
      simp (maxSteps := 2000000) (disch := omega) only [go_sem, frzL_str]
      refine AW.loopV [7, 8] [0, 1, 2, 5, 6] (fun m xs o => ∃ j : Nat, xs = [.v (.bool ((tk (at_ l k).fValue).2 && allTo (fun j => cont (ps.map GParam.fName) (at_ (nmL (tk (at_ l k).fValue)) j)) j)), .v (.int .i64 j)] ∧ o = [] ∧ m = (nmL (tk (at_ l k).fValue)).length - j ∧ j ≤ (nmL (tk (at_ l k).fValue)).length) _ [] trivial ⟨0, ?_, rfl, rfl, ?_⟩ ?_
      · simp only [allTo, Bool.and_true]; rfl
      · omega
      rintro m xs o ⟨j, rfl, rfl, rfl, hj⟩
      (repeat' (first | (with_reducible first | refine Z ?_ | refine Y ?_ | (refine hK _ _ ?_; clear hK K) | exact trivial | refine And.intro ?_ ?_) | (refine AW.i rfl (fun h => ?_) (fun h => ?_) <;> try simp only [hC, reduceCtorEq] at h) | with_reducible rfl | with_reducible refine E ?_ | refine eF rfl ?_ | (with_reducible refine fun (K : _ → _ → Prop) hK => ?_) | (with_reducible show drawOK _ _ = true; kernel_rfl) | (with_reducible refine gI fun hg => ?_; try simp only [hC, reduceCtorEq] at hg; try simp only [hg]) | simp (maxSteps := 2000000) (disch := omega) only [go_sem] | (with_reducible intro hg; try simp only [hC, reduceCtorEq] at hg) | (with_reducible show List.Nodup _; decide) | (with_reducible show (_ : Bool) = false; first | rfl | (simp [*]; done)) | with_reducible exact at8_le _ _ | with_reducible exact at8_ge _ _ | (simp only [hC, reduceCtorEq]; omega) | omega | with_reducible assumption | (with_reducible show (_ : Bool) = true; first | (simp [*]; done) | (simp only [hC, reduceCtorEq]; (repeat' (first | assumption | apply And.intro)); done))))
      · exact ⟨_, [_, _], [], by omega, ⟨j + 1, by rw [prm_cont, Bool.and_assoc]; rfl, rfl, rfl, by omega⟩, rfl, trivial⟩
      · rw [← hR, bodyOk_at _ (l := l) (k := k) (by assumption), ← hn]
        rw [show j = (nmL (tk (at_ l k).fValue)).length by omega] at h
        rcases h with h | h
        · cases e : (tk (at_ l k).fValue).2 with
          | false => rfl
          | true => rw [h e]; rfl
        · rw [h, Bool.and_false]; rfl
      · rw [show j = (nmL (tk (at_ l k).fValue)).length by omega] at h
        refine ⟨_, [_], [], by omega, ⟨k + 1, rfl, rfl, rfl, by omega, ?_⟩, rfl, trivial⟩
        rw [← hR, bodyOk_at _ (l := l) (k := k) (by assumption), ← hn, h.1.1, h.1.2, h.2]; rfl
    · (repeat' (first | (with_reducible first | refine Z ?_ | refine Y ?_ | (refine hK _ _ ?_; clear hK K) | exact trivial | refine And.intro ?_ ?_) | (refine AW.i rfl (fun h => ?_) (fun h => ?_) <;> try simp only [hC, reduceCtorEq] at h) | with_reducible rfl | with_reducible refine E ?_ | refine eF rfl ?_ | (with_reducible refine fun (K : _ → _ → Prop) hK => ?_) | (with_reducible show drawOK _ _ = true; kernel_rfl) | (with_reducible refine gI fun hg => ?_; try simp only [hC, reduceCtorEq] at hg; try simp only [hg]) | simp (maxSteps := 2000000) (disch := omega) only [go_sem] | (with_reducible intro hg; try simp only [hC, reduceCtorEq] at hg) | (with_reducible show List.Nodup _; decide) | (with_reducible show (_ : Bool) = false; first | rfl | (simp [*]; done)) | with_reducible exact at8_le _ _ | with_reducible exact at8_ge _ _ | (simp only [hC, reduceCtorEq]; omega) | omega | with_reducible assumption | (with_reducible show (_ : Bool) = true; first | (simp [*]; done) | (simp only [hC, reduceCtorEq]; (repeat' (first | assumption | apply And.intro)); done))))
      rw [← hR, drop_end h, bodyOk]

instance valuesFit_i (l : List GNode) (ps : List Str) : Ctr lim Try.prog 91 [] [.sl false 3 (l.map (encNode false)), .sl false 1 (ps.map AV.str)] (.v (.bool (bodyOk ps l))) [] (wt l ≤ 1048576) := ⟨en91, fun h => (valuesFit_n 1048577 l ps).out ⟨by omega, by omega⟩⟩
instance l28Body_i (l : List GNode) (nm : Str) (ps : List GParam) (bd : List GNode) : Ctr lim Try.prog 84 [] [.agg [.str nm, .sl false 6 (ps.map (encParam false)), .sl false 3 (bd.map (encNode false))], .sl false 3 (l.map (encNode false))] (.v (.bool (bodyOk (ps.map GParam.fName) l))) [] (wt l ≤ 1048576) := ⟨en84, fun h => (l28Body_n 1048577 l nm ps bd).out ⟨by omega, by omega⟩⟩
end Go.Proofs.Ytkdchlggdcmkbaa
namespace Go.Proofs.Ytkdchlggdcmkbaa
open Go.Ab Go.Dt
set_option maxRecDepth 20000
set_option maxHeartbeats 4000000

section
variable (ip : Str → Bool)
variable [hs : ∀ s, Ctr lim Try.prog 122 [] [.str s] (.v (.bool (ip s))) [] True] [hi : ∀ s, Ctr lim Try.prog 129 [] [.str s] (.v (.bool (ip s))) [] True]
omit hs in
include hi in
theorem iIsType_t (x : GType) : Ctr lim Try.prog 88 [] [.agg [.v (.int .i64 x.fKind), .sl false 2 (x.fRanges.map (encRange false)), .sl false 1 (x.fNames.map AV.str), .str x.fPattern, .str x.fPath]] (.v (.bool (isType ip x))) [] True := by
  refine Ctr.of_body en88 Try.func88 rfl rfl fun hp => (?_); rw [Try.ntmps88]
  refine AW.fact 0 fun hf => ?_
  simp (disch := omega) only [go_sem, Nat.reduceBEq] at hf
  (repeat' (first | (with_reducible first | refine Z ?_ | refine Y ?_ | (refine hK _ _ ?_; clear hK K) | exact trivial | refine And.intro ?_ ?_) | (refine AW.i rfl (fun h => ?_) (fun h => ?_) <;> try simp only [hC, reduceCtorEq] at h) | with_reducible rfl | with_reducible refine E ?_ | refine eF rfl ?_ | (with_reducible refine fun (K : _ → _ → Prop) hK => ?_) | (with_reducible show drawOK _ _ = true; kernel_rfl) | (with_reducible refine gI fun hg => ?_; try simp only [hC, reduceCtorEq] at hg; try simp only [hg]) | simp (maxSteps := 2000000) (disch := omega) only [go_sem] | (with_reducible intro hg; try simp only [hC, reduceCtorEq] at hg) | (with_reducible show List.Nodup _; decide) | (with_reducible show (_ : Bool) = false; first | rfl | (simp [*]; done)) | with_reducible exact at8_le _ _ | with_reducible exact at8_ge _ _ | (simp only [hC, reduceCtorEq]; omega) | omega | with_reducible assumption | (with_reducible show (_ : Bool) = true; first | (simp [*]; done) | (simp only [hC, reduceCtorEq]; (repeat' (first | assumption | apply And.intro)); done))))
  · rw [← isType_w0 h]
  · rw [← isType_w1 (by assumption) h]
  · rw [← isType_w2 (by assumption) h]; rfl
  · rw [← isType_w4 (by assumption) h]
  · rw [← isType_w5 (by assumption) h]
  · rw [← isType_wz (by assumption) (by assumption) (by assumption) (by assumption) h]
omit hi in
include hs in
theorem sIsType_t (x : GType) : Ctr lim Try.prog 81 [] [.agg [.v (.int .i64 x.fKind), .sl false 2 (x.fRanges.map (encRange false)), .sl false 1 (x.fNames.map AV.str), .str x.fPattern, .str x.fPath]] (.v (.bool (isType ip x))) [] True := by
  refine Ctr.of_body en81 Try.func81 rfl rfl fun hp => (?_); rw [Try.ntmps81]
  refine AW.fact 0 fun hf => ?_
  simp (disch := omega) only [go_sem, Nat.reduceBEq] at hf
  (repeat' (first | (with_reducible first | refine Z ?_ | refine Y ?_ | (refine hK _ _ ?_; clear hK K) | exact trivial | refine And.intro ?_ ?_) | (refine AW.i rfl (fun h => ?_) (fun h => ?_) <;> try simp only [hC, reduceCtorEq] at h) | with_reducible rfl | with_reducible refine E ?_ | refine eF rfl ?_ | (with_reducible refine fun (K : _ → _ → Prop) hK => ?_) | (with_reducible show drawOK _ _ = true; kernel_rfl) | (with_reducible refine gI fun hg => ?_; try simp only [hC, reduceCtorEq] at hg; try simp only [hg]) | simp (maxSteps := 2000000) (disch := omega) only [go_sem] | (with_reducible intro hg; try simp only [hC, reduceCtorEq] at hg) | (with_reducible show List.Nodup _; decide) | (with_reducible show (_ : Bool) = false; first | rfl | (simp [*]; done)) | with_reducible exact at8_le _ _ | with_reducible exact at8_ge _ _ | (simp only [hC, reduceCtorEq]; omega) | omega | with_reducible assumption | (with_reducible show (_ : Bool) = true; first | (simp [*]; done) | (simp only [hC, reduceCtorEq]; (repeat' (first | assumption | apply And.intro)); done))))
  refine AW.loopV [3] [0, 1] (fun m xs o => ∃ k : Nat, xs = [.v (.int .i64 k)] ∧ o = [] ∧ m = x.fNames.length - k ∧ k ≤ x.fNames.length ∧ allTo (fun j => isName (at_ x.fNames j)) k = true ∧ allTo (fun j => !cont (x.fNames.take j) (at_ x.fNames j)) k = true) x.fNames.length [] trivial ⟨0, ?_, rfl, rfl, ?_, rfl, rfl⟩ ?_
  · rfl
  · omega
  rintro m xs o ⟨k, rfl, rfl, rfl, hk, hR, hQ⟩
  (repeat' (first | (with_reducible first | refine Z ?_ | refine Y ?_ | (refine hK _ _ ?_; clear hK K) | exact trivial | refine And.intro ?_ ?_) | with_reducible rfl | with_reducible refine E ?_ | refine eF rfl ?_ | (with_reducible refine fun (K : _ → _ → Prop) hK => ?_) | (with_reducible show drawOK _ _ = true; kernel_rfl) | (with_reducible refine gI fun hg => ?_; try simp only [hC, reduceCtorEq] at hg; try simp only [hg]) | simp (maxSteps := 2000000) (disch := omega) only [go_sem] | (with_reducible intro hg; try simp only [hC, reduceCtorEq] at hg) | (with_reducible show List.Nodup _; decide) | (with_reducible show (_ : Bool) = false; first | rfl | (simp [*]; done)) | with_reducible exact at8_le _ _ | with_reducible exact at8_ge _ _ | (simp only [hC, reduceCtorEq]; omega) | omega | with_reducible assumption | (with_reducible show (_ : Bool) = true; first | (simp [*]; done) | (simp only [hC, reduceCtorEq]; (repeat' (first | assumption | apply And.intro)); done))))
  (refine AW.i rfl (fun h => ?_) (fun h => ?_) <;> try simp only [hC, reduceCtorEq] at h)
  · (repeat' (first | (with_reducible first | refine Z ?_ | refine Y ?_ | (refine hK _ _ ?_; clear hK K) | exact trivial | refine And.intro ?_ ?_) | with_reducible rfl | with_reducible refine E ?_ | refine eF rfl ?_ | (with_reducible refine fun (K : _ → _ → Prop) hK => ?_) | (with_reducible show drawOK _ _ = true; kernel_rfl) | (with_reducible refine gI fun hg => ?_; try simp only [hC, reduceCtorEq] at hg; try simp only [hg]) | simp (maxSteps := 2000000) (disch := omega) only [go_sem] | (with_reducible intro hg; try simp only [hC, reduceCtorEq] at hg) | (with_reducible show List.Nodup _; decide) | (with_reducible show (_ : Bool) = false; first | rfl | (simp [*]; done)) | with_reducible exact at8_le _ _ | with_reducible exact at8_ge _ _ | (simp only [hC, reduceCtorEq]; omega) | omega | with_reducible assumption | (with_reducible show (_ : Bool) = true; first | (simp [*]; done) | (simp only [hC, reduceCtorEq]; (repeat' (first | assumption | apply And.intro)); done))))
    refine AW.loopV [4] [0, 1, 3] (fun m xs o => ∃ j : Nat, xs = [.v (.int .i64 j)] ∧ o = [] ∧ m = k - j ∧ j ≤ k ∧ ∀ y ∈ (x.fNames.take k).take j, (y == at_ x.fNames k) = false) k [] trivial ⟨0, ?_, rfl, rfl, ?_, ?_⟩ ?_
    · rfl
    · omega
    · simp
    rintro m xs o ⟨j, rfl, rfl, rfl, hj, hS⟩
    (repeat' (first | (with_reducible first | refine Z ?_ | refine Y ?_ | (refine hK _ _ ?_; clear hK K) | exact trivial | refine And.intro ?_ ?_) | (refine AW.i rfl (fun h => ?_) (fun h => ?_) <;> try simp only [hC, reduceCtorEq] at h) | with_reducible rfl | with_reducible refine E ?_ | refine eF rfl ?_ | (with_reducible refine fun (K : _ → _ → Prop) hK => ?_) | (with_reducible show drawOK _ _ = true; kernel_rfl) | (with_reducible refine gI fun hg => ?_; try simp only [hC, reduceCtorEq] at hg; try simp only [hg]) | simp (maxSteps := 2000000) (disch := omega) only [go_sem] | (with_reducible intro hg; try simp only [hC, reduceCtorEq] at hg) | (with_reducible show List.Nodup _; decide) | (with_reducible show (_ : Bool) = false; first | rfl | (simp [*]; done)) | with_reducible exact at8_le _ _ | with_reducible exact at8_ge _ _ | (simp only [hC, reduceCtorEq]; omega) | omega | with_reducible assumption | (with_reducible show (_ : Bool) = true; first | (simp [*]; done) | (simp only [hC, reduceCtorEq]; (repeat' (first | assumption | apply And.intro)); done))))
    · rw [← isType_bad (by assumption) (.inr (allTo_false (by assumption) (by rw [cont_dup (by assumption) (by assumption) h]; rfl)))]
    · exact ⟨_, [_], [], by omega, ⟨j + 1, rfl, rfl, rfl, by omega, take_step' (by rw [List.length_take]; omega) hS (by rw [at_take (by assumption)]; simpa using h)⟩, rfl, trivial⟩
    · rw [← isType_bad (by assumption) (.inl (allTo_false (by assumption) h))]
    · rw [show j = k by omega, List.take_take, Nat.min_self] at hS
      exact ⟨_, [_], [], by omega, ⟨k + 1, rfl, rfl, rfl, by omega, allTo_step hR h, allTo_step hQ (by rw [cont_free hS]; rfl)⟩, rfl, trivial⟩
  · rw [show k = x.fNames.length by omega] at hR hQ
    (repeat' (first | (with_reducible first | refine Z ?_ | refine Y ?_ | (refine hK _ _ ?_; clear hK K) | exact trivial | refine And.intro ?_ ?_) | (refine AW.i rfl (fun h => ?_) (fun h => ?_) <;> try simp only [hC, reduceCtorEq] at h) | with_reducible rfl | with_reducible refine E ?_ | refine eF rfl ?_ | (with_reducible refine fun (K : _ → _ → Prop) hK => ?_) | (with_reducible show drawOK _ _ = true; kernel_rfl) | (with_reducible refine gI fun hg => ?_; try simp only [hC, reduceCtorEq] at hg; try simp only [hg]) | simp (maxSteps := 2000000) (disch := omega) only [go_sem] | (with_reducible intro hg; try simp only [hC, reduceCtorEq] at hg) | (with_reducible show List.Nodup _; decide) | (with_reducible show (_ : Bool) = false; first | rfl | (simp [*]; done)) | with_reducible exact at8_le _ _ | with_reducible exact at8_ge _ _ | (simp only [hC, reduceCtorEq]; omega) | omega | with_reducible assumption | (with_reducible show (_ : Bool) = true; first | (simp [*]; done) | (simp only [hC, reduceCtorEq]; (repeat' (first | assumption | apply And.intro)); done))))
    · rw [← isType_v1 h]
    · rw [← isType_v2 h]; rfl
    · rw [← isType_v4 h hR hQ]
    · rw [← isType_v5 h]
    · rw [← isType_v3 (by assumption) (by assumption) (by assumption) (by assumption) (.inl h)]
    · rw [← isType_v3 (by assumption) (by assumption) (by assumption) (by assumption) (.inr h)]
    · rw [← isType_vz (by assumption) (by assumption) (by assumption) (by assumption) (by assumption) (by assumption)]
end
end Go.Proofs.Ytkdchlggdcmkbaa
namespace Go.Proofs.Ytkdchlggdcmkbaa
open Go.Ab Go.Dt
set_option maxRecDepth 20000
set_option maxHeartbeats 4000000

section
variable (ip : Str → Bool)
variable [hs : ∀ x : GType, Ctr lim Try.prog 81 [] [.agg [.v (.int .i64 x.fKind), .sl false 2 (x.fRanges.map (encRange false)), .sl false 1 (x.fNames.map AV.str), .str x.fPattern, .str x.fPath]] (.v (.bool (isType ip x))) [] True]
variable [hi : ∀ x : GType, Ctr lim Try.prog 88 [] [.agg [.v (.int .i64 x.fKind), .sl false 2 (x.fRanges.map (encRange false)), .sl false 1 (x.fNames.map AV.str), .str x.fPattern, .str x.fPath]] (.v (.bool (isType ip x))) [] True]
omit hs in
include hi in
theorem iIsTemplate_t (x : GTemplate) : Ctr lim Try.prog 39 [] [.agg [.str x.fName, .sl false 6 (x.fParams.map (encParam false)), .sl false 3 (x.fBody.map (encNode false))]] (.v (.bool (isTemplate ip x))) [] (wt x.fBody ≤ 1048576 ∧ x.fParams.length ≤ 1048576) := by
  refine Ctr.of_body en39 Try.func39 rfl rfl fun hp => (?_); rw [Try.ntmps39]
  refine AW.fact 0 fun hf => ?_
  simp (disch := omega) only [go_sem, Nat.reduceBEq] at hf
  (repeat' (first | (with_reducible first | refine Z ?_ | refine Y ?_ | (refine hK _ _ ?_; clear hK K) | exact trivial | refine And.intro ?_ ?_) | (refine AW.i rfl (fun h => ?_) (fun h => ?_) <;> try simp only [hC, reduceCtorEq] at h) | with_reducible rfl | with_reducible refine E ?_ | refine eF rfl ?_ | (with_reducible refine fun (K : _ → _ → Prop) hK => ?_) | (with_reducible show drawOK _ _ = true; kernel_rfl) | (with_reducible refine gI fun hg => ?_; try simp only [hC, reduceCtorEq] at hg; try simp only [hg]) | simp (maxSteps := 2000000) (disch := omega) only [go_sem] | (with_reducible intro hg; try simp only [hC, reduceCtorEq] at hg) | (with_reducible show List.Nodup _; decide) | (with_reducible show (_ : Bool) = false; first | rfl | (simp [*]; done)) | with_reducible exact at8_le _ _ | with_reducible exact at8_ge _ _ | (simp only [hC, reduceCtorEq]; omega) | omega | with_reducible assumption | (with_reducible show (_ : Bool) = true; first | (simp [*]; done) | (simp only [hC, reduceCtorEq]; (repeat' (first | assumption | apply And.intro)); done))))
  refine AW.loopV [3, 10] [0, 1, 8, 9] (fun m xs o => ∃ k : Nat, xs = [.sl true 1 (((x.fParams.take k).map GParam.fName).map AV.str), .v (.int .i64 k)] ∧ o = [] ∧ m = x.fParams.length - k ∧ k ≤ x.fParams.length ∧ allTo (prmOk ip x.fParams) k = true) x.fParams.length [] trivial ⟨0, ?_, rfl, rfl, ?_, rfl⟩ ?_
  · rfl
  · omega
  rintro m xs o ⟨k, rfl, rfl, rfl, hk, hR⟩
  have hlt : (x.fParams.take k).length = k := by rw [List.length_take]; omega
  (repeat' (first | (with_reducible first | refine Z ?_ | refine Y ?_ | (refine hK _ _ ?_; clear hK K) | exact trivial | refine And.intro ?_ ?_) | with_reducible rfl | with_reducible refine E ?_ | refine eF rfl ?_ | (with_reducible refine fun (K : _ → _ → Prop) hK => ?_) | (with_reducible show drawOK _ _ = true; kernel_rfl) | (with_reducible refine gI fun hg => ?_; try simp only [hC, reduceCtorEq] at hg; try simp only [hg]) | simp (maxSteps := 2000000) (disch := omega) only [go_sem] | (with_reducible intro hg; try simp only [hC, reduceCtorEq] at hg) | (with_reducible show List.Nodup _; decide) | (with_reducible show (_ : Bool) = false; first | rfl | (simp [*]; done)) | with_reducible exact at8_le _ _ | with_reducible exact at8_ge _ _ | (simp only [hC, reduceCtorEq]; omega) | omega | with_reducible assumption | (with_reducible show (_ : Bool) = true; first | (simp [*]; done) | (simp only [hC, reduceCtorEq]; (repeat' (first | assumption | apply And.intro)); done))))
  (refine AW.i rfl (fun h => ?_) (fun h => ?_) <;> try simp only [hC, reduceCtorEq] at h)
  · (repeat' (first | (with_reducible first | refine Z ?_ | refine Y ?_ | (refine hK _ _ ?_; clear hK K) | exact trivial | refine And.intro ?_ ?_) | (refine AW.i rfl (fun h => ?_) (fun h => ?_) <;> try simp only [hC, reduceCtorEq] at h) | with_reducible rfl | with_reducible refine E ?_ | refine eF rfl ?_ | (with_reducible refine fun (K : _ → _ → Prop) hK => ?_) | (with_reducible show drawOK _ _ = true; kernel_rfl) | (with_reducible refine gI fun hg => ?_; try simp only [hC, reduceCtorEq] at hg; try simp only [hg]) | simp (maxSteps := 2000000) (disch := omega) only [go_sem] | (with_reducible intro hg; try simp only [hC, reduceCtorEq] at hg) | (with_reducible show List.Nodup _; decide) | (with_reducible show (_ : Bool) = false; first | rfl | (simp [*]; done)) | with_reducible exact at8_le _ _ | with_reducible exact at8_ge _ _ | (simp only [hC, reduceCtorEq]; omega) | omega | with_reducible assumption | (with_reducible show (_ : Bool) = true; first | (simp [*]; done) | (simp only [hC, reduceCtorEq]; (repeat' (first | assumption | apply And.intro)); done))))
    · rw [isTemplate_no (by assumption) (by rcases h with h | h <;> simp [prmOk, h])]
    · refine ⟨_, [_, _], [], by omega, ⟨k + 1, rfl, rfl, rfl, by omega, allTo_step hR (by simp [prmOk, h])⟩, ?_, trivial⟩
      have e : x.fParams.take (k + 1) = x.fParams.take k ++ [at_ x.fParams k] := by
        rw [List.take_succ_eq_append_getElem (by assumption)]
        unfold at_; rw [List.getElem?_eq_getElem (by assumption)]; rfl
      rw [e, List.map_append, List.map_append]; rfl
  · refine AW.imp (Imp.frz 3 ?_)
    simp (maxSteps := 2000000) (disch := omega) only [go_sem, frzL_str]
    (repeat' (first | (with_reducible first | refine Z ?_ | refine Y ?_ | (refine hK _ _ ?_; clear hK K) | exact trivial | refine And.intro ?_ ?_) | (refine AW.i rfl (fun h => ?_) (fun h => ?_) <;> try simp only [hC, reduceCtorEq] at h) | with_reducible rfl | with_reducible refine E ?_ | refine eF rfl ?_ | (with_reducible refine fun (K : _ → _ → Prop) hK => ?_) | (with_reducible show drawOK _ _ = true; kernel_rfl) | (with_reducible refine gI fun hg => ?_; try simp only [hC, reduceCtorEq] at hg; try simp only [hg]) | simp (maxSteps := 2000000) (disch := omega) only [go_sem] | (with_reducible intro hg; try simp only [hC, reduceCtorEq] at hg) | (with_reducible show List.Nodup _; decide) | (with_reducible show (_ : Bool) = false; first | rfl | (simp [*]; done)) | with_reducible exact at8_le _ _ | with_reducible exact at8_ge _ _ | (simp only [hC, reduceCtorEq]; omega) | omega | with_reducible assumption | (with_reducible show (_ : Bool) = true; first | (simp [*]; done) | (simp only [hC, reduceCtorEq]; (repeat' (first | assumption | apply And.intro)); done))))
    rw [show k = x.fParams.length by omega] at hR hlt ⊢
    rw [hlt, List.take_length]
    refine congrArg (fun z => AV.v (.bool z)) ?_
    rw [isTemplate, hR, Bool.true_and, show decide ((x.fParams.length : Int) ≤ 6) = decide (x.fParams.length ≤ 6) from decide_eq_decide.2 (by omega)]
    cases diffs (x.fParams.map GParam.fName) <;> simp
omit hi in
include hs in
theorem sIsTemplate_t (x : GTemplate) : Ctr lim Try.prog 37 [] [.agg [.str x.fName, .sl false 6 (x.fParams.map (encParam false)), .sl false 3 (x.fBody.map (encNode false))]] (.v (.bool (isTemplate ip x))) [] (wt x.fBody ≤ 1048576 ∧ x.fParams.length ≤ 1048576) := by
  refine Ctr.of_body en37 Try.func37 rfl rfl fun hp => (?_); rw [Try.ntmps37]
  refine AW.fact 0 fun hf => ?_
  simp (disch := omega) only [go_sem, Nat.reduceBEq] at hf
  (repeat' (first | (with_reducible first | refine Z ?_ | refine Y ?_ | (refine hK _ _ ?_; clear hK K) | exact trivial | refine And.intro ?_ ?_) | (refine AW.i rfl (fun h => ?_) (fun h => ?_) <;> try simp only [hC, reduceCtorEq] at h) | with_reducible rfl | with_reducible refine E ?_ | refine eF rfl ?_ | (with_reducible refine fun (K : _ → _ → Prop) hK => ?_) | (with_reducible show drawOK _ _ = true; kernel_rfl) | (with_reducible refine gI fun hg => ?_; try simp only [hC, reduceCtorEq] at hg; try simp only [hg]) | simp (maxSteps := 2000000) (disch := omega) only [go_sem] | (with_reducible intro hg; try simp only [hC, reduceCtorEq] at hg) | (with_reducible show List.Nodup _; decide) | (with_reducible show (_ : Bool) = false; first | rfl | (simp [*]; done)) | with_reducible exact at8_le _ _ | with_reducible exact at8_ge _ _ | (simp only [hC, reduceCtorEq]; omega) | omega | with_reducible assumption | (with_reducible show (_ : Bool) = true; first | (simp [*]; done) | (simp only [hC, reduceCtorEq]; (repeat' (first | assumption | apply And.intro)); done))))
  refine AW.loopV [3] [0, 1] (fun m xs o => ∃ k : Nat, xs = [.v (.int .i64 k)] ∧ o = [] ∧ m = x.fParams.length - k ∧ k ≤ x.fParams.length ∧ allTo (prmOk ip x.fParams) k = true ∧ allTo (fun j => !cont ((x.fParams.map GParam.fName).take j) (at_ (x.fParams.map GParam.fName) j)) k = true) x.fParams.length [] trivial ⟨0, ?_, rfl, rfl, ?_, rfl, rfl⟩ ?_
  · rfl
  · omega
  rintro m xs o ⟨k, rfl, rfl, rfl, hk, hR, hQ⟩
  (repeat' (first | (with_reducible first | refine Z ?_ | refine Y ?_ | (refine hK _ _ ?_; clear hK K) | exact trivial | refine And.intro ?_ ?_) | (refine AW.i rfl (fun h => ?_) (fun h => ?_) <;> try simp only [hC, reduceCtorEq] at h) | with_reducible rfl | with_reducible refine E ?_ | refine eF rfl ?_ | (with_reducible refine fun (K : _ → _ → Prop) hK => ?_) | (with_reducible show drawOK _ _ = true; kernel_rfl) | (with_reducible refine gI fun hg => ?_; try simp only [hC, reduceCtorEq] at hg; try simp only [hg]) | simp (maxSteps := 2000000) (disch := omega) only [go_sem] | (with_reducible intro hg; try simp only [hC, reduceCtorEq] at hg) | (with_reducible show List.Nodup _; decide) | (with_reducible show (_ : Bool) = false; first | rfl | (simp [*]; done)) | with_reducible exact at8_le _ _ | with_reducible exact at8_ge _ _ | (simp only [hC, reduceCtorEq]; omega) | omega | with_reducible assumption | (with_reducible show (_ : Bool) = true; first | (simp [*]; done) | (simp only [hC, reduceCtorEq]; (repeat' (first | assumption | apply And.intro)); done))))
  · rename_i h9
    rcases h with h | h
    · rw [isTemplate_no h9 (by rcases h with h | h <;> simp [prmOk, h])]
    · rw [isTemplate_dup h9 (by
        cases e : cont ((x.fParams.map GParam.fName).take k) (at_ (x.fParams.map GParam.fName) k) with
        | true => rfl
        | false => exact absurd ((prm_first h9).2 e) h)]
  · exact ⟨_, [_], [], by omega, ⟨k + 1, rfl, rfl, rfl, by omega, allTo_step hR (by simp [prmOk, h]), allTo_step hQ (by rw [(prm_first (by assumption)).1 h.2]; rfl)⟩, rfl, trivial⟩
  · rw [show k = x.fParams.length by omega] at hR hQ
    refine congrArg (fun z => AV.v (.bool z)) ?_
    have hd : diffs (x.fParams.map GParam.fName) = true := by unfold diffs; rw [List.length_map]; exact hQ
    rw [isTemplate, hR, hd, Bool.true_and, Bool.true_and, show decide ((x.fParams.length : Int) ≤ 6) = decide (x.fParams.length ≤ 6) from decide_eq_decide.2 (by omega)]
end
end Go.Proofs.Ytkdchlggdcmkbaa
