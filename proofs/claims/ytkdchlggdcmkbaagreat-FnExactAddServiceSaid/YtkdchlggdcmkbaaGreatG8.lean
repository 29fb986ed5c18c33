/-
  Part of a proof: Tx0, Tp0, Tp3, Pl0, Ds0, Ad0.
-/
import Derived.Test.YtkdchlggdcmkbaaGreatG3
import Derived.Test.YtkdchlggdcmkbaaGreatG6
import Derived.Test.YtkdchlggdcmkbaaGreatG7
set_option linter.unusedSimpArgs false
set_option linter.unusedVariables false
namespace Go.Dt
open Go.Ab
def allTo (p : Nat → Bool) : Nat → Bool
  | 0 => true
  | k + 1 => allTo p k && p k
theorem allTo_false {p : Nat → Bool} : ∀ {n j : Nat}, j < n → p j = false → allTo p n = false
  | 0, _, h, _ => by omega
  | n + 1, j, h, e => by
    simp only [allTo]
    by_cases hj : j = n
    · subst hj; simp [e]
    · rw [allTo_false (n := n) (by omega) e]; rfl
theorem allTo_step {p : Nat → Bool} {k : Nat} (h : allTo p k = true) (e : p k = true) : allTo p (k + 1) = true := by simp [allTo, h, e]
theorem allTo_get {p : Nat → Bool} : ∀ {n j : Nat}, allTo p n = true → j < n → p j = true
  | 0, _, _, h => by omega
  | n + 1, j, h, hj => by
    simp only [allTo, Bool.and_eq_true] at h
    by_cases e : j = n
    · subst e; exact h.2
    · exact allTo_get h.1 (by omega)
theorem allTo_list {α : Type} [Inhabited α] (q : α → Bool) (l : List α) : allTo (fun j => q (at_ l j)) l.length = l.all q := by
  have key : ∀ n, n ≤ l.length → allTo (fun j => q (at_ l j)) n = (l.take n).all q := by
    intro n
    induction n with
    | zero => intro _; simp [allTo]
    | succ n ih =>
      intro h
      rw [allTo, ih (by omega)]
      have : l.take (n + 1) = l.take n ++ [at_ l n] := by
        rw [List.take_succ_eq_append_getElem (by omega)]
        unfold at_; rw [List.getElem?_eq_getElem (by omega)]; rfl
      rw [this]; simp
  have := key l.length (Nat.le_refl _)
  rwa [List.take_length] at this

theorem szSl_neg {α : Type} {f : α → Int → Int} {l : List α} {r : Int} (h : r - l.length < 0) : szSl f l r = -1 := by unfold szSl thn; rw [if_pos h]
theorem szSl_pos {α : Type} {f : α → Int → Int} {l : List α} {r : Int} (h : 0 ≤ r - l.length) : szSl f l r = szGo f l (r - l.length) := by unfold szSl thn; rw [if_neg (by omega)]
theorem szGo_at {α : Type} [Inhabited α] {f : α → Int → Int} {l : List α} {k : Nat} {r : Int} (h : k < l.length) : szGo f (l.drop k) r = if f (at_ l k) r < 0 then -1 else szGo f (l.drop (k + 1)) (f (at_ l k) r) := by
  rw [at_drop h, szGo, thn]
theorem szGo_end {α : Type} {f : α → Int → Int} {l : List α} {k : Nat} {r : Int} (h : ¬ k < l.length) : szGo f (l.drop k) r = r := by
  rw [List.drop_eq_nil_of_le (by omega), szGo]
theorem rawL_n (n : Nat) : rawL n = 140737488355328 := rfl
attribute [go_sem] rawL_n
class Lok (L : Nat → Nat) : Prop where
  le : ∀ z, L z ≤ 4611686018427387904
instance : Lok lim := ⟨fun z => by unfold lim; split <;> omega⟩
instance : Lok rawL := ⟨fun z => by unfold rawL; omega⟩

def chN (s : Str) (j : Nat) : Bool := ltI (at8 s j) || (!(j == 0) && nmI (at8 s j))
def isName (s : Str) : Bool := allTo (chN s) s.length && (decide (1 ≤ s.length) && decide (s.length ≤ 16) && !(at8 s (s.length - 1 : Nat) == 45))
def chT (s : Str) (j : Nat) : Bool := decide (32 ≤ at8 s j) && decide (at8 s j ≤ 126)
def isText (s : Str) : Bool := allTo (chT s) s.length && decide (s.length ≤ 40)
end Go.Dt
namespace Go.Dt
open Go.Ab
def rgOk (l : List GRange) : Nat → Bool
  | 0 => decide ((at_ l 0).fLo ≤ (at_ l 0).fHi) && decide (-1000000000 ≤ (at_ l 0).fLo) && decide ((at_ l 0).fHi ≤ 1000000000)
  | j + 1 => decide ((at_ l (j + 1)).fLo ≤ (at_ l (j + 1)).fHi) && decide (-1000000000 ≤ (at_ l (j + 1)).fLo) && decide ((at_ l (j + 1)).fHi ≤ 1000000000) && decide ((at_ l j).fHi + 2 ≤ (at_ l (j + 1)).fLo)
theorem rgOk_hi {l : List GRange} {j : Nat} (h : rgOk l j = true) : (at_ l j).fLo ≤ (at_ l j).fHi ∧ -1000000000 ≤ (at_ l j).fLo ∧ (at_ l j).fHi ≤ 1000000000 := by
  cases j <;> simp [rgOk] at h <;> omega
theorem rg0 (l : List GRange) : rgOk l 0 = true ↔ (at_ l 0).fLo ≤ (at_ l 0).fHi ∧ -1000000000 ≤ (at_ l 0).fLo ∧ (at_ l 0).fHi ≤ 1000000000 := by simp [rgOk, and_assoc]
theorem rgS (l : List GRange) (j : Nat) : rgOk l (j + 1) = true ↔ (at_ l (j + 1)).fLo ≤ (at_ l (j + 1)).fHi ∧ -1000000000 ≤ (at_ l (j + 1)).fLo ∧ (at_ l (j + 1)).fHi ≤ 1000000000 ∧ (at_ l j).fHi + 2 ≤ (at_ l (j + 1)).fLo := by simp [rgOk, and_assoc]
def areRanges (l : List GRange) : Bool := allTo (rgOk l) l.length && decide (l.length ≤ 6)
theorem areRanges_no {l : List GRange} {j : Nat} (hj : j < l.length) (h : rgOk l j = false) : areRanges l = false := by
  rw [areRanges, allTo_false hj h]; rfl
theorem areRanges_end {l : List GRange} {k : Nat} (h : allTo (rgOk l) k = true) (e : k = l.length) : areRanges l = decide ((l.length : Int) ≤ 6) := by
  subst e; rw [areRanges, h, Bool.true_and]; exact decide_eq_decide.2 (by omega)
def cont (l : List Str) (s : Str) : Bool := decide (0 ≤ idx (fun x => x == s) l)
def diffs (l : List Str) : Bool := allTo (fun j => !cont (l.take j) (at_ l j)) l.length
def prmI (l : List GParam) (n : Str) : Int := idx (fun x => x.fName == n) l
def names (l : List Str) : Bool := allTo (fun j => isName (at_ l j)) l.length
end Go.Dt
namespace Go.Dt
open Go.Ab
def wtg : List GNode → Nat
  | [] => 0
  | .mk n v ks :: xs => (n.length + v.length + ks.length + wtg ks) + wtg xs
def wt (l : List GNode) : Nat := l.length + wtg l
def kc : List GNode → Nat
  | [] => 0
  | .mk _ _ ks :: xs => (ks.length + kc ks) + kc xs
def cnt (l : List GNode) : Nat := l.length + kc l
def dep : List GNode → Nat
  | [] => 0
  | .mk _ _ ks :: xs => max (1 + dep ks) (dep xs)
def nodeOk (x : GNode) : Bool := isName x.fName && isText x.fValue && (x.fValue == [] || x.fKids.length == 0)
def frm : List GNode → Bool
  | [] => true
  | .mk n v ks :: xs => (nodeOk (.mk n v ks) && frm ks) && frm xs
def lfr : List GNode → Nat → Bool
  | [], _ => true
  | .mk n v ks :: xs, d => (nodeOk (.mk n v ks) && (lfr ks (d + 1) && (ks.length == 0 || decide (d + 1 ≤ 10)))) && lfr xs d
def l13g : List GNode → Int → Int
  | [], q => q
  | .mk _ _ ks :: xs, q => if q < 0 then q else l13g xs (l13g ks (q - ks.length))
def bodyOk (ps : List Str) : List GNode → Bool
  | [] => true
  | .mk _ v ks :: xs => (((tk v).2 && (nmL (tk v)).all (cont ps)) && bodyOk ps ks) && bodyOk ps xs

section
variable {l : List GNode} {k : Nat}
theorem wtg_at (h : k < l.length) : wtg (l.drop k) = ((at_ l k).fName.length + (at_ l k).fValue.length + (at_ l k).fKids.length + wtg (at_ l k).fKids) + wtg (l.drop (k + 1)) := by
  rw [at_drop h]; cases at_ l k; rw [wtg]; rfl
theorem kc_at (h : k < l.length) : kc (l.drop k) = ((at_ l k).fKids.length + kc (at_ l k).fKids) + kc (l.drop (k + 1)) := by
  rw [at_drop h]; cases at_ l k; rw [kc]; rfl
theorem dep_at (h : k < l.length) : dep (l.drop k) = max (1 + dep (at_ l k).fKids) (dep (l.drop (k + 1))) := by
  rw [at_drop h]; cases at_ l k; rw [dep]; rfl
theorem frm_at (h : k < l.length) : frm (l.drop k) = ((nodeOk (at_ l k) && frm (at_ l k).fKids) && frm (l.drop (k + 1))) := by
  rw [at_drop h]; cases at_ l k; rw [frm]; rfl
theorem lfr_at (h : k < l.length) (d : Nat) : lfr (l.drop k) d = ((nodeOk (at_ l k) && (lfr (at_ l k).fKids (d + 1) && ((at_ l k).fKids.length == 0 || decide (d + 1 ≤ 10)))) && lfr (l.drop (k + 1)) d) := by
  rw [at_drop h]; cases at_ l k; rw [lfr]; rfl
theorem l13g_at (h : k < l.length) (q : Int) : l13g (l.drop k) q = if q < 0 then q else l13g (l.drop (k + 1)) (l13g (at_ l k).fKids (q - (at_ l k).fKids.length)) := by
  rw [at_drop h]; cases at_ l k; rw [l13g]; rfl
theorem bodyOk_at (ps : List Str) (h : k < l.length) : bodyOk ps (l.drop k) = ((((tk (at_ l k).fValue).2 && (nmL (tk (at_ l k).fValue)).all (cont ps)) && bodyOk ps (at_ l k).fKids) && bodyOk ps (l.drop (k + 1))) := by
  rw [at_drop h]; cases at_ l k; rw [bodyOk]; rfl
theorem wt_kid (h : k < l.length) : wt (at_ l k).fKids < wt l ∧ (at_ l k).fName.length ≤ wt l ∧ (at_ l k).fValue.length ≤ wt l := by
  have h1 := wtg_at h
  have h2 : ∀ j (l : List GNode), wtg (l.drop j) ≤ wtg l := by
    intro j
    induction j with
    | zero => intro l; simp
    | succ j ih =>
      intro l
      cases l with
      | nil => simp
      | cons x xs => cases x; simp only [List.drop_succ_cons, wtg]; have := ih xs; omega
  have h3 := h2 k l
  unfold wt
  omega
end
theorem nodeOk_no {x : GNode} (h : (isName x.fName = false ∨ isText x.fValue = false) ∨ ¬ x.fValue = [] ∧ 0 < (x.fKids.length : Int)) : nodeOk x = false := by
  unfold nodeOk
  rcases h with (h | h) | h
  · simp [h]
  · simp [h]
  · have : (x.fKids.length == 0) = false := by simp only [beq_eq_false_iff_ne]; omega
    simp [h.1, this]
theorem nodeOk_yes {x : GNode} (h : (isName x.fName = true ∧ isText x.fValue = true) ∧ (¬ x.fValue = [] → (x.fKids.length : Int) ≤ 0)) : nodeOk x = true := by
  unfold nodeOk
  rw [h.1.1, h.1.2]
  by_cases e : x.fValue = []
  · simp [e]
  · have := h.2 e
    have : (x.fKids.length == 0) = true := by simp only [beq_iff_eq]; omega
    simp [this]
theorem idx_map {α β : Type} (f : α → β) (p : β → Bool) : ∀ l : List α, idx (fun x => p (f x)) l = idx p (l.map f)
  | [] => rfl
  | x :: xs => by simp only [List.map_cons, idx, idx_map f p xs]
theorem prm_cont (ps : List GParam) (n : Str) : decide (0 ≤ prmI ps n) = cont (ps.map GParam.fName) n := by
  rw [prmI, idx_map GParam.fName (fun x => x == n)]; rfl
theorem rights_le : ∀ d : List Tok, (rights d).length ≤ d.length
  | [] => by simp [rights]
  | .inl _ :: d => by have := rights_le d; simp only [rights, List.length_cons]; omega
  | .inr _ :: d => by have := rights_le d; simp only [rights, List.length_cons]; omega
theorem nmL_len (s : Str) : (nmL (tk s)).length ≤ s.length := by
  have h1 := tk_len s
  have h2 := rights_le (tk s).1
  unfold nmL
  cases (tk s).2
  · simp
  · simp only [cond_true]; omega
theorem drop_end {α : Type} {l : List α} {k : Nat} (h : ¬ k < l.length) : l.drop k = [] := List.drop_eq_nil_of_le (by omega)

theorem kc_le : ∀ l : List GNode, kc l ≤ wtg l
  | [] => by simp [kc]
  | .mk n v ks :: xs => by have := kc_le ks; have := kc_le xs; simp only [kc, wtg]; omega
theorem cnt_le (l : List GNode) : cnt l ≤ wt l := by have := kc_le l; unfold cnt wt; omega
theorem dep_le : ∀ l : List GNode, dep l ≤ wt l
  | [] => by simp [dep]
  | .mk n v ks :: xs => by
    have h1 := dep_le ks; have h2 := dep_le xs; simp only [dep, wt, wtg, List.length_cons] at *; omega
theorem dep_pos : ∀ l : List GNode, dep l = 0 ↔ l.length = 0
  | [] => by simp [dep]
  | .mk n v ks :: xs => by simp only [dep, List.length_cons]; omega
theorem l13g_le : ∀ (l : List GNode) (q : Int), l13g l q ≤ q
  | [], q => by simp [l13g]
  | .mk n v ks :: xs, q => by
    have h1 := l13g_le ks (q - ks.length)
    have h2 := l13g_le xs (l13g ks (q - ks.length))
    simp only [l13g]; split <;> omega
theorem l13g_neg (l : List GNode) {q : Int} (h : q < 0) : l13g l q = q := by
  cases l with
  | nil => rw [l13g]
  | cons x xs => cases x; simp only [l13g]; rw [if_pos h]
theorem l13g_eq : ∀ (l : List GNode) (q : Int), 0 ≤ q → (0 ≤ l13g l q ↔ (kc l : Int) ≤ q) ∧ ((kc l : Int) ≤ q → l13g l q = q - kc l)
  | [], q, h => by simp only [l13g, kc]; omega
  | .mk n v ks :: xs, q, h => by
    simp only [l13g, kc]
    rw [if_neg (by omega)]
    rcases Int.lt_or_le (q - ks.length) 0 with h1 | h1
    · rw [l13g_neg ks h1, l13g_neg xs h1]
      constructor
      · omega
      · omega
    · have h2 := l13g_eq ks _ h1
      rcases Int.lt_or_le (l13g ks (q - ks.length)) 0 with h3 | h3
      · rw [l13g_neg xs h3]
        constructor
        · omega
        · omega
      · have h4 := l13g_eq xs _ h3
        have h5 := h2.2 (h2.1.1 h3)
        rw [h5] at h3 h4 ⊢
        constructor
        · omega
        · omega
theorem l13g_ge : ∀ (l : List GNode) (q : Int), -4611686018427387904 ≤ q → (wt l : Int) ≤ 1048576 → -4611686018427387904 ≤ l13g l q
  | [], q, h, _ => by simpa [l13g] using h
  | .mk n v ks :: xs, q, h, hw => by
    simp only [l13g]
    split
    · exact h
    · have e : (wt (.mk n v ks :: xs) : Nat) = (n.length + v.length + wt ks) + 1 + wt xs := by simp only [wt, wtg, List.length_cons]; omega
      have e2 : ks.length ≤ wt ks := by unfold wt; omega
      exact l13g_ge xs _ (l13g_ge ks _ (by omega) (by omega)) (by omega)
theorem lfr_eq : ∀ (l : List GNode) (d : Nat), 1 ≤ d → d ≤ 10 → lfr l d = (frm l && decide (d + dep l ≤ 11))
  | [], d, _, h => by simp [lfr, frm, dep]; omega
  | .mk n v ks :: xs, d, h0, h => by
    have h2 := lfr_eq xs d h0 h
    simp only [lfr, frm, dep]
    rw [h2]
    by_cases h3 : d + 1 ≤ 10
    · have h1 := lfr_eq ks (d + 1) (by omega) h3
      rw [h1]
      have e1 : decide (d + 1 ≤ 10) = true := by simpa using h3
      rw [e1, Bool.or_true, Bool.and_true]
      have e2 : decide (d + max (1 + dep ks) (dep xs) ≤ 11) = (decide (d + 1 + dep ks ≤ 11) && decide (d + dep xs ≤ 11)) := by
        rw [← Bool.decide_and]; exact decide_eq_decide.2 (by omega)
      rw [e2]
      cases nodeOk (.mk n v ks) <;> cases frm ks <;> cases frm xs <;> simp
    · have e1 : decide (d + 1 ≤ 10) = false := by simpa using h3
      rw [e1, Bool.or_false]
      have hd := dep_pos ks
      by_cases h4 : ks.length = 0
      · have h5 : ks = [] := List.length_eq_zero_iff.1 h4
        subst h5
        have e2 : decide (d + max (1 + dep []) (dep xs) ≤ 11) = decide (d + dep xs ≤ 11) := decide_eq_decide.2 (by simp only [dep]; omega)
        rw [e2]
        simp [lfr, frm]
        cases nodeOk (.mk n v []) <;> cases frm xs <;> simp
      · have e3 : (ks.length == 0) = false := by simpa using h4
        have e4 : decide (d + max (1 + dep ks) (dep xs) ≤ 11) = false := by simp only [decide_eq_false_iff_not]; omega
        rw [e3, e4]; simp
def isForm (l : List GNode) : Bool := decide (cnt l ≤ 120) && decide (dep l ≤ 10) && frm l
theorem isForm_spec (l : List GNode) : (decide (0 ≤ l13g l (120 - l.length)) && (lfr l 1 && (l.length == 0 || decide (1 ≤ 10)))) = isForm l := by
  rw [lfr_eq l 1 (by omega) (by omega)]
  have e1 : decide (0 ≤ l13g l (120 - l.length)) = decide (cnt l ≤ 120) := by
    apply decide_eq_decide.2
    unfold cnt
    rcases Int.lt_or_le (120 - (l.length : Int)) 0 with h | h
    · rw [l13g_neg l h]; omega
    · have := (l13g_eq l _ h).1; omega
  have e2 : decide (1 + dep l ≤ 11) = decide (dep l ≤ 10) := decide_eq_decide.2 (by omega)
  rw [e1, e2]
  simp [isForm]
  cases decide (cnt l ≤ 120) <;> cases frm l <;> simp
theorem thn_ge {a : Int} {k : Int → Int} (h : 0 ≤ thn a k) : 0 ≤ a ∧ thn a k = k a := by
  unfold thn at h ⊢
  split at h
  · omega
  · rw [if_neg (by assumption)]; exact ⟨by omega, rfl⟩
theorem wt_of_sz : ∀ (l : List GNode) (r : Int), 0 ≤ r → 0 ≤ szNodeGo l r → szNodeGo l r + wtg l = r
  | [], r, _, _ => by simp [szNodeGo, wtg]
  | .mk n v ks :: xs, r, h0, h => by
    rw [szNodeGo] at h ⊢
    have hx : ∀ q, 0 ≤ szNode (.mk n v ks) q → 0 ≤ q → szNode (.mk n v ks) q + (n.length + v.length + ks.length + wtg ks : Nat) = q := by
      intro q hq h0
      rw [szNode] at hq ⊢
      obtain ⟨h1, e1⟩ := thn_ge hq
      rw [e1] at hq ⊢
      obtain ⟨h2, e2⟩ := thn_ge hq
      rw [e2] at hq ⊢
      obtain ⟨h3, e3⟩ := thn_ge hq
      rw [e3] at hq ⊢
      simp only [id] at h3 ⊢
      obtain ⟨h4, e4⟩ := thn_ge h3
      rw [e4] at h3 ⊢
      have := wt_of_sz ks _ h4 h3
      unfold szStr at *
      omega
    obtain ⟨h1, e1⟩ := thn_ge h
    rw [e1] at h ⊢
    have h3 := hx r h1 h0
    have h2 := wt_of_sz xs _ h1 h
    rw [wtg]
    omega
theorem wt_fit {l : List GNode} {r : Int} (h0 : 0 ≤ r) (h : 0 ≤ szSl szNode l r) : (wt l : Int) ≤ r := by
  rcases Int.lt_or_le (r - l.length) 0 with h2 | h2
  · rw [szSl_neg h2] at h; omega
  · rw [szSl_pos h2, ← szNodeGo_eq] at h
    have := wt_of_sz l _ h2 h
    unfold wt; omega

def isType (ip : Str → Bool) (x : GType) : Bool :=
  (decide (x.fKind = 1) && areRanges x.fRanges && x.fNames.isEmpty && x.fPattern.isEmpty && x.fPath.isEmpty) ||
  (decide (x.fKind = 2) && areRanges x.fRanges && (x.fRanges.isEmpty || decide (0 ≤ (at_ x.fRanges 0).fLo)) && (x.fPattern.isEmpty || ip x.fPattern) && x.fNames.isEmpty && x.fPath.isEmpty) ||
  (decide (x.fKind = 4) && decide (1 ≤ x.fNames.length) && decide (x.fNames.length ≤ 6) && names x.fNames && diffs x.fNames && x.fRanges.isEmpty && x.fPattern.isEmpty && x.fPath.isEmpty) ||
  (decide (x.fKind = 5) && isText x.fPath && !x.fPath.isEmpty && x.fRanges.isEmpty && x.fNames.isEmpty && x.fPattern.isEmpty) ||
  (decide (x.fKind = 3 ∨ x.fKind = 6) && x.fRanges.isEmpty && x.fNames.isEmpty && x.fPattern.isEmpty && x.fPath.isEmpty)

section
variable {ip : Str → Bool} {x : GType}
theorem isType_k1 (h : x.fKind = 1) : isType ip x = (areRanges x.fRanges && x.fNames.isEmpty && x.fPattern.isEmpty && x.fPath.isEmpty) := by simp [isType, h]
theorem isType_k2 (h : x.fKind = 2) : isType ip x = (areRanges x.fRanges && (x.fRanges.isEmpty || decide (0 ≤ (at_ x.fRanges 0).fLo)) && (x.fPattern.isEmpty || ip x.fPattern) && x.fNames.isEmpty && x.fPath.isEmpty) := by simp [isType, h]
theorem isType_k4 (h : x.fKind = 4) : isType ip x = (decide (1 ≤ x.fNames.length) && decide (x.fNames.length ≤ 6) && names x.fNames && diffs x.fNames && x.fRanges.isEmpty && x.fPattern.isEmpty && x.fPath.isEmpty) := by simp [isType, h]
theorem isType_k5 (h : x.fKind = 5) : isType ip x = (isText x.fPath && !x.fPath.isEmpty && x.fRanges.isEmpty && x.fNames.isEmpty && x.fPattern.isEmpty) := by simp [isType, h]
theorem isType_kz (h1 : ¬ x.fKind = 1) (h2 : ¬ x.fKind = 2) (h4 : ¬ x.fKind = 4) (h5 : ¬ x.fKind = 5) : isType ip x = (decide (x.fKind = 3 ∨ x.fKind = 6) && x.fRanges.isEmpty && x.fNames.isEmpty && x.fPattern.isEmpty && x.fPath.isEmpty) := by simp [isType, h1, h2, h4, h5]
theorem isType_no (h : (((¬x.fKind = 1 ∧ ¬x.fKind = 2) ∧ ¬x.fRanges = [] ∨ ¬x.fKind = 4 ∧ ¬x.fNames = []) ∨ ¬x.fKind = 2 ∧ ¬x.fPattern = []) ∨ ¬x.fKind = 5 ∧ ¬x.fPath = []) : isType ip x = false := by
  by_cases h1 : x.fKind = 1
  · rw [isType_k1 h1]; simp [h1] at h
    rcases h with (h | h) | h <;> simp [h]
  by_cases h2 : x.fKind = 2
  · rw [isType_k2 h2]; simp [h2] at h
    rcases h with h | h <;> simp [h]
  by_cases h4 : x.fKind = 4
  · rw [isType_k4 h4]; simp [h4] at h
    rcases h with (h | h) | h <;> simp [h]
  by_cases h5 : x.fKind = 5
  · rw [isType_k5 h5]; simp [h5] at h
    rcases h with (h | h) | h <;> simp [h]
  · rw [isType_kz h1 h2 h4 h5]; simp [h1, h2, h4, h5] at h
    rcases h with ((h | h) | h) | h <;> simp [h]
end

section
variable {ip : Str → Bool} {x : GType}
theorem nil_of {α : Type} {l : List α} (h : (l.length : Int) ≤ 0) : l = [] := List.length_eq_zero_iff.1 (by omega)
theorem isE0 {α : Type} (l : List α) : ((l.length : Int) == 0) = l.isEmpty := by cases l <;> simp <;> omega
theorem isEn {α : Type} [BEq α] (l : List α) : (l == []) = l.isEmpty := by cases l <;> rfl
theorem isType_w0 (h : (((¬x.fKind = 1 ∧ ¬x.fKind = 2) ∧ (0 : Int) < x.fRanges.length ∨ ¬x.fKind = 4 ∧ (0 : Int) < x.fNames.length) ∨ ¬x.fKind = 2 ∧ ¬x.fPattern = []) ∨ ¬x.fKind = 5 ∧ ¬x.fPath = []) : false = isType ip x := by
  have e3 : (0 : Int) < x.fRanges.length ↔ ¬ x.fRanges = [] := by rw [← List.length_eq_zero_iff]; omega
  have e4 : (0 : Int) < x.fNames.length ↔ ¬ x.fNames = [] := by rw [← List.length_eq_zero_iff]; omega
  rw [e3, e4] at h
  exact (isType_no h).symm
section
variable (H : (((¬x.fKind = 1 ∧ ¬x.fKind = 2 → (x.fRanges.length : Int) ≤ 0) ∧ (¬x.fKind = 4 → (x.fNames.length : Int) ≤ 0)) ∧ (¬x.fKind = 2 → x.fPattern = [])) ∧ (¬x.fKind = 5 → x.fPath = []))
include H
theorem isType_w1 (h : x.fKind = 1) : areRanges x.fRanges = isType ip x := by
  rw [isType_k1 h, nil_of (H.1.1.2 (by omega)), H.1.2 (by omega), H.2 (by omega)]; simp
theorem isType_w2 (h : x.fKind = 2) : (areRanges x.fRanges && ((x.fRanges.length : Int) == 0 || decide (0 ≤ (at_ x.fRanges 0).fLo)) && (x.fPattern == [] || ip x.fPattern)) = isType ip x := by
  rw [isType_k2 h, nil_of (H.1.1.2 (by omega)), H.2 (by omega), isE0, isEn]; simp
theorem isType_w4 (h : x.fKind = 4) : (decide ((1 : Int) ≤ x.fNames.length) && decide ((x.fNames.length : Int) ≤ 6) && names x.fNames && diffs x.fNames) = isType ip x := by
  rw [isType_k4 h, nil_of (H.1.1.1 (by omega)), H.1.2 (by omega), H.2 (by omega)]
  rw [show decide ((1 : Int) ≤ x.fNames.length) = decide (1 ≤ x.fNames.length) from decide_eq_decide.2 (by omega), show decide ((x.fNames.length : Int) ≤ 6) = decide (x.fNames.length ≤ 6) from decide_eq_decide.2 (by omega)]
  simp
theorem isType_w5 (h : x.fKind = 5) : (!x.fPath == [] && isText x.fPath) = isType ip x := by
  rw [isType_k5 h, nil_of (H.1.1.1 (by omega)), nil_of (H.1.1.2 (by omega)), H.1.2 (by omega), isEn]
  cases x.fPath.isEmpty <;> simp
theorem isType_wz (h1 : ¬ x.fKind = 1) (h2 : ¬ x.fKind = 2) (h4 : ¬ x.fKind = 4) (h5 : ¬ x.fKind = 5) : (x.fKind == 3 || x.fKind == 6) = isType ip x := by
  rw [isType_kz h1 h2 h4 h5, nil_of (H.1.1.1 (by omega)), nil_of (H.1.1.2 (by omega)), H.1.2 (by omega), H.2 (by omega)]
  by_cases h3 : x.fKind = 3 <;> by_cases h6 : x.fKind = 6 <;> simp [h3, h6]
end
end

theorem isEp {α : Type} (l : List α) : (!decide ((0 : Int) < l.length)) = l.isEmpty := by
  cases l with
  | nil => rfl
  | cons x xs => simp
theorem idx_mem (s : Str) : ∀ l : List Str, 0 ≤ idx (fun x => x == s) l ↔ s ∈ l
  | [] => by simp [idx]
  | x :: xs => by
    have ih := idx_mem s xs
    have h0 := idx_ge (fun x => x == s) xs
    by_cases e : x = s
    · subst e; simp [idx]
    · have e' : (x == s) = false := by simpa using e
      have e'' : ¬ s = x := fun h => e h.symm
      simp only [idx, e', Bool.false_eq_true, if_false, List.mem_cons, e'', false_or, ← ih]
      split <;> omega
theorem cont_iff (l : List Str) (s : Str) : cont l s = true ↔ s ∈ l := by
  unfold cont
  rw [decide_eq_true_eq, idx_mem]
theorem at_take {α : Type} [Inhabited α] {l : List α} {j k : Nat} (h : j < k) : at_ (l.take k) j = at_ l j := by unfold at_; rw [List.getElem?_take, if_pos h]
theorem cont_dup {l : List Str} {j k : Nat} (hj : j < k) (hk : k < l.length) (h : at_ l j = at_ l k) : cont (l.take k) (at_ l k) = true := by
  rw [cont_iff, ← h]
  have : (l.take k)[j]? = some (at_ l j) := by rw [List.getElem?_take, if_pos hj]; exact at_get (by omega)
  exact List.mem_of_getElem? this
theorem cont_free {l : List Str} {k : Nat} {s : Str} (h : ∀ y ∈ l.take k, (y == s) = false) : cont (l.take k) s = false := by
  rw [Bool.eq_false_iff]
  intro hc
  have := h s ((cont_iff _ _).1 hc)
  simp at this
section
variable {ip : Str → Bool} {x : GType}
theorem isType_bad {k : Nat} (hk : k < x.fNames.length) (h : names x.fNames = false ∨ diffs x.fNames = false) : false = isType ip x := by
  have e : x.fNames.isEmpty = false := by cases hx : x.fNames with | nil => rw [hx] at hk; simp at hk | cons a b => rfl
  unfold isType
  rw [e]
  rcases h with h | h <;> simp [h]
theorem isType_v1 (h : x.fKind = 1) : (areRanges x.fRanges && !decide ((0 : Int) < x.fNames.length) && x.fPattern == [] && x.fPath == []) = isType ip x := by
  rw [isType_k1 h, isEp, isEn, isEn]
theorem isType_v2 (h : x.fKind = 2) : (areRanges x.fRanges && (!decide ((0 : Int) < x.fRanges.length) || decide (0 ≤ (at_ x.fRanges 0).fLo)) && (x.fPattern == [] || ip x.fPattern) && !decide ((0 : Int) < x.fNames.length) && x.fPath == []) = isType ip x := by
  rw [isType_k2 h, isEp, isEp, isEn, isEn]
theorem isType_v4 (h : x.fKind = 4) (h1 : names x.fNames = true) (h2 : diffs x.fNames = true) : (decide ((1 : Int) ≤ x.fNames.length) && decide ((x.fNames.length : Int) ≤ 6) && !decide ((0 : Int) < x.fRanges.length) && x.fPattern == [] && x.fPath == []) = isType ip x := by
  rw [isType_k4 h, isEp, isEn, isEn, h1, h2, Bool.and_true, Bool.and_true]
  rw [show decide ((1 : Int) ≤ x.fNames.length) = decide (1 ≤ x.fNames.length) from decide_eq_decide.2 (by omega), show decide ((x.fNames.length : Int) ≤ 6) = decide (x.fNames.length ≤ 6) from decide_eq_decide.2 (by omega)]
theorem isType_v5 (h : x.fKind = 5) : (isText x.fPath && !x.fPath == [] && !decide ((0 : Int) < x.fRanges.length) && !decide ((0 : Int) < x.fNames.length) && x.fPattern == []) = isType ip x := by
  rw [isType_k5 h, isEp, isEp, isEn, isEn]
theorem isType_v3 (h1 : ¬ x.fKind = 1) (h2 : ¬ x.fKind = 2) (h4 : ¬ x.fKind = 4) (h5 : ¬ x.fKind = 5) (h : x.fKind = 3 ∨ x.fKind = 6) : (!decide ((0 : Int) < x.fRanges.length) && !decide ((0 : Int) < x.fNames.length) && x.fPattern == [] && x.fPath == []) = isType ip x := by
  rw [isType_kz h1 h2 h4 h5, isEp, isEp, isEn, isEn, show decide (x.fKind = 3 ∨ x.fKind = 6) = true by simpa using h, Bool.true_and]
theorem isType_vz (h1 : ¬ x.fKind = 1) (h2 : ¬ x.fKind = 2) (h4 : ¬ x.fKind = 4) (h5 : ¬ x.fKind = 5) (h3 : ¬ x.fKind = 3) (h6 : ¬ x.fKind = 6) : false = isType ip x := by
  rw [isType_kz h1 h2 h4 h5, show decide (x.fKind = 3 ∨ x.fKind = 6) = false by simp [h3, h6]]; rfl
end

def prmOk (ip : Str → Bool) (l : List GParam) (j : Nat) : Bool := isName (at_ l j).fName && isType ip (at_ l j).fType
def isTemplate (ip : Str → Bool) (x : GTemplate) : Bool := allTo (prmOk ip x.fParams) x.fParams.length && diffs (x.fParams.map GParam.fName) && isName x.fName && decide (x.fParams.length ≤ 6) && isForm x.fBody && bodyOk (x.fParams.map GParam.fName) x.fBody

theorem at_map {α β : Type} [Inhabited α] [Inhabited β] (f : α → β) {l : List α} {k : Nat} (h : k < l.length) : at_ (l.map f) k = f (at_ l k) := by
  unfold at_; rw [List.getElem?_map, List.getElem?_eq_getElem h]; rfl
theorem prm_first {l : List GParam} {k : Nat} (hk : k < l.length) : prmI l (at_ l k).fName = k ↔ cont ((l.map GParam.fName).take k) (at_ (l.map GParam.fName) k) = false := by
  have hk' : k < (l.map GParam.fName).length := by simpa using hk
  rw [at_map GParam.fName hk, prmI, idx_map GParam.fName (fun x => x == (at_ l k).fName)]
  have hself : ((at_ (l.map GParam.fName) k) == (at_ l k).fName) = true := by rw [at_map GParam.fName hk]; simp
  constructor
  · intro h
    rw [Bool.eq_false_iff]
    intro hc
    have hm := (cont_iff _ _).1 hc
    obtain ⟨j, hj, e⟩ := List.getElem_of_mem hm
    rw [List.length_take] at hj
    have e2 : at_ (l.map GParam.fName) j = (at_ l k).fName := by
      unfold at_
      rw [List.getElem_take] at e
      rw [List.getElem?_eq_getElem (by omega), e]; rfl
    have hle : ∀ (m : List Str) (j : Nat), j < m.length → at_ m j = (at_ l k).fName → idx (fun x => x == (at_ l k).fName) m ≤ j := by
      intro m
      induction m with
      | nil => intro j h; simp at h
      | cons y ys ih =>
        intro j hj he
        simp only [idx]
        split
        · omega
        · cases j with
          | zero => rename_i hn; simp [at_] at he; simp [he] at hn; simp [at_] at hn
          | succ j =>
            have := ih j (by simpa using hj) (by simpa [at_] using he)
            split
            · omega
            · omega
    have := hle _ j (by omega) e2
    omega
  · intro h
    refine idx_at' hk' (fun y hy => ?_) hself
    rw [beq_eq_false_iff_ne]
    intro e
    rw [e] at hy
    rw [(cont_iff _ _).2 hy] at h
    cases h
theorem isTemplate_no {ip : Str → Bool} {x : GTemplate} {k : Nat} (hk : k < x.fParams.length) (h : prmOk ip x.fParams k = false) : isTemplate ip x = false := by
  unfold isTemplate; rw [allTo_false hk h]; rfl
theorem isTemplate_dup {ip : Str → Bool} {x : GTemplate} {k : Nat} (hk : k < x.fParams.length) (h : cont ((x.fParams.map GParam.fName).take k) (at_ (x.fParams.map GParam.fName) k) = true) : isTemplate ip x = false := by
  unfold isTemplate
  rw [show diffs (x.fParams.map GParam.fName) = false from allTo_false (by simpa using hk) (by simp [h])]
  simp
end Go.Dt
namespace Go.Dt
open Go.Ab
theorem bl_geq : ∀ (x y : Str), (Op.bytesLess x y || x == y) = !Op.bytesLess y x
  | [], [] => by simp [Op.bytesLess]
  | [], _ :: _ => by simp [Op.bytesLess]
  | _ :: _, [] => by simp [Op.bytesLess]
  | a :: x, b :: y => by
    have ih := bl_geq x y
    simp only [Op.bytesLess]
    by_cases e : a = b
    · subst e
      have : decide (a < a) = false := by simp
      simp only [this, beq_self_eq_true, Bool.true_and, Bool.false_or, ← ih]
      cases Op.bytesLess x y <;> simp
    · have e' : ¬ b = a := fun h => e h.symm
      have e1 : (a == b) = false := by simpa using e
      have e2 : (b == a) = false := by simpa using e'
      have e3 : (a :: x == b :: y) = false := by simp [e]
      rw [e1, e2, e3, Bool.false_and, Bool.false_and, Bool.or_false, Bool.or_false, Bool.or_false]
      by_cases h : a < b
      · have h2 : ¬ b < a := fun h3 => by
          have h4 := UInt8.lt_iff_toNat_lt.1 h
          have h5 := UInt8.lt_iff_toNat_lt.1 h3
          omega
        simp [h, h2]
      · have h2 : b < a := by
          have h4 : ¬ a.toNat < b.toNat := fun h5 => h (UInt8.lt_iff_toNat_lt.2 h5)
          have h5 : ¬ a.toNat = b.toNat := fun h6 => e (UInt8.toNat_inj.1 h6)
          exact UInt8.lt_iff_toNat_lt.2 (by omega)
        simp [h, h2]
def tmI (l : List GTemplate) (n : Str) : Int := idx (fun x => x.fName == n) l
def svc (T : List GTemplate) (x : GService) : Bool := (isName x.fName && decide (0 ≤ tmI T x.fTemplate)) && (names x.fTargets && diffs x.fTargets)
def svOk (T : List GTemplate) (S : List GService) (j : Nat) : Bool := svc T (at_ S j) && (j == 0 || Op.bytesLess (at_ S (j - 1)).fName (at_ S j).fName)
def isPlan (ip : Str → Bool) (T : List GTemplate) (S : List GService) : Bool := ((allTo (fun j => isTemplate ip (at_ T j)) T.length && diffs (T.map GTemplate.fName)) && (decide (T.length ≤ 8) && decide (S.length ≤ 8))) && allTo (svOk T S) S.length
theorem isPlan_t {ip : Str → Bool} {T : List GTemplate} {S : List GService} {j : Nat} (hj : j < T.length) (h : isTemplate ip (at_ T j) = false) : isPlan ip T S = false := by
  rw [isPlan, allTo_false hj h]; rfl
theorem isPlan_s {ip : Str → Bool} {T : List GTemplate} {S : List GService} {j : Nat} (hj : j < S.length) (h : svOk T S j = false) : isPlan ip T S = false := by
  rw [isPlan, allTo_false hj h, Bool.and_false]
theorem isPlan_n {ip : Str → Bool} {T : List GTemplate} {S : List GService} (h : (8 < T.length ∨ diffs (T.map GTemplate.fName) = false) ∨ 8 < S.length) : isPlan ip T S = false := by
  rw [isPlan]
  rcases h with (h | h) | h
  · rw [show decide (T.length ≤ 8) = false from decide_eq_false (by omega)]; simp
  · rw [h]; simp
  · rw [show decide (S.length ≤ 8) = false from decide_eq_false (by omega)]; simp
theorem first_iff {α : Type} [Inhabited α] (f : α → Str) {l : List α} {k : Nat} (hk : k < l.length) : idx (fun x => f x == f (at_ l k)) l = k ↔ cont ((l.map f).take k) (at_ (l.map f) k) = false := by
  have hk' : k < (l.map f).length := by simpa using hk
  rw [at_map f hk, idx_map f (fun x => x == f (at_ l k))]
  have hself : ((at_ (l.map f) k) == f (at_ l k)) = true := by rw [at_map f hk]; simp
  constructor
  · intro h
    rw [Bool.eq_false_iff]
    intro hc
    have hm := (cont_iff _ _).1 hc
    obtain ⟨j, hj, e⟩ := List.getElem_of_mem hm
    rw [List.length_take] at hj
    have e2 : at_ (l.map f) j = f (at_ l k) := by
      unfold at_
      rw [List.getElem_take] at e
      rw [List.getElem?_eq_getElem (by omega), e]; rfl
    have hle : ∀ (m : List Str) (j : Nat), j < m.length → at_ m j = f (at_ l k) → idx (fun x => x == f (at_ l k)) m ≤ j := by
      intro m
      induction m with
      | nil => intro j h; simp at h
      | cons y ys ih =>
        intro j hj he
        simp only [idx]
        split
        · omega
        · cases j with
          | zero => rename_i hn; simp [at_] at he; simp [he] at hn; simp [at_] at hn
          | succ j =>
            have := ih j (by simpa using hj) (by simpa [at_] using he)
            split
            · omega
            · omega
    have := hle _ j (by omega) e2
    omega
  · intro h
    refine idx_at' hk' (fun y hy => ?_) hself
    rw [beq_eq_false_iff_ne]
    intro e
    rw [e] at hy
    rw [(cont_iff _ _).2 hy] at h
    cases h
end Go.Dt
namespace Go.Dt
open Go.Ab
theorem szGo_mem {α : Type} {f : α → Int → Int} (hf : ∀ x r, 0 ≤ r → f x r ≤ r) : ∀ (l : List α) (r : Int), 0 ≤ r → 0 ≤ szGo f l r → ∀ x ∈ l, ∃ r', 0 ≤ r' ∧ r' ≤ r ∧ 0 ≤ f x r'
  | [], _, _, _, _, hx => by cases hx
  | y :: ys, r, h0, h, x, hx => by
    rw [szGo, thn] at h
    split at h
    · omega
    · rename_i h1
      rcases List.mem_cons.1 hx with rfl | hx
      · exact ⟨r, h0, Int.le_refl r, by omega⟩
      · obtain ⟨r', a, b, c⟩ := szGo_mem hf ys _ (by omega) h x hx
        have := hf y r h0
        exact ⟨r', a, by omega, c⟩
theorem szSl_mem {α : Type} {f : α → Int → Int} (hf : ∀ x r, 0 ≤ r → f x r ≤ r) {l : List α} {r : Int} (h : 0 ≤ szSl f l r) {x : α} (hx : x ∈ l) : ∃ r', 0 ≤ r' ∧ r' ≤ r ∧ 0 ≤ f x r' := by
  rcases Int.lt_or_le (r - l.length) 0 with h4 | h4
  · rw [szSl_neg h4] at h; omega
  · rw [szSl_pos h4] at h
    obtain ⟨r', a, b, c⟩ := szGo_mem hf l _ h4 h x hx
    exact ⟨r', a, by omega, c⟩
theorem szSl_lenle {α : Type} {f : α → Int → Int} {l : List α} {r : Int} (h : 0 ≤ szSl f l r) : (l.length : Int) ≤ r := by
  rcases Int.lt_or_le (r - l.length) 0 with h4 | h4
  · rw [szSl_neg h4] at h; omega
  · omega
end Go.Dt
namespace Go.Dt
open Go.Ab
theorem take_at' {α : Type} [Inhabited α] {l : List α} {i : Nat} (h : i < l.length) : l.take (i + 1) = l.take i ++ [at_ l i] := by
  rw [List.take_succ_eq_append_getElem h]; unfold at_; rw [List.getElem?_eq_getElem h]; rfl
theorem svOk_no {T : List GTemplate} {S : List GService} {j : Nat} (h : (((isName (at_ S j).fName = false ∨ 0 < (j : Int) ∧ (Op.bytesLess (at_ S j).fName (at_ S ((j : Int) - 1).toNat).fName = true ∨ (at_ S j).fName = (at_ S ((j : Int) - 1).toNat).fName)) ∨ tmI T (at_ S j).fTemplate < 0) ∨ names (at_ S j).fTargets = false) ∨ diffs (at_ S j).fTargets = false) : svOk T S j = false := by
  unfold svOk svc
  rcases h with (((h | ⟨h0, h⟩) | h) | h) | h
  · rw [h]; simp
  · have e : ((j : Int) - 1).toNat = j - 1 := by omega
    rw [e] at h
    have h2 : (Op.bytesLess (at_ S j).fName (at_ S (j - 1)).fName || (at_ S j).fName == (at_ S (j - 1)).fName) = true := by
      rcases h with h | h
      · rw [h]; rfl
      · simp [h]
    rw [bl_geq] at h2
    have h3 : Op.bytesLess (at_ S (j - 1)).fName (at_ S j).fName = false := by simpa using h2
    have h4 : (j == 0) = false := by simp only [beq_eq_false_iff_ne]; omega
    rw [h3, h4]; simp
  · rw [show decide (0 ≤ tmI T (at_ S j).fTemplate) = false from decide_eq_false (by omega)]; simp
  · rw [h]; simp
  · rw [h]; simp
theorem svOk_yes {T : List GTemplate} {S : List GService} {j : Nat} (h : (((isName (at_ S j).fName = true ∧ (0 < (j : Int) → Op.bytesLess (at_ S j).fName (at_ S ((j : Int) - 1).toNat).fName = false ∧ ¬(at_ S j).fName = (at_ S ((j : Int) - 1).toNat).fName)) ∧ 0 ≤ tmI T (at_ S j).fTemplate) ∧ names (at_ S j).fTargets = true) ∧ diffs (at_ S j).fTargets = true) : svOk T S j = true := by
  unfold svOk svc
  obtain ⟨⟨⟨⟨h1, h2⟩, h3⟩, h4⟩, h5⟩ := h
  rw [h1, h4, h5, show decide (0 ≤ tmI T (at_ S j).fTemplate) = true from decide_eq_true h3]
  by_cases h0 : j = 0
  · simp [h0]
  · have e : ((j : Int) - 1).toNat = j - 1 := by omega
    have h6 := h2 (by omega)
    rw [e] at h6
    have h7 := bl_geq (at_ S j).fName (at_ S (j - 1)).fName
    rw [h6.1, show ((at_ S j).fName == (at_ S (j - 1)).fName) = false by simpa using h6.2] at h7
    have h8 : Op.bytesLess (at_ S (j - 1)).fName (at_ S j).fName = true := by simpa using h7
    rw [h8]; simp
theorem svOk_no2 {T : List GTemplate} {S : List GService} {j : Nat} (h : svc T (at_ S j) = false ∨ 0 < (j : Int) ∧ Op.bytesLess (at_ S ((j : Int) - 1).toNat).fName (at_ S j).fName = false) : svOk T S j = false := by
  unfold svOk
  rcases h with h | ⟨h0, h⟩
  · rw [h]; rfl
  · have e : ((j : Int) - 1).toNat = j - 1 := by omega
    have h4 : (j == 0) = false := by simp only [beq_eq_false_iff_ne]; omega
    rw [e] at h
    rw [h, h4]; simp
theorem svOk_yes2 {T : List GTemplate} {S : List GService} {j : Nat} (h : svc T (at_ S j) = true ∧ (0 < (j : Int) → Op.bytesLess (at_ S ((j : Int) - 1).toNat).fName (at_ S j).fName = true)) : svOk T S j = true := by
  unfold svOk
  rw [h.1]
  by_cases h0 : j = 0
  · simp [h0]
  · have e : ((j : Int) - 1).toNat = j - 1 := by omega
    have h6 := h.2 (by omega)
    rw [e] at h6
    rw [h6]; simp
theorem isPlan_dup {ip : Str → Bool} {T : List GTemplate} {S : List GService} {j : Nat} (hj : j < T.length) (h : ¬ tmI T (at_ T j).fName = j) : isPlan ip T S = false := by
  rw [isPlan]
  have : diffs (T.map GTemplate.fName) = false := by
    unfold diffs
    refine allTo_false (j := j) (by simpa using hj) ?_
    cases e : cont ((T.map GTemplate.fName).take j) (at_ (T.map GTemplate.fName) j) with
    | true => rfl
    | false => exact absurd ((first_iff GTemplate.fName hj).2 e) h
  rw [this]; simp
end Go.Dt
namespace Go.Dt
def tmsOk (T : List GTemplate) : Prop := ∀ t ∈ T, wt t.fBody ≤ 1048576 ∧ t.fParams.length ≤ 1048576
end Go.Dt
namespace Go.Dt
open Go.Ab
def svI (l : List GService) (n : Str) : Int := idx (fun x => x.fName == n) l
def dropS (l : List GService) (n : Str) : List GService := if svI l n < 0 then l else l.take (svI l n).toNat ++ l.drop ((svI l n).toNat + 1)
def dropP (x : GPlan) (n : Str) : GPlan := ⟨x.fTemplates, dropS x.fServices n⟩
def dropF (l : List GService) (n : Str) : Bool := !(decide (svI l n < 0))
end Go.Dt
namespace Go.Dt
open Go.Ab
def svJ (l : List GService) (x : GService) : Int := idx (fun y => Op.bytesLess x.fName y.fName) l
def addK (l : List GService) (x : GService) : Nat := if svJ l x < 0 then l.length else (svJ l x).toNat
def addS (l : List GService) (x : GService) : List GService := l.take (addK l x) ++ (x :: l.drop (addK l x))
def addB (ip : Str → Bool) (p : GPlan) (x : GService) : Bool := isPlan ip p.fTemplates p.fServices && isPlan ip p.fTemplates (addS p.fServices x)
def addP (ip : Str → Bool) (p : GPlan) (x : GService) : GPlan := bif addB ip p x then ⟨p.fTemplates, addS p.fServices x⟩ else p
theorem addK_neg {l : List GService} {x : GService} (h : svJ l x < 0) : addK l x = l.length := by simp [addK, h]
theorem addK_at {l : List GService} {x : GService} {k : Nat} (h : svJ l x = k) : addK l x = k := by
  have h2 : ¬ ((k : Int) < 0) := by omega
  simp [addK, h, h2]
theorem addK_le (l : List GService) (x : GService) : addK l x ≤ l.length := by
  unfold addK
  split
  · exact Nat.le_refl _
  · have := idx_lt (p := fun y : GService => Op.bytesLess x.fName y.fName) l
    unfold svJ at *
    omega
end Go.Dt
namespace Go.Dt
open Go.Ab
structure AddI (S : List GService) (x : GService) (k : Nat) (pu : Bool) (l : List AV) : Prop where
  no : pu = false → (∀ y ∈ S.take k, Op.bytesLess x.fName y.fName = false) ∧ l = (S.take k).map (encService false)
  yes : pu = true → addK S x < k ∧ l = (S.take (addK S x)).map (encService false) ++ (encService true x :: ((S.drop (addK S x)).take (k - addK S x)).map (encService false))
  elem : l.all (AV.elem 4) = true
  len : l.length ≤ k + 1
theorem AddI.zero (S : List GService) (x : GService) : AddI S x 0 false [] := ⟨fun _ => ⟨by simp, by simp⟩, fun h => (by cases h), rfl, by simp⟩
theorem AddI.pass {S : List GService} {x : GService} {k : Nat} {l : List AV} (h : AddI S x k false l) (hk : k < S.length) (hn : Op.bytesLess x.fName (at_ S k).fName = false) : AddI S x (k + 1) false (l ++ [encService false (at_ S k)]) := by
  obtain ⟨h1, h2⟩ := h.no rfl
  refine ⟨fun _ => ⟨take_step' (p := fun y : GService => Op.bytesLess x.fName y.fName) hk h1 hn, by rw [h2, take_at' hk, List.map_append]; rfl⟩, fun h => (by cases h), by rw [List.all_append, h.elem]; rfl, by have := h.len; simp; omega⟩
theorem AddI.put {S : List GService} {x : GService} {k : Nat} {l : List AV} (h : AddI S x k false l) (hk : k < S.length) (hn : Op.bytesLess x.fName (at_ S k).fName = true) : AddI S x (k + 1) true (l ++ [encService true x] ++ [encService false (at_ S k)]) := by
  obtain ⟨h1, h2⟩ := h.no rfl
  have e : addK S x = k := addK_at (idx_at' (p := fun y : GService => Op.bytesLess x.fName y.fName) hk h1 hn)
  refine ⟨fun h => (by cases h), fun _ => ⟨by omega, ?_⟩, by rw [List.all_append, List.all_append, h.elem]; rfl, ?_⟩
  · rw [e, h2, show k + 1 - k = 1 by omega, at_drop hk, List.append_assoc]
    rfl
  · have h3 : l.length = k := by rw [h2, List.length_map, List.length_take]; omega
    simp; omega
theorem AddI.put' {S : List GService} {x : GService} {k : Nat} {l : List AV} (h : AddI S x k false l) (hk : k < S.length) (hn : Op.bytesLess x.fName (at_ S k).fName = true) : AddI S x (k + 1) true (l ++ [encService true x, encService false (at_ S k)]) := by
  have := h.put hk hn
  rwa [List.append_assoc] at this
theorem AddI.more {S : List GService} {x : GService} {k : Nat} {l : List AV} (h : AddI S x k true l) (hk : k < S.length) : AddI S x (k + 1) true (l ++ [encService false (at_ S k)]) := by
  obtain ⟨h1, h2⟩ := h.yes rfl
  refine ⟨fun h => (by cases h), fun _ => ⟨by omega, ?_⟩, by rw [List.all_append, h.elem]; rfl, by have := h.len; simp; omega⟩
  have e : (S.drop (addK S x)).take (k + 1 - addK S x) = (S.drop (addK S x)).take (k - addK S x) ++ [at_ S k] := by
    have hlt : k - addK S x < (S.drop (addK S x)).length := by rw [List.length_drop]; omega
    rw [show k + 1 - addK S x = (k - addK S x) + 1 by omega, take_at' hlt]
    congr 2
    unfold at_
    rw [List.getElem?_drop, show addK S x + (k - addK S x) = k by omega]
  rw [h2, e, List.map_append, List.append_assoc]
  rfl
theorem AddI.done {S : List GService} {x : GService} {k : Nat} {l : List AV} {pu : Bool} (h : AddI S x k pu l) (hk : ¬ k < S.length) (hk2 : k ≤ S.length) : AV.frzL (bif pu then l else l ++ [encService true x]) = (addS S x).map (encService false) := by
  have hf : ∀ m : List GService, AV.frzL (m.map (encService false)) = m.map (encService false) := fun m => frzL_map _ _ (fun _ => rfl) m
  cases pu with
  | false =>
    obtain ⟨h1, h2⟩ := h.no rfl
    have e : addK S x = S.length := addK_neg (by unfold svJ; rw [idx_end (p := fun y : GService => Op.bytesLess x.fName y.fName) hk h1]; decide)
    have hkk : k = S.length := by omega
    simp only [cond_false, addS, e]
    rw [h2, hkk, List.take_length, List.drop_length, AV.frzL_eq, List.map_append, ← AV.frzL_eq, hf, List.map_append]
    congr 1
    show [(encService true x).frz] = [encService false x]
    rw [encService_frz]
  | true =>
    obtain ⟨h1, h2⟩ := h.yes rfl
    have hkk : k = S.length := by omega
    simp only [cond_true, addS]
    rw [h2, List.take_of_length_le (l := S.drop (addK S x)) (by rw [List.length_drop]; omega), AV.frzL_eq, List.map_append, List.map_cons, ← AV.frzL_eq, ← AV.frzL_eq, hf, hf, encService_frz, List.map_append, List.map_cons]
end Go.Dt
