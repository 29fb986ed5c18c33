/-
  Part of a proof: Ft2, Fi0.
-/
import Derived.Test.YtfglembdjbhanaaGreatDoorG13
import Derived.Test.YtfglembdjbhanaaGreatDoorG21
set_option linter.unusedSimpArgs false
set_option linter.unusedVariables false
namespace Go.Dt
open Go.Ab
theorem idx_le {α : Type} [Inhabited α] {p : α → Bool} : ∀ {l : List α} {j : Nat}, j < l.length → p (at_ l j) = true → idx p l ≤ j ∧ 0 ≤ idx p l
  | [], _, h, _ => by simp at h
  | x :: xs, 0, _, h => by
    have : p x = true := h
    simp [idx, this]
  | x :: xs, j + 1, h, e => by
    have e' : p (at_ xs j) = true := by simpa [at_] using e
    have := idx_le (l := xs) (j := j) (by simpa using h) e'
    simp only [idx]
    split
    · omega
    · split <;> omega
theorem arg_first {l : List GArg} {k : Nat} (hk : k < l.length) : cont ((l.take k).map GArg.fName) (at_ l k).fName = !decide (idx (argP (at_ l k).fName) l = k) := by
  have hself : argP (at_ l k).fName (at_ l k) = true := by simp [argP]
  have hle := idx_le hk hself
  cases hc : cont ((l.take k).map GArg.fName) (at_ l k).fName with
  | true =>
    have hm := (cont_iff _ _).1 hc
    obtain ⟨x, hx, e⟩ := List.mem_map.1 hm
    obtain ⟨j, hj, e1⟩ := List.getElem_of_mem hx
    rw [List.length_take] at hj
    have e2 : argP (at_ l k).fName (at_ l j) = true := by
      have : at_ l j = x := by
        unfold at_
        rw [List.getElem_take] at e1
        rw [List.getElem?_eq_getElem (by omega), e1]; rfl
      rw [this, argP, e]; simp
    have := idx_le (show j < l.length by omega) e2
    have : decide (idx (argP (at_ l k).fName) l = k) = false := decide_eq_false (by omega)
    rw [this]; rfl
  | false =>
    have : idx (argP (at_ l k).fName) l = k := by
      refine idx_at' hk (fun y hy => ?_) hself
      rw [argP, beq_eq_false_iff_ne]
      intro e
      rw [(cont_iff _ _).2 (List.mem_map.2 ⟨y, hy, e⟩)] at hc
      cases hc
    rw [decide_eq_true this]; rfl
def argOk (ps : List GParam) (l : List GArg) (j : Nat) : Bool := decide (0 ≤ prmI ps (at_ l j).fName) && decide (idx (argP (at_ l j).fName) l = j)
def argsOk (ps : List GParam) (l : List GArg) : Bool := allTo (argOk ps l) l.length && decide (l.length = ps.length)
def prT (ps : List GParam) (x : GArg) : GType := (at_ ps (prmI ps x.fName).toNat).fType
section
variable (ip : Str → Bool) (cb : GType → Str → Bool) (cs : GType → Str → Str)
def cnB (ps : List GParam) (x : GArg) : Bool := cb (prT ps x) x.fValue
def cnA (ps : List GParam) (x : GArg) : GArg := ⟨x.fName, cs (prT ps x) x.fValue⟩
def ftOk (t : GTemplate) (l : List GArg) : Bool := isTemplate ip t && argsOk t.fParams l && allTo (fun j => cnB cb t.fParams (at_ l j)) l.length
def ftC (t : GTemplate) (l : List GArg) : Int := if isTemplate ip t = false then 1 else if argsOk t.fParams l = false then 2 else if allTo (fun j => cnB cb t.fParams (at_ l j)) l.length = false then 3 else 0
def ftN (t : GTemplate) (l : List GArg) : List GNode := bif ftOk ip cb t l then t.fBody.map (fillN (l.map (cnA cs t.fParams))) else []
end
theorem prm_lt (ps : List GParam) (n : Str) : prmI ps n < ps.length := idx_lt ps
theorem argOk_no {ps : List GParam} {l : List GArg} {k : Nat} (hk : k < l.length) (h : argOk ps l k = false) : argsOk ps l = false := by rw [argsOk, allTo_false hk h]; rfl
theorem argOk_get {ps : List GParam} {l : List GArg} {k : Nat} (h : argsOk ps l = true) (hk : k < l.length) : 0 ≤ prmI ps (at_ l k).fName := by
  rw [argsOk, Bool.and_eq_true] at h
  have := allTo_get h.1 hk
  rw [argOk, Bool.and_eq_true, decide_eq_true_eq] at this
  exact this.1
theorem clL {α : Type} {f : α → AV} : ∀ (l : List α), (∀ x ∈ l, (f x).closed = true) → AV.closedL (l.map f) = true
  | [], _ => rfl
  | x :: xs, h => by simp only [List.map_cons, AV.closedL, h x (by simp), clL xs fun y hy => h y (by simp [hy]), Bool.true_and]
theorem ndC (x : GNode) : (encNode true x).closed = true := by
  rw [encNode_eq]
  simp only [AV.closed, AV.closedL, clL x.fKids (fun y hy => ndC y), Bool.true_and, Bool.and_true]
termination_by SizeOf.sizeOf x
decreasing_by have := List.sizeOf_lt_of_mem hy; cases x; simp [GNode.fKids] at *; omega
@[go_sem] theorem fill_cl (f : GNode → GNode) (l : List GNode) : AV.closedL (l.map (encNode true ∘ f)) = true := clL l fun x _ => ndC (f x)
end Go.Dt
namespace Go.Dt
open Go.Ab
theorem idx_anyI {α : Type} (p : α → Bool) : ∀ l : List α, 0 ≤ idx p l ↔ l.any p = true
  | [] => by simp [idx]
  | x :: xs => by
    have ih := idx_anyI p xs
    rw [List.any_cons, Bool.or_eq_true, ← ih, idx]
    by_cases hp : p x = true
    · rw [if_pos hp]; simp [hp]
    · rw [if_neg hp]
      split
      · constructor
        · intro h; omega
        · rintro (h | h)
          · exact absurd h hp
          · omega
      · constructor
        · intro h; exact .inr (by omega)
        · intro h; omega
theorem idx_any {α : Type} (p : α → Bool) (l : List α) : decide (0 ≤ idx p l) = l.any p := by
  have := idx_anyI p l
  cases h : l.any p with
  | true => exact decide_eq_true (this.2 h)
  | false => exact decide_eq_false fun e => by rw [this.1 e] at h; cases h
theorem argV_some (l : List GArg) (n : Str) : (argV l n).isSome = l.any (argP n) := by
  rw [← idx_any]; unfold argV; split
  · rw [decide_eq_false (by omega)]; rfl
  · rw [decide_eq_true (by omega)]; rfl
theorem allF_all (l : List GArg) : ∀ t : List Tok, allF l t = (rights t).all (fun n => l.any (argP n))
  | [] => rfl
  | .inl _ :: t => by simp only [allF, rights, allF_all l t]
  | .inr n :: t => by simp only [allF, rights, List.all_cons, argV_some, allF_all l t]
def knO (g : List GArg) (n : Str) : Bool := g.any (argP n)
theorem flB_all (g : List GArg) (s : Str) : flB g (tk s) = ((tk s).2 && (nmL (tk s)).all (knO g)) := by
  unfold flB nmL
  cases (tk s).2 with
  | false => rfl
  | true => simp only [cond_true, Bool.true_and, allF_all]; rfl
theorem any_step {α : Type} [Inhabited α] {p : α → Bool} {l : List α} {k : Nat} (h : k < l.length) : ((l.take k).any p || p (at_ l k)) = (l.take (k + 1)).any p := by
  rw [take_atL h, List.any_append]; simp
theorem all_step {α : Type} [Inhabited α] {p : α → Bool} {l : List α} {k : Nat} (h : k < l.length) : ((l.take k).all p && p (at_ l k)) = (l.take (k + 1)).all p := by
  rw [take_atL h, List.all_append]; simp
section
variable (ip : Str → Bool) (cb : GType → Str → Bool)
def smK (ps : List GParam) (n v : Str) : Nat → Bool
  | 0 => false
  | k + 1 => if (at_ ps k).fName = n then cb (at_ ps k).fType v else smK ps n v k
def fst1 (l : List GArg) (j k : Nat) : Bool := (l.take k).all (fun a => !(a.fName == (at_ l j).fName))
def sOk (ps : List GParam) (l : List GArg) (j : Nat) : Bool := smK cb ps (at_ l j).fName (at_ l j).fValue ps.length && fst1 l j j
end
section
variable {ip : Str → Bool} {cb : GType → Str → Bool}
theorem fst1_eq {l : List GArg} {j : Nat} (h : j < l.length) : fst1 l j j = decide (idx (argP (at_ l j).fName) l = j) := by
  have e := arg_first h
  rw [cont, idx_any, List.any_map] at e
  unfold fst1
  cases hd : decide (idx (argP (at_ l j).fName) l = j) with
  | true =>
    rw [hd] at e
    rw [List.all_eq_true]
    intro a ha
    have := List.any_eq_false.1 e a ha
    simpa using this
  | false =>
    rw [hd] at e
    obtain ⟨a, ha, h1⟩ := List.any_eq_true.1 e
    rw [List.all_eq_false]
    exact ⟨a, ha, by simpa using h1⟩
theorem smK_no {ps : List GParam} {n v : Str} : ∀ {k : Nat}, (∀ i, i < k → ¬ (at_ ps i).fName = n) → smK cb ps n v k = false
  | 0, _ => rfl
  | k + 1, h => by rw [smK, if_neg (h k (by omega)), smK_no fun i hi => h i (by omega)]
theorem smK_one {ps : List GParam} {n v : Str} {m : Nat} (hm : (at_ ps m).fName = n) : ∀ {k : Nat}, m < k → (∀ i, i < k → i ≠ m → ¬ (at_ ps i).fName = n) → smK cb ps n v k = cb (at_ ps m).fType v
  | 0, h, _ => by omega
  | k + 1, h, hu => by
    rw [smK]
    by_cases e : k = m
    · subst e; rw [if_pos hm]
    · rw [if_neg (hu k (by omega) e)]
      exact smK_one hm (by omega) fun i hi => hu i (by omega)
theorem prm_dis {ps : List GParam} (hd : diffs (ps.map GParam.fName) = true) {i j : Nat} (hi : i < j) (hj : j < ps.length) : ¬ (at_ ps i).fName = (at_ ps j).fName := by
  intro e
  have h1 := allTo_get (j := j) hd (by simpa using hj)
  have h2 := cont_dup (l := ps.map GParam.fName) hi (by simpa using hj) (by rw [at_map GParam.fName (by omega), at_map GParam.fName hj]; exact e)
  simp only [h2] at h1
  cases h1
theorem smK_eq {ps : List GParam} (hd : diffs (ps.map GParam.fName) = true) (n v : Str) : smK cb ps n v ps.length = (decide (0 ≤ prmI ps n) && cb (at_ ps (prmI ps n).toNat).fType v) := by
  have ha := idx_any (fun x : GParam => x.fName == n) ps
  by_cases h : 0 ≤ prmI ps n
  · rw [decide_eq_true h, Bool.true_and]
    have hlt := prm_lt ps n
    have hself : (at_ ps (prmI ps n).toNat).fName = n := by
      have h1 : ps.any (fun x : GParam => x.fName == n) = true := by rw [← ha]; exact decide_eq_true h
      obtain ⟨x, hx, hn⟩ := List.any_eq_true.1 h1
      obtain ⟨i, hi, e⟩ := List.getElem_of_mem hx
      have hq := prm_first (l := ps) (k := i) hi
      have hxi : at_ ps i = x := by unfold at_; rw [List.getElem?_eq_getElem hi, e]; rfl
      have hnn : x.fName = n := by simpa using hn
      have hc := allTo_get (j := i) hd (by simpa using hi)
      have : prmI ps (at_ ps i).fName = i := hq.2 (by simpa using hc)
      rw [hxi, hnn] at this
      rw [this, Int.toNat_natCast, hxi, hnn]
    refine smK_one hself (by omega) fun i hi hne e => ?_
    rcases Nat.lt_or_gt_of_ne hne with h2 | h2
    · exact prm_dis hd h2 (by omega) (e.trans hself.symm)
    · exact prm_dis hd h2 hi (hself.trans e.symm)
  · rw [decide_eq_false h, Bool.false_and]
    refine smK_no fun i hi e => ?_
    have h1 : ps.any (fun x : GParam => x.fName == n) = false := by rw [← ha]; exact decide_eq_false h
    have := List.any_eq_false.1 h1 _ (at_mem hi)
    simp [e] at this
theorem allTo_congr {p q : Nat → Bool} : ∀ {n : Nat}, (∀ i, i < n → p i = q i) → allTo p n = allTo q n
  | 0, _ => rfl
  | n + 1, h => by rw [allTo, allTo, allTo_congr fun i hi => h i (by omega), h n (by omega)]
theorem allTo_and {p q : Nat → Bool} : ∀ {n : Nat}, allTo (fun i => p i && q i) n = (allTo p n && allTo q n)
  | 0 => rfl
  | n + 1 => by
    simp only [allTo, allTo_and]
    cases allTo p n <;> cases allTo q n <;> cases p n <;> cases q n <;> rfl
theorem right_eq {t : GTemplate} {l : List GArg} : ((isTemplate ip t && decide (l.length = t.fParams.length)) && allTo (sOk cb t.fParams l) l.length) = ftOk ip cb t l := by
  unfold ftOk
  cases hT : isTemplate ip t with
  | false => rfl
  | true =>
    have hd : diffs (t.fParams.map GParam.fName) = true := by
      unfold isTemplate at hT
      simp only [Bool.and_eq_true] at hT
      exact hT.1.1.1.1.2
    have e : allTo (sOk cb t.fParams l) l.length = (allTo (argOk t.fParams l) l.length && allTo (fun j => cnB cb t.fParams (at_ l j)) l.length) := by
      rw [← allTo_and]
      refine allTo_congr fun i hi => ?_
      rw [sOk, smK_eq hd, fst1_eq hi, argOk, cnB, prT]
      cases decide (0 ≤ prmI t.fParams (at_ l i).fName) <;> cases cb (at_ t.fParams (prmI t.fParams (at_ l i).fName).toNat).fType (at_ l i).fValue <;> cases decide (idx (argP (at_ l i).fName) l = i) <;> rfl
    rw [e, argsOk]
    cases allTo (argOk t.fParams l) l.length <;> cases decide (l.length = t.fParams.length) <;> simp
theorem ftC_zero {t : GTemplate} {l : List GArg} : (ftC ip cb t l == 0) = ftOk ip cb t l := by
  unfold ftC ftOk
  cases isTemplate ip t <;> cases argsOk t.fParams l <;> cases allTo (fun j => cnB cb t.fParams (at_ l j)) l.length <;> rfl
end
mutual
theorem kc_fillN (a : List GArg) : ∀ x : GNode, (fillN a x).fKids.length = x.fKids.length ∧ kc (fillN a x).fKids = kc x.fKids
  | .mk n v ks => by
    have := kc_fillL a ks
    simp only [fillN, GNode.fKids]
    exact ⟨by rw [fillL_map, List.length_map], this⟩
theorem kc_fillL (a : List GArg) : ∀ l : List GNode, kc (fillL a l) = kc l
  | [] => rfl
  | .mk n v ks :: xs => by
    have h1 := kc_fillL a ks
    have h2 := kc_fillL a xs
    rw [fillL_map] at h1 h2
    simp only [fillL, fillN, kc, fillL_map, List.length_map, h1, h2]
end
theorem cnt_fill (a : List GArg) (l : List GNode) : cnt (l.map (fillN a)) = cnt l := by
  unfold cnt
  rw [List.length_map, ← fillL_map, kc_fillL]
end Go.Dt
