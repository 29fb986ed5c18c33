/-
  Part of a proof: Sc7, Sk2.
-/
import Derived.Test.YtmdbmmmlccipdaaGreatDoorG28
set_option linter.unusedSimpArgs false
set_option linter.unusedVariables false
namespace Go.Proofs.YtmdbmmmlccipdaaGreatDoor
open Go.Ab Go.Dt
set_option maxRecDepth 20000
set_option maxHeartbeats 4000000
instance iIsValue_i (x : GType) (s : Str) : Ctr lim Tryz.prog 205 [] [.agg [.v (.int .i64 x.fKind), .sl false 2 (x.fRanges.map (encRange false)), .sl false 1 (x.fNames.map AV.str), .str x.fPattern, .str x.fPath], .str s] (.v (.bool (isVal x s))) [] (s.length ≤ 1048576) := by
  refine Ctr.of_body en205 Tryz.func205 rfl rfl fun hp => (?_); rw [Tryz.ntmps205]
  (refine vU ?_; with_reducible repeat' first | exact Le.l | refine Sw ?_ ?_ | intro h)
  all_goals first | rfl | (rw [isVal]; done)
instance sIsValue_i (x : GType) (s : Str) : Ctr lim Tryz.prog 162 [] [.agg [.v (.int .i64 x.fKind), .sl false 2 (x.fRanges.map (encRange false)), .sl false 1 (x.fNames.map AV.str), .str x.fPattern, .str x.fPath], .str s] (.v (.bool (isVal x s))) [] (s.length ≤ 1048576) := by
  refine Ctr.of_body en162 Tryz.func162 rfl rfl fun hp => (?_); rw [Tryz.ntmps162]
  (refine vU ?_; with_reducible repeat' first | exact Le.l | refine Sw ?_ ?_ | intro h)
  all_goals first | rfl | (rw [isVal]; done)
end Go.Proofs.YtmdbmmmlccipdaaGreatDoor
namespace Go.Dt
open Go Go.Ab
theorem emp_len {α : Type} (l : List α) : l.isEmpty = decide (l.length = 0) := by cases l <;> simp
section
variable {x : GSchema}
theorem shape_no (h : (((((((¬x.fKind = 3 ∧ ¬x.fKind = 4) ∧ noTy x.fType = false ∨ ¬x.fKind = 2 ∧ 0 < ((x.fKeys.length + x.fUnique.length : Nat) : Int)) ∨ ¬x.fKind = 3 ∧ ((¬x.fDefault = [] ∨ x.fGiven = true) ∨ x.fFixed = true)) ∨ (¬x.fKind = 3 ∧ ¬x.fKind = 5) ∧ x.fNeeded = true) ∨ ¬x.fKind = 1 ∧ x.fPresent = true) ∨ (¬x.fKind = 2 ∧ ¬x.fKind = 4) ∧ (¬x.fMin = 0 ∨ ¬x.fMax = 0)) ∨ isDataK x.fKind = false ∧ 0 < (x.fMust.length : Int)) ∨ (x.fKind = 3 ∨ x.fKind = 4) ∧ 0 < (x.fKids.length : Int)) : shapeI x = false := by
  rw [shapeI, emp_iff, emp_len x.fKeys, emp_len x.fUnique, emp_len x.fMust, emp_len x.fKids]
  rcases h with ((((((h | h) | h) | h) | h) | h) | h) | h <;> grind
theorem shape_yes (h : (((((((¬x.fKind = 3 ∧ ¬x.fKind = 4 → noTy x.fType = true) ∧ (¬x.fKind = 2 → ((x.fKeys.length + x.fUnique.length : Nat) : Int) ≤ 0)) ∧ (¬x.fKind = 3 → (x.fDefault = [] ∧ x.fGiven = false) ∧ x.fFixed = false)) ∧ (¬x.fKind = 3 ∧ ¬x.fKind = 5 → x.fNeeded = false)) ∧ (¬x.fKind = 1 → x.fPresent = false)) ∧ (¬x.fKind = 2 ∧ ¬x.fKind = 4 → x.fMin = 0 ∧ x.fMax = 0)) ∧ (isDataK x.fKind = false → (x.fMust.length : Int) ≤ 0)) ∧ (x.fKind = 3 ∨ x.fKind = 4 → (x.fKids.length : Int) ≤ 0)) : shapeI x = true := by
  rw [shapeI, emp_iff, emp_len x.fKeys, emp_len x.fUnique, emp_len x.fMust, emp_len x.fKids]
  obtain ⟨⟨⟨⟨⟨⟨⟨h1, h2⟩, h3⟩, h4⟩, h5⟩, h6⟩, h7⟩, h8⟩ := h
  simp only [Bool.and_eq_true, Bool.or_eq_true, decide_eq_true_eq, Bool.not_eq_true']
  refine ⟨⟨⟨⟨⟨⟨⟨?_, ?_⟩, ?_⟩, ?_⟩, ?_⟩, ?_⟩, ?_⟩, ?_⟩ <;> grind
theorem dec1I (n : Nat) : decide (1 ≤ (n : Int)) = decide (1 ≤ n) := decide_eq_decide.2 (by omega)
theorem dec3I (n : Nat) : decide ((n : Int) ≤ 3) = decide (n ≤ 3) := decide_eq_decide.2 (by omega)
theorem kd_t (h : x.fKind = 1 ∨ x.fKind = 5 ∨ x.fKind = 6) : true = kindI x := by rw [kindI, if_pos h]
theorem kd_2 (h : x.fKind = 2) : (decide (1 ≤ (x.fKeys.length : Int)) && decide ((x.fKeys.length : Int) ≤ 3) && diffs x.fKeys && names x.fKeys && decide ((x.fUnique.length : Int) ≤ 3) && diffs x.fUnique && names x.fUnique && sizeR x) = kindI x := by
  rw [kindI, if_neg (by omega), if_pos h, dec1I, dec3I, dec3I]
theorem kd_3 (h : x.fKind = 3) : (isType isPat x.fType && !(x.fGiven && (x.fNeeded || decide (0 < (x.fWhen.length : Int)))) && (x.fGiven && isVal x.fType x.fDefault || !x.fGiven && x.fDefault == [])) = kindI x := by
  rw [kindI, if_neg (by omega), if_neg (by omega), if_pos h, decP, len_p, emp_beq]; try rfl
theorem kd_4 (h : x.fKind = 4) : (isType isPat x.fType && sizeR x) = kindI x := by
  rw [kindI, if_neg (by omega), if_neg (by omega), if_neg (by omega), if_pos h]; try rfl
theorem kd_7 (h : x.fKind = 7) : ((x.fWhen.length : Int) == 0 && (x.fKids.length : Int) == 0) = kindI x := by
  rw [kindI, if_neg (by omega), if_neg (by omega), if_neg (by omega), if_neg (by omega), if_pos h, len_z, len_z]
theorem kd_n (h1 : ¬ x.fKind = 1) (h5 : ¬ x.fKind = 5) (h6 : ¬ x.fKind = 6) (h2 : ¬ x.fKind = 2) (h3 : ¬ x.fKind = 3) (h4 : ¬ x.fKind = 4) (h7 : ¬ x.fKind = 7) : false = kindI x := by
  rw [kindI, if_neg (by omega), if_neg h2, if_neg h3, if_neg h4, if_neg h7]
end
end Go.Dt
