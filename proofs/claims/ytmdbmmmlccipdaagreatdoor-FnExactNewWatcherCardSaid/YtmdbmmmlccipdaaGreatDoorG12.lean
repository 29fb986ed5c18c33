/-
  Part of a proof: Tp1, Tp2.
-/
import Derived.Test.YtmdbmmmlccipdaaGreatDoorG9
import Derived.Test.YtmdbmmmlccipdaaGreatDoorG11
set_option linter.unusedSimpArgs false
set_option linter.unusedVariables false
namespace Go.Proofs.YtmdbmmmlccipdaaGreatDoor
open Go.Ab Go.Dt
set_option maxRecDepth 20000
set_option maxHeartbeats 1000000

instance inNumbers_i (L : Nat → Nat) (n : Int) : Ctr L Tryz.prog 310 [] [.v (.int .i64 n)] (.v (.bool (decide (-1000000000 ≤ n) && decide (n ≤ 1000000000)))) [] True := by
  refine Ctr.of_body en310 Tryz.func310 rfl rfl fun hp => (?_); rw [Tryz.ntmps310]
  all_goals exact uU
instance sAreRanges_i (L : Nat → Nat) [hL : Lok L] (l : List GRange) : Ctr L Tryz.prog 243 [] [.sl false 2 (l.map (encRange false))] (.v (.bool (areRanges l))) [] True := by
  refine Ctr.of_body en243 Tryz.func243 rfl rfl fun hp => (?_); rw [Tryz.ntmps243]
  refine AW.fact 0 fun hf => ?_
  simp (disch := omega) only [go_sem, Nat.reduceBEq] at hf
  have hf := Nat.le_trans hf (hL.le 2)
  (refine vU ?_; with_reducible repeat' first | exact Le.l | refine Sw ?_ ?_ | intro h)
  refine AW.loopV [3] [0] (fun m xs o => ∃ k : Nat, xs = [.v (.int .i64 k)] ∧ o = [] ∧ m = l.length - k ∧ k ≤ l.length ∧ allTo (rgOk l) k = true) l.length [] trivial ⟨0, ?_, rfl, rfl, ?_, rfl⟩ ?_
  · rfl
  · omega
  rintro m xs o ⟨k, rfl, rfl, rfl, hk, hR⟩
  rcases k with _ | k
  · (refine vU ?_; with_reducible repeat' first | exact Le.l | refine Sw ?_ ?_ | intro h)
    · rw [areRanges_no (by assumption) (Bool.eq_false_iff.2 fun hc => by have := (rg0 l).1 hc; omega)]
    · exact ⟨_, [_], [], by omega, ⟨0 + 1, rfl, rfl, rfl, by omega, allTo_step hR ((rg0 l).2 (by omega))⟩, rfl, trivial⟩
    · rw [areRanges_end hR (by omega)]
  · have hh := rgOk_hi (allTo_get hR (Nat.lt_succ_self k))
    (refine vU ?_; with_reducible repeat' first | exact Le.l | refine Sw ?_ ?_ | intro h)
    · rw [areRanges_no (by assumption) (Bool.eq_false_iff.2 fun hc => by have := (rgS l k).1 hc; omega)]
    · exact ⟨_, [_], [], by omega, ⟨k + 1 + 1, rfl, rfl, rfl, by omega, allTo_step hR ((rgS l k).2 (by omega))⟩, rfl, trivial⟩
    · rw [areRanges_end hR (by omega)]
instance iAreRanges_i (L : Nat → Nat) [hL : Lok L] (l : List GRange) : Ctr L Tryz.prog 278 [] [.sl false 2 (l.map (encRange false))] (.v (.bool (areRanges l))) [] True := by
  refine Ctr.of_body en278 Tryz.func278 rfl rfl fun hp => (?_); rw [Tryz.ntmps278]
  refine AW.fact 0 fun hf => ?_
  simp (disch := omega) only [go_sem, Nat.reduceBEq] at hf
  have hf := Nat.le_trans hf (hL.le 2)
  (refine vU ?_; with_reducible repeat' first | exact Le.l | refine Sw ?_ ?_ | intro h)
  refine AW.loopV [7] [0, 5, 6] (fun m xs o => ∃ k : Nat, xs = [.v (.int .i64 k)] ∧ o = [] ∧ m = l.length - k ∧ k ≤ l.length ∧ allTo (rgOk l) k = true) l.length [] trivial ⟨0, ?_, rfl, rfl, ?_, rfl⟩ ?_
  · rfl
  · omega
  rintro m xs o ⟨k, rfl, rfl, rfl, hk, hR⟩
  rcases k with _ | k
  · (refine vU ?_; with_reducible repeat' first | exact Le.l | refine Sw ?_ ?_ | intro h)
    · rw [areRanges_no (by assumption) (Bool.eq_false_iff.2 fun hc => by have := (rg0 l).1 hc; omega)]
    · exact ⟨_, [_], [], by omega, ⟨0 + 1, rfl, rfl, rfl, by omega, allTo_step hR ((rg0 l).2 (by omega))⟩, rfl, trivial⟩
    · rw [areRanges_end hR (by omega)]
  · have hh := rgOk_hi (allTo_get hR (Nat.lt_succ_self k))
    (refine vU ?_; with_reducible repeat' first | exact Le.l | refine Sw ?_ ?_ | intro h)
    · rw [areRanges_no (by assumption) (Bool.eq_false_iff.2 fun hc => by have := (rgS l k).1 hc; omega)]
    · exact ⟨_, [_], [], by omega, ⟨k + 1 + 1, rfl, rfl, rfl, by omega, allTo_step hR ((rgS l k).2 (by omega))⟩, rfl, trivial⟩
    · rw [areRanges_end hR (by omega)]
end Go.Proofs.YtmdbmmmlccipdaaGreatDoor
namespace Go.Proofs.YtmdbmmmlccipdaaGreatDoor
open Go.Ab Go.Dt
set_option maxRecDepth 20000
set_option maxHeartbeats 1000000

instance ixStr_i (L : Nat → Nat) [hL : Lok L] (l : List Str) (n : Str) : Ctr L Tryz.prog 158 [] [.sl false 1 (l.map AV.str), .str n] (.v (.int .i64 (idx (fun x => x == n) l))) [] True := by
  refine Ctr.of_body en158 Tryz.func158 rfl rfl fun hp => (?_); rw [Tryz.ntmps158]
  refine AW.fact 0 fun hf => ?_
  simp (disch := omega) only [go_sem, Nat.reduceBEq] at hf
  have hf := Nat.le_trans hf (hL.le 1)
  (refine vU ?_; with_reducible repeat' first | exact Le.l | refine Sw ?_ ?_ | intro h)
  refine AW.loopV [8] [0, 1, 6, 7] (fun m xs o => ∃ k : Nat, xs = [.v (.int .i64 k)] ∧ o = [] ∧ m = l.length - k ∧ k ≤ l.length ∧ ∀ x ∈ l.take k, (fun x : Str => x == n) x = false) l.length [] trivial ⟨0, ?_, rfl, rfl, ?_, ?_⟩ ?_
  · rfl
  · omega
  · simp
  rintro m xs o ⟨k, rfl, rfl, rfl, hk, hR⟩
  (refine vU ?_; with_reducible repeat' first | exact Le.l | refine Sw ?_ ?_ | intro h)
  · rw [idx_at' (by assumption) hR (by simpa using eq_comm.1 h)]
  · exact ⟨_, [_], [], by omega, ⟨k + 1, rfl, rfl, rfl, by omega, take_step' (by assumption) hR (by simpa using fun e => h (Eq.symm e))⟩, rfl, trivial⟩
  · rw [idx_end h hR]
instance contStr_i (L : Nat → Nat) [hL : Lok L] (l : List Str) (n : Str) : Ctr L Tryz.prog 110 [] [.sl false 1 (l.map AV.str), .str n] (.v (.bool (cont l n))) [] True := by
  refine Ctr.of_body en110 Tryz.func110 rfl rfl fun hp => (?_); rw [Tryz.ntmps110]
  (refine vU ?_; with_reducible repeat' first | exact Le.l | refine Sw ?_ ?_ | intro h)
  rfl
instance differentTexts_i (L : Nat → Nat) [hL : Lok L] (l : List Str) : Ctr L Tryz.prog 84 [] [.sl false 1 (l.map AV.str)] (.v (.bool (diffs l))) [] True := by
  refine Ctr.of_body en84 Tryz.func84 rfl rfl fun hp => (?_); rw [Tryz.ntmps84]
  refine AW.fact 0 fun hf => ?_
  simp (disch := omega) only [go_sem, Nat.reduceBEq] at hf
  have hf := Nat.le_trans hf (hL.le 1)
  (refine vU ?_; with_reducible repeat' first | exact Le.l | refine Sw ?_ ?_ | intro h)
  refine AW.loopV [6] [0, 4, 5] (fun m xs o => ∃ k : Nat, xs = [.v (.int .i64 k)] ∧ o = [] ∧ m = l.length - k ∧ k ≤ l.length ∧ allTo (fun j => !cont (l.take j) (at_ l j)) k = true) l.length [] trivial ⟨0, ?_, rfl, rfl, ?_, rfl⟩ ?_
  · rfl
  · omega
  rintro m xs o ⟨k, rfl, rfl, rfl, hk, hR⟩
  (repeat' first | (with_reducible first | refine Z ?_ | refine Y ?_ | (refine hK _ _ ?_; clear hK K) | refine And.intro ?_ ?_ | exact Ct | intro (K : _ → _ → Prop) hK | (refine gI fun hg => ?_; try simp only [hC, reduceCtorEq] at hg; try simp only [hg])) | (refine AW.i rfl (fun h => ?_) (fun h => ?_) <;> try simp only [hC, reduceCtorEq] at h) | ((with_reducible refine E ?_; repeat refine Y ?_); refine eF rfl ?_) | simp (disch := omega) only [go_sem, ← List.map_take, Int.toNat_zero, List.drop_zero] | (with_reducible intro hg; try simp only [hC, reduceCtorEq] at hg) | exact Cl | fail)
  · rw [diffs, allTo_false (by assumption) (by simp [h])]
  · exact ⟨_, [_], [], by omega, ⟨k + 1, rfl, rfl, rfl, by omega, allTo_step hR (by simp [h])⟩, rfl, trivial⟩
  · rw [show k = l.length by omega] at hR
    rw [diffs, hR]
instance areNames_i (L : Nat → Nat) [hL : Lok L] (l : List Str) : Ctr L Tryz.prog 249 [] [.sl false 1 (l.map AV.str)] (.v (.bool (names l))) [] True := by
  refine Ctr.of_body en249 Tryz.func249 rfl rfl fun hp => (?_); rw [Tryz.ntmps249]
  refine AW.fact 0 fun hf => ?_
  simp (disch := omega) only [go_sem, Nat.reduceBEq] at hf
  have hf := Nat.le_trans hf (hL.le 1)
  (refine vU ?_; with_reducible repeat' first | exact Le.l | refine Sw ?_ ?_ | intro h)
  refine AW.loopV [7] [0, 5, 6] (fun m xs o => ∃ k : Nat, xs = [.v (.int .i64 k)] ∧ o = [] ∧ m = l.length - k ∧ k ≤ l.length ∧ allTo (fun j => isName (at_ l j)) k = true) l.length [] trivial ⟨0, ?_, rfl, rfl, ?_, rfl⟩ ?_
  · rfl
  · omega
  rintro m xs o ⟨k, rfl, rfl, rfl, hk, hR⟩
  (refine vU ?_; with_reducible repeat' first | exact Le.l | refine Sw ?_ ?_ | intro h)
  · rw [names, allTo_false (by assumption) (by simp [h])]
  · exact ⟨_, [_], [], by omega, ⟨k + 1, rfl, rfl, rfl, by omega, allTo_step hR (by simp [h])⟩, rfl, trivial⟩
  · rw [show k = l.length by omega] at hR
    rw [names, hR]
end Go.Proofs.YtmdbmmmlccipdaaGreatDoor
