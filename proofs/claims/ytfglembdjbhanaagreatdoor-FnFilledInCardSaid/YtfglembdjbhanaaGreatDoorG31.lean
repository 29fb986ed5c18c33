/-
  Part of a proof: Tp1, Tp2, Tp4, Tp5, Tp6, Tp7.
-/
import Derived.Test.YtfglembdjbhanaaGreatDoorG12
import Derived.Test.YtfglembdjbhanaaGreatDoorG13
import Derived.Test.YtfglembdjbhanaaGreatDoorG30
set_option linter.unusedSimpArgs false
set_option linter.unusedVariables false
namespace Go.Proofs.YtfglembdjbhanaaGreatDoor
open Go.Ab Go.Dt
set_option maxRecDepth 20000
set_option maxHeartbeats 1000000

instance inNumbers_i (L : Nat → Nat) (n : Int) : Ctr L Tryz.prog 120 [] [.v (.int .i64 n)] (.v (.bool (decide (-1000000000 ≤ n) && decide (n ≤ 1000000000)))) [] True := by
  refine Ctr.of_body en120 Tryz.func120 rfl rfl fun hp => (?_); rw [Tryz.ntmps120]
  all_goals exact uU
instance sAreRanges_i (L : Nat → Nat) [hL : Lok L] (l : List GRange) : Ctr L Tryz.prog 88 [] [.sl false 2 (l.map (encRange false))] (.v (.bool (areRanges l))) [] True := by
  refine Ctr.of_body en88 Tryz.func88 rfl rfl fun hp => (?_); rw [Tryz.ntmps88]
  refine AW.fact 0 fun hf => ?_
  simp (disch := omega) only [go_sem, Nat.reduceBEq] at hf
  have hf := Nat.le_trans hf (hL.le 2)
  (refine vU ?_; with_reducible repeat' first | exact Le.l | refine Sw ?_ ?_ | intro h)
  refine AW.loopV [3] [0] (fun m xs o => ∃ k : Nat, xs = [.v (.int .i64 k)] ∧ o = [] ∧ m = l.length - k ∧ k ≤ l.length ∧ allTo (rgOk l) k = true) l.length [] trivial ⟨0, ?_, rfl, rfl, ?_, rfl⟩ ?_
  · rfl
  · omega
  rintro m xs o ⟨k, rfl, rfl, rfl, hk, hR⟩
  rcases k with _ | k
  · (refine vU ?_; with_reducible repeat' first | exact Le.l | refine Sw ?_ ?_ | intro h)
    · rw [areRanges_no (by assumption) (Bool.eq_false_iff.2 fun hc => by have := (rg0 l).1 hc; omega)]
    · exact ⟨_, [_], [], by omega, ⟨0 + 1, rfl, rfl, rfl, by omega, allTo_step hR ((rg0 l).2 (by omega))⟩, rfl, trivial⟩
    · rw [areRanges_end hR (by omega)]
  · have hh := rgOk_hi (allTo_get hR (Nat.lt_succ_self k))
    (refine vU ?_; with_reducible repeat' first | exact Le.l | refine Sw ?_ ?_ | intro h)
    · rw [areRanges_no (by assumption) (Bool.eq_false_iff.2 fun hc => by have := (rgS l k).1 hc; omega)]
    · exact ⟨_, [_], [], by omega, ⟨k + 1 + 1, rfl, rfl, rfl, by omega, allTo_step hR ((rgS l k).2 (by omega))⟩, rfl, trivial⟩
    · rw [areRanges_end hR (by omega)]
instance iAreRanges_i (L : Nat → Nat) [hL : Lok L] (l : List GRange) : Ctr L Tryz.prog 104 [] [.sl false 2 (l.map (encRange false))] (.v (.bool (areRanges l))) [] True := by
  refine Ctr.of_body en104 Tryz.func104 rfl rfl fun hp => (?_); rw [Tryz.ntmps104]
  refine AW.fact 0 fun hf => ?_
  simp (disch := omega) only [go_sem, Nat.reduceBEq] at hf
  have hf := Nat.le_trans hf (hL.le 2)
  (refine vU ?_; with_reducible repeat' first | exact Le.l | refine Sw ?_ ?_ | intro h)
  refine AW.loopV [7] [0, 5, 6] (fun m xs o => ∃ k : Nat, xs = [.v (.int .i64 k)] ∧ o = [] ∧ m = l.length - k ∧ k ≤ l.length ∧ allTo (rgOk l) k = true) l.length [] trivial ⟨0, ?_, rfl, rfl, ?_, rfl⟩ ?_
  · rfl
  · omega
  rintro m xs o ⟨k, rfl, rfl, rfl, hk, hR⟩
  rcases k with _ | k
  · (refine vU ?_; with_reducible repeat' first | exact Le.l | refine Sw ?_ ?_ | intro h)
    · rw [areRanges_no (by assumption) (Bool.eq_false_iff.2 fun hc => by have := (rg0 l).1 hc; omega)]
    · exact ⟨_, [_], [], by omega, ⟨0 + 1, rfl, rfl, rfl, by omega, allTo_step hR ((rg0 l).2 (by omega))⟩, rfl, trivial⟩
    · rw [areRanges_end hR (by omega)]
  · have hh := rgOk_hi (allTo_get hR (Nat.lt_succ_self k))
    (refine vU ?_; with_reducible repeat' first | exact Le.l | refine Sw ?_ ?_ | intro h)
    · rw [areRanges_no (by assumption) (Bool.eq_false_iff.2 fun hc => by have := (rgS l k).1 hc; omega)]
    · exact ⟨_, [_], [], by omega, ⟨k + 1 + 1, rfl, rfl, rfl, by omega, allTo_step hR ((rgS l k).2 (by omega))⟩, rfl, trivial⟩
    · rw [areRanges_end hR (by omega)]
end Go.Proofs.YtfglembdjbhanaaGreatDoor
namespace Go.Proofs.YtfglembdjbhanaaGreatDoor
open Go.Ab Go.Dt
set_option maxRecDepth 20000
set_option maxHeartbeats 1000000

instance ixStr_i (L : Nat → Nat) [hL : Lok L] (l : List Str) (n : Str) : Ctr L Tryz.prog 78 [] [.sl false 1 (l.map AV.str), .str n] (.v (.int .i64 (idx (fun x => x == n) l))) [] True := by
  refine Ctr.of_body en78 Tryz.func78 rfl rfl fun hp => (?_); rw [Tryz.ntmps78]
  refine AW.fact 0 fun hf => ?_
  simp (disch := omega) only [go_sem, Nat.reduceBEq] at hf
  have hf := Nat.le_trans hf (hL.le 1)
  (refine vU ?_; with_reducible repeat' first | exact Le.l | refine Sw ?_ ?_ | intro h)
  refine AW.loopV [8] [0, 1, 6, 7] (fun m xs o => ∃ k : Nat, xs = [.v (.int .i64 k)] ∧ o = [] ∧ m = l.length - k ∧ k ≤ l.length ∧ ∀ x ∈ l.take k, (fun x : Str => x == n) x = false) l.length [] trivial ⟨0, ?_, rfl, rfl, ?_, ?_⟩ ?_
  · rfl
  · omega
  · simp
  rintro m xs o ⟨k, rfl, rfl, rfl, hk, hR⟩
  (refine vU ?_; with_reducible repeat' first | exact Le.l | refine Sw ?_ ?_ | intro h)
  · rw [idx_at' (by assumption) hR (by simpa using eq_comm.1 h)]
  · exact ⟨_, [_], [], by omega, ⟨k + 1, rfl, rfl, rfl, by omega, take_step' (by assumption) hR (by simpa using fun e => h (Eq.symm e))⟩, rfl, trivial⟩
  · rw [idx_end h hR]
instance sl28Param_i (L : Nat → Nat) [hL : Lok L] (l : List GParam) (n : Str) : Ctr L Tryz.prog 49 [] [.sl false 6 (l.map (encParam false)), .str n] (.v (.int .i64 (prmI l n))) [] True := by
  refine Ctr.of_body en49 Tryz.func49 rfl rfl fun hp => (?_); rw [Tryz.ntmps49]
  refine AW.fact 0 fun hf => ?_
  simp (disch := omega) only [go_sem, Nat.reduceBEq] at hf
  have hf := Nat.le_trans hf (hL.le 6)
  (refine vU ?_; with_reducible repeat' first | exact Le.l | refine Sw ?_ ?_ | intro h)
  refine AW.loopV [5] [0, 1] (fun m xs o => ∃ k : Nat, xs = [.v (.int .i64 k)] ∧ o = [] ∧ m = l.length - k ∧ k ≤ l.length ∧ ∀ x ∈ l.take k, (fun x : GParam => x.fName == n) x = false) l.length [] trivial ⟨0, ?_, rfl, rfl, ?_, ?_⟩ ?_
  · rfl
  · omega
  · simp
  rintro m xs o ⟨k, rfl, rfl, rfl, hk, hR⟩
  (refine vU ?_; with_reducible repeat' first | exact Le.l | refine Sw ?_ ?_ | intro h)
  · rw [prmI, idx_at' (by assumption) hR (by simpa using h)]
  · exact ⟨_, [_], [], by omega, ⟨k + 1, rfl, rfl, rfl, by omega, take_step' (by assumption) hR (by simpa using h)⟩, rfl, trivial⟩
  · rw [prmI, idx_end h hR]

instance contStr_i (L : Nat → Nat) [hL : Lok L] (l : List Str) (n : Str) : Ctr L Tryz.prog 31 [] [.sl false 1 (l.map AV.str), .str n] (.v (.bool (cont l n))) [] True := by
  refine Ctr.of_body en31 Tryz.func31 rfl rfl fun hp => (?_); rw [Tryz.ntmps31]
  (refine vU ?_; with_reducible repeat' first | exact Le.l | refine Sw ?_ ?_ | intro h)
  rfl
instance differentTexts_i (L : Nat → Nat) [hL : Lok L] (l : List Str) : Ctr L Tryz.prog 75 [] [.sl false 1 (l.map AV.str)] (.v (.bool (diffs l))) [] True := by
  refine Ctr.of_body en75 Tryz.func75 rfl rfl fun hp => (?_); rw [Tryz.ntmps75]
  refine AW.fact 0 fun hf => ?_
  simp (disch := omega) only [go_sem, Nat.reduceBEq] at hf
  have hf := Nat.le_trans hf (hL.le 1)
  (refine vU ?_; with_reducible repeat' first | exact Le.l | refine Sw ?_ ?_ | intro h)
  refine AW.loopV [6] [0, 4, 5] (fun m xs o => ∃ k : Nat, xs = [.v (.int .i64 k)] ∧ o = [] ∧ m = l.length - k ∧ k ≤ l.length ∧ allTo (fun j => !cont (l.take j) (at_ l j)) k = true) l.length [] trivial ⟨0, ?_, rfl, rfl, ?_, rfl⟩ ?_
  · rfl
  · omega
  rintro m xs o ⟨k, rfl, rfl, rfl, hk, hR⟩
  (repeat' first | (with_reducible first | refine Z ?_ | refine Y ?_ | (refine hK _ _ ?_; clear hK K) | refine And.intro ?_ ?_ | exact Ct | intro (K : _ → _ → Prop) hK | (refine gI fun hg => ?_; try simp only [hC, reduceCtorEq] at hg; try simp only [hg])) | (refine AW.i rfl (fun h => ?_) (fun h => ?_) <;> try simp only [hC, reduceCtorEq] at h) | ((with_reducible refine E ?_; repeat refine Y ?_); refine eF rfl ?_) | simp (disch := omega) only [go_sem, ← List.map_take, Int.toNat_zero, List.drop_zero] | (with_reducible intro hg; try simp only [hC, reduceCtorEq] at hg) | exact Cl | fail)
  · rw [diffs, allTo_false (by assumption) (by simp [h])]
  · exact ⟨_, [_], [], by omega, ⟨k + 1, rfl, rfl, rfl, by omega, allTo_step hR (by simp [h])⟩, rfl, trivial⟩
  · rw [show k = l.length by omega] at hR
    rw [diffs, hR]
instance areNames_i (L : Nat → Nat) [hL : Lok L] (l : List Str) : Ctr L Tryz.prog 106 [] [.sl false 1 (l.map AV.str)] (.v (.bool (names l))) [] True := by
  refine Ctr.of_body en106 Tryz.func106 rfl rfl fun hp => (?_); rw [Tryz.ntmps106]
  refine AW.fact 0 fun hf => ?_
  simp (disch := omega) only [go_sem, Nat.reduceBEq] at hf
  have hf := Nat.le_trans hf (hL.le 1)
  (refine vU ?_; with_reducible repeat' first | exact Le.l | refine Sw ?_ ?_ | intro h)
  refine AW.loopV [7] [0, 5, 6] (fun m xs o => ∃ k : Nat, xs = [.v (.int .i64 k)] ∧ o = [] ∧ m = l.length - k ∧ k ≤ l.length ∧ allTo (fun j => isName (at_ l j)) k = true) l.length [] trivial ⟨0, ?_, rfl, rfl, ?_, rfl⟩ ?_
  · rfl
  · omega
  rintro m xs o ⟨k, rfl, rfl, rfl, hk, hR⟩
  (refine vU ?_; with_reducible repeat' first | exact Le.l | refine Sw ?_ ?_ | intro h)
  · rw [names, allTo_false (by assumption) (by simp [h])]
  · exact ⟨_, [_], [], by omega, ⟨k + 1, rfl, rfl, rfl, by omega, allTo_step hR (by simp [h])⟩, rfl, trivial⟩
  · rw [show k = l.length by omega] at hR
    rw [names, hR]
end Go.Proofs.YtfglembdjbhanaaGreatDoor
namespace Go.Proofs.YtfglembdjbhanaaGreatDoor
open Go.Ab Go.Dt
set_option maxRecDepth 20000
set_option maxHeartbeats 2000000

theorem iCountTree_n (L : Nat → Nat) [hL : Lok L] : ∀ (n : Nat) (l : List GNode), Ctr L Tryz.prog 107 [] [.sl false 3 (l.map (encNode false))] (.v (.int .i64 (cnt l))) [] (wt l < n ∧ n ≤ 1048577)
  | 0, l => ⟨en107, fun h => absurd h.1 (Nat.not_lt_zero _)⟩
  | n + 1, l => by
    have ih := iCountTree_n L n
    refine Ctr.of_body en107 Tryz.func107 rfl rfl fun hp => (?_); rw [Tryz.ntmps107]
    have hc := cnt_le l
    have hl : l.length ≤ wt l := by unfold wt; omega
    (refine vU ?_; with_reducible repeat' first | exact Le.l | refine Sw ?_ ?_ | intro h)
    refine AW.loopV [3, 10] [0, 8, 9] (fun m xs o => ∃ k q : Nat, xs = [.v (.int .i64 q), .v (.int .i64 k)] ∧ o = [] ∧ m = l.length - k ∧ k ≤ l.length ∧ q + kc (l.drop k) = cnt l) l.length [] trivial ⟨0, l.length, ?_, rfl, rfl, ?_, rfl⟩ ?_
    · rfl
    · omega
    rintro m xs o ⟨k, q, rfl, rfl, rfl, hk, hR⟩
    have h1 : k < l.length → _ := wt_kid (l := l) (k := k)
    have h2 : k < l.length → _ := kc_at (l := l) (k := k)
    have h3 : cnt (at_ l k).fKids = (at_ l k).fKids.length + kc (at_ l k).fKids := rfl
    (refine vU ?_; with_reducible repeat' first | exact Le.l | refine Sw ?_ ?_ | intro h)
    · exact ⟨_, [_, _], [], by omega, ⟨k + 1, q + cnt (at_ l k).fKids, rfl, rfl, rfl, by omega, by omega⟩, rfl, trivial⟩
    · rw [drop_end h, kc] at hR; rw [← hR, Nat.add_zero]
theorem itreeDepth_n (L : Nat → Nat) [hL : Lok L] : ∀ (n : Nat) (l : List GNode), Ctr L Tryz.prog 108 [] [.sl false 3 (l.map (encNode false))] (.v (.int .i64 (dep l))) [] (wt l < n ∧ n ≤ 1048577)
  | 0, l => ⟨en108, fun h => absurd h.1 (Nat.not_lt_zero _)⟩
  | n + 1, l => by
    have ih := itreeDepth_n L n
    refine Ctr.of_body en108 Tryz.func108 rfl rfl fun hp => (?_); rw [Tryz.ntmps108]
    have hc := dep_le l
    have hl : l.length ≤ wt l := by unfold wt; omega
    (refine vU ?_; with_reducible repeat' first | exact Le.l | refine Sw ?_ ?_ | intro h)
    refine AW.loopV [3, 8] [0, 6, 7] (fun m xs o => ∃ k q : Nat, xs = [.v (.int .i64 q), .v (.int .i64 k)] ∧ o = [] ∧ m = l.length - k ∧ k ≤ l.length ∧ max q (dep (l.drop k)) = dep l) l.length [] trivial ⟨0, 0, ?_, rfl, rfl, ?_, ?_⟩ ?_
    · rfl
    · omega
    · simp
    rintro m xs o ⟨k, q, rfl, rfl, rfl, hk, hR⟩
    have h1 : k < l.length → _ := wt_kid (l := l) (k := k)
    have h2 : k < l.length → _ := dep_at (l := l) (k := k)
    (refine vU ?_; with_reducible repeat' first | exact Le.l | refine Sw ?_ ?_ | intro h)
    · refine ⟨_, [_, _], [], by omega, ⟨k + 1, max q (1 + dep (at_ l k).fKids), ?_, rfl, rfl, by omega, by omega⟩, rfl, trivial⟩
      refine congrArg (fun z => [AV.v (.int .i64 z), _]) ?_
      split <;> omega
    · rw [drop_end h, dep] at hR; rw [← hR, Nat.max_zero]
theorem iisForm_n (L : Nat → Nat) [hL : Lok L] : ∀ (n : Nat) (l : List GNode), Ctr L Tryz.prog 109 [] [.sl false 3 (l.map (encNode false))] (.v (.bool (frm l))) [] (wt l < n ∧ n ≤ 1048577)
  | 0, l => ⟨en109, fun h => absurd h.1 (Nat.not_lt_zero _)⟩
  | n + 1, l => by
    have ih := iisForm_n L n
    refine Ctr.of_body en109 Tryz.func109 rfl rfl fun hp => (?_); rw [Tryz.ntmps109]
    have hl : l.length ≤ wt l := by unfold wt; omega
    (refine vU ?_; with_reducible repeat' first | exact Le.l | refine Sw ?_ ?_ | intro h)
    refine AW.loopV [7] [0, 5, 6] (fun m xs o => ∃ k : Nat, xs = [.v (.int .i64 k)] ∧ o = [] ∧ m = l.length - k ∧ k ≤ l.length ∧ frm (l.drop k) = frm l) l.length [] trivial ⟨0, ?_, rfl, rfl, ?_, rfl⟩ ?_
    · rfl
    · omega
    rintro m xs o ⟨k, rfl, rfl, rfl, hk, hR⟩
    have h1 : k < l.length → _ := wt_kid (l := l) (k := k)
    (refine vU ?_; with_reducible repeat' first | exact Le.l | refine Sw ?_ ?_ | intro h)
    · rw [← hR, frm_at (l := l) (k := k) (by assumption)]
      rcases h with h | h
      · rw [nodeOk_no h]; rfl
      · rw [h, Bool.and_false]; rfl
    · exact ⟨_, [_], [], by omega, ⟨k + 1, rfl, rfl, rfl, by omega, by rw [← hR, frm_at (l := l) (k := k) (by assumption), nodeOk_yes h.1, h.2]; rfl⟩, rfl, trivial⟩
    · rw [← hR, drop_end h, frm]
theorem sl20Form_n (L : Nat → Nat) [hL : Lok L] : ∀ (n : Nat) (l : List GNode) (d : Nat), Ctr L Tryz.prog 91 [] [.sl false 3 (l.map (encNode false)), .v (.int .i64 d)] (.v (.bool (lfr l d && (l.length == 0 || decide (d ≤ 10))))) [] (wt l < n ∧ n + d ≤ 1048579)
  | 0, l, d => ⟨en91, fun h => absurd h.1 (Nat.not_lt_zero _)⟩
  | n + 1, l, d => by
    have ih := sl20Form_n L n
    refine Ctr.of_body en91 Tryz.func91 rfl rfl fun hp => (?_); rw [Tryz.ntmps91]
    have hl : l.length ≤ wt l := by unfold wt; omega
    (refine vU ?_; with_reducible repeat' first | exact Le.l | refine Sw ?_ ?_ | intro h)
    refine AW.loopV [5] [0, 1] (fun m xs o => ∃ k : Nat, xs = [.v (.int .i64 k)] ∧ o = [] ∧ m = l.length - k ∧ k ≤ l.length ∧ lfr (l.drop k) d = lfr l d) l.length [] trivial ⟨0, ?_, rfl, rfl, ?_, rfl⟩ ?_
    · rfl
    · omega
    rintro m xs o ⟨k, rfl, rfl, rfl, hk, hR⟩
    have h1 : k < l.length → _ := wt_kid (l := l) (k := k)
    (refine vU ?_; with_reducible repeat' first | exact Le.l | refine Sw ?_ ?_ | intro h)
    · rw [← hR, lfr_at (l := l) (k := k) (by assumption)]
      rcases h with h | h
      · rw [nodeOk_no h]; rfl
      · have : (lfr (at_ l k).fKids (d + 1) && ((at_ l k).fKids.length == 0 || decide (d + 1 ≤ 10))) = false := by
          cases e : lfr (at_ l k).fKids (d + 1) with
          | false => rfl
          | true =>
            have h5 := h e
            have e1 : ((at_ l k).fKids.length == 0) = false := by simpa using h5.1
            have e2 : decide (d + 1 ≤ 10) = false := by simp only [decide_eq_false_iff_not]; omega
            rw [e1, e2]; rfl
        rw [this, Bool.and_false]; rfl
    · refine ⟨_, [_], [], by omega, ⟨k + 1, rfl, rfl, rfl, by omega, ?_⟩, rfl, trivial⟩
      rw [← hR, lfr_at (l := l) (k := k) (by assumption), nodeOk_yes h.1, h.2.1]
      have : ((at_ l k).fKids.length == 0 || decide (d + 1 ≤ 10)) = true := by rw [Bool.or_eq_true, beq_iff_eq, decide_eq_true_eq]; omega
      rw [this]; rfl
    · rw [← hR, drop_end h, lfr, Bool.true_and]
      refine congrArg (fun z => AV.v (.bool z)) ?_
      congr 1
      · exact Bool.eq_iff_iff.2 (by simp)
      · exact decide_eq_decide.2 (by omega)
theorem sl13Left_n (L : Nat → Nat) [hL : Lok L] : ∀ (n : Nat) (l : List GNode) (r : Int), Ctr L Tryz.prog 90 [] [.sl false 3 (l.map (encNode false)), .v (.int .i64 r)] (.v (.int .i64 (l13g l (r - l.length)))) [] (wt l < n ∧ n ≤ 1048577 ∧ 0 ≤ r ∧ r ≤ 1048576)
  | 0, l, r => ⟨en90, fun h => absurd h.1 (Nat.not_lt_zero _)⟩
  | n + 1, l, r => by
    have ih := sl13Left_n L n
    refine Ctr.of_body en90 Tryz.func90 rfl rfl fun hp => (?_); rw [Tryz.ntmps90]
    have hl : l.length ≤ wt l := by unfold wt; omega
    (refine vU ?_; with_reducible repeat' first | exact Le.l | refine Sw ?_ ?_ | intro h)
    refine AW.loopV [1, 5] [0] (fun m xs o => ∃ (k : Nat) (q : Int), xs = [.v (.int .i64 q), .v (.int .i64 k)] ∧ o = [] ∧ m = l.length - k ∧ k ≤ l.length ∧ -4611686018427387904 ≤ q ∧ q ≤ 1048576 ∧ l13g (l.drop k) q = l13g l (r - l.length)) l.length [] trivial ⟨0, r - l.length, ?_, rfl, rfl, ?_, ?_, ?_, rfl⟩ ?_
    · rfl
    · omega
    · omega
    · omega
    rintro m xs o ⟨k, q, rfl, rfl, rfl, hk, h0, h1, hR⟩
    have hw : k < l.length → _ := wt_kid (l := l) (k := k)
    have h3 := l13g_le (at_ l k).fKids (q - (at_ l k).fKids.length)
    (refine vU ?_; with_reducible repeat' first | exact Le.l | refine Sw ?_ ?_ | intro h)
    · have h4 : -4611686018427387904 ≤ l13g (at_ l k).fKids (q - (at_ l k).fKids.length) := l13g_ge _ _ (by have := hw h.1; unfold wt at *; omega) (by have := hw h.1; omega)
      refine ⟨_, [_, _], [], by omega, ⟨k + 1, _, rfl, rfl, rfl, by omega, h4, by omega, ?_⟩, rfl, trivial⟩
      rw [← hR, l13g_at h.1, if_neg (by omega)]
    · rw [← hR]
      by_cases e : k < l.length
      · rw [l13g_neg _ (h e)]
      · rw [drop_end e, l13g]

instance iCountTree_i (L : Nat → Nat) [hL : Lok L] (l : List GNode) : Ctr L Tryz.prog 107 [] [.sl false 3 (l.map (encNode false))] (.v (.int .i64 (cnt l))) [] (wt l ≤ 1048576) := ⟨en107, fun h => (iCountTree_n L 1048577 l).out ⟨by omega, by omega⟩⟩
instance itreeDepth_i (L : Nat → Nat) [hL : Lok L] (l : List GNode) : Ctr L Tryz.prog 108 [] [.sl false 3 (l.map (encNode false))] (.v (.int .i64 (dep l))) [] (wt l ≤ 1048576) := ⟨en108, fun h => (itreeDepth_n L 1048577 l).out ⟨by omega, by omega⟩⟩
instance iisForm_i (L : Nat → Nat) [hL : Lok L] (l : List GNode) : Ctr L Tryz.prog 109 [] [.sl false 3 (l.map (encNode false))] (.v (.bool (frm l))) [] (wt l ≤ 1048576) := ⟨en109, fun h => (iisForm_n L 1048577 l).out ⟨by omega, by omega⟩⟩
instance sl20Form_i (L : Nat → Nat) [hL : Lok L] (l : List GNode) : Ctr L Tryz.prog 91 [] [.sl false 3 (l.map (encNode false)), .v (.int .i64 1)] (.v (.bool (lfr l 1 && (l.length == 0 || decide (1 ≤ 10))))) [] (wt l ≤ 1048576) := ⟨en91, fun h => (sl20Form_n L 1048577 l 1).out ⟨by omega, by omega⟩⟩
instance sl13Left_i (L : Nat → Nat) [hL : Lok L] (l : List GNode) (r : Int) : Ctr L Tryz.prog 90 [] [.sl false 3 (l.map (encNode false)), .v (.int .i64 r)] (.v (.int .i64 (l13g l (r - l.length)))) [] (wt l ≤ 1048576 ∧ 0 ≤ r ∧ r ≤ 1048576) := ⟨en90, fun h => (sl13Left_n L 1048577 l r).out ⟨by omega, by omega, h.2⟩⟩
instance iIsForm_i (L : Nat → Nat) [hL : Lok L] (l : List GNode) : Ctr L Tryz.prog 76 [] [.sl false 3 (l.map (encNode false))] (.v (.bool (isForm l))) [] (wt l ≤ 1048576) := by
  refine Ctr.of_body en76 Tryz.func76 rfl rfl fun hp => (?_); rw [Tryz.ntmps76]
  (refine vU ?_; with_reducible repeat' first | exact Le.l | refine Sw ?_ ?_ | intro h)
  rw [isForm]
  refine congrArg (fun z => AV.v (.bool z)) ?_
  rw [show decide ((cnt l : Int) ≤ 120) = decide (cnt l ≤ 120) from decide_eq_decide.2 (by omega), show decide ((dep l : Int) ≤ 10) = decide (dep l ≤ 10) from decide_eq_decide.2 (by omega)]
instance sIsForm_i (L : Nat → Nat) [hL : Lok L] (l : List GNode) : Ctr L Tryz.prog 50 [] [.sl false 3 (l.map (encNode false))] (.v (.bool (isForm l))) [] (wt l ≤ 1048576) := by
  refine Ctr.of_body en50 Tryz.func50 rfl rfl fun hp => (?_); rw [Tryz.ntmps50]
  (refine vU ?_; with_reducible repeat' first | exact Le.l | refine Sw ?_ ?_ | intro h)
  rw [← isForm_spec]; rfl
end Go.Proofs.YtfglembdjbhanaaGreatDoor
namespace Go.Proofs.YtfglembdjbhanaaGreatDoor
open Go.Ab Go.Dt
set_option maxRecDepth 20000
set_option maxHeartbeats 2000000

theorem valuesFit_n : ∀ (n : Nat) (l : List GNode) (ps : List Str), Ctr lim Tryz.prog 77 [] [.sl false 3 (l.map (encNode false)), .sl false 1 (ps.map AV.str)] (.v (.bool (bodyOk ps l))) [] (wt l < n ∧ n ≤ 1048577)
  | 0, l, ps => ⟨en77, fun h => absurd h.1 (Nat.not_lt_zero _)⟩
  | n + 1, l, ps => by
    have ih := valuesFit_n n
    refine Ctr.of_body en77 Tryz.func77 rfl rfl fun hp => (?_); rw [Tryz.ntmps77]
    have hl : l.length ≤ wt l := by unfold wt; omega
    (refine vU ?_; with_reducible repeat' first | exact Le.l | refine Sw ?_ ?_ | intro h)
    refine AW.loopV [13] [0, 1, 11, 12] (fun m xs o => ∃ k : Nat, xs = [.v (.int .i64 k)] ∧ o = [] ∧ m = l.length - k ∧ k ≤ l.length ∧ bodyOk ps (l.drop k) = bodyOk ps l) l.length [] trivial ⟨0, ?_, rfl, rfl, ?_, rfl⟩ ?_
    · rfl
    · omega
    rintro m xs o ⟨k, rfl, rfl, rfl, hk, hR⟩
    have h1 : k < l.length → _ := wt_kid (l := l) (k := k)
    (refine vK ?_; with_reducible repeat' first | exact Le.l | refine Sw ?_ ?_ | intro h)
    (refine AW.i rfl (fun h => ?_) (fun h => ?_) <;> try simp only [hC, reduceCtorEq] at h)
    · (refine vK ?_; with_reducible repeat' first | exact Le.l | refine Sw ?_ ?_ | intro h)
      (refine AW.i rfl (fun h => ?_) (fun h => ?_) <;> try simp only [hC, reduceCtorEq] at h)
      · rw [← hR, bodyOk_at ps (l := l) (k := k) (by assumption)]
        rcases h with h | h
        · (refine vU ?_; with_reducible repeat' first | exact Le.l | refine Sw ?_ ?_ | intro h)
          simp [h]
        · (refine vU ?_; with_reducible repeat' first | exact Le.l | refine Sw ?_ ?_ | intro h)
          simp [h]
      · have hn := allTo_list (cont ps) (nmL (tk (at_ l k).fValue))
        have hnl := nmL_len (at_ l k).fValue
        refine AW.imp (Imp.frz 7 ?_)
        simp (maxSteps := 2000000) (disch := omega) only [go_sem, frzL_str]
        (refine vU ?_; with_reducible repeat' first | exact Le.l | refine Sw ?_ ?_ | intro h)
        refine AW.loopV [34] [0, 1, 11, 12, 13, 32, 33] (fun m xs o => ∃ j : Nat, xs = [.v (.int .i64 j)] ∧ o = [] ∧ m = (nmL (tk (at_ l k).fValue)).length - j ∧ j ≤ (nmL (tk (at_ l k).fValue)).length ∧ allTo (fun j => cont ps (at_ (nmL (tk (at_ l k).fValue)) j)) j = true) _ [] trivial ⟨0, ?_, rfl, rfl, ?_, rfl⟩ ?_
        · rfl
        · omega
        rintro m xs o ⟨j, rfl, rfl, rfl, hj, hQ⟩
        (refine vU ?_; with_reducible repeat' first | exact Le.l | refine Sw ?_ ?_ | intro h)
        · rw [← hR, bodyOk_at ps (l := l) (k := k) (by assumption), ← hn, allTo_false (by assumption) h]; simp
        · exact ⟨_, [_], [], by omega, ⟨j + 1, rfl, rfl, rfl, by omega, allTo_step hQ h⟩, rfl, trivial⟩
        · rw [show j = (nmL (tk (at_ l k).fValue)).length by omega] at hQ
          rename_i h8 h9
          refine ⟨_, [_], [], by omega, ⟨k + 1, rfl, rfl, rfl, by omega, ?_⟩, rfl, trivial⟩
          rw [← hR, bodyOk_at ps (l := l) (k := k) (by assumption), ← hn, hQ, h9.1, h9.2]; rfl
    · (refine vU ?_; with_reducible repeat' first | exact Le.l | refine Sw ?_ ?_ | intro h)
      rw [← hR, drop_end h, bodyOk]
theorem l28Body_n : ∀ (n : Nat) (l : List GNode) (nm : Str) (ps : List GParam) (bd : List GNode), Ctr lim Tryz.prog 51 [] [.agg [.str nm, .sl false 6 (ps.map (encParam false)), .sl false 3 (bd.map (encNode false))], .sl false 3 (l.map (encNode false))] (.v (.bool (bodyOk (ps.map GParam.fName) l))) [] (wt l < n ∧ n ≤ 1048577)
  | 0, l, nm, ps, bd => ⟨en51, fun h => absurd h.1 (Nat.not_lt_zero _)⟩
  | n + 1, l, nm, ps, bd => by
    have ih := l28Body_n n
    refine Ctr.of_body en51 Tryz.func51 rfl rfl fun hp => (?_); rw [Tryz.ntmps51]
    have hl : l.length ≤ wt l := by unfold wt; omega
    (refine vU ?_; with_reducible repeat' first | exact Le.l | refine Sw ?_ ?_ | intro h)
    refine AW.loopV [5] [0, 1, 2] (fun m xs o => ∃ k : Nat, xs = [.v (.int .i64 k)] ∧ o = [] ∧ m = l.length - k ∧ k ≤ l.length ∧ bodyOk (ps.map GParam.fName) (l.drop k) = bodyOk (ps.map GParam.fName) l) l.length [] trivial ⟨0, ?_, rfl, rfl, ?_, rfl⟩ ?_
    · rfl
    · omega
    rintro m xs o ⟨k, rfl, rfl, rfl, hk, hR⟩
    have h1 : k < l.length → _ := wt_kid (l := l) (k := k)
    (refine vK ?_; with_reducible repeat' first | exact Le.l | refine Sw ?_ ?_ | intro h)
    (refine AW.i rfl (fun h => ?_) (fun h => ?_) <;> try simp only [hC, reduceCtorEq] at h)
    · (refine vK ?_; with_reducible repeat' first | exact Le.l | refine Sw ?_ ?_ | intro h)
      have hn := allTo_list (cont (ps.map GParam.fName)) (nmL (tk (at_ l k).fValue))
      have hnl := nmL_len (at_ l k).fValue
      refine AW.imp (Imp.frz 6 ?_)
      simp (maxSteps := 2000000) (disch := omega) only [go_sem, frzL_str]
      refine AW.loopV [7, 8] [0, 1, 2, 5, 6] (fun m xs o => ∃ j : Nat, xs = [.v (.bool ((tk (at_ l k).fValue).2 && allTo (fun j => cont (ps.map GParam.fName) (at_ (nmL (tk (at_ l k).fValue)) j)) j)), .v (.int .i64 j)] ∧ o = [] ∧ m = (nmL (tk (at_ l k).fValue)).length - j ∧ j ≤ (nmL (tk (at_ l k).fValue)).length) _ [] trivial ⟨0, ?_, rfl, rfl, ?_⟩ ?_
      · simp only [allTo, Bool.and_true]; rfl
      · omega
      rintro m xs o ⟨j, rfl, rfl, rfl, hj⟩
      (refine vU ?_; with_reducible repeat' first | exact Le.l | refine Sw ?_ ?_ | intro h)
      · exact ⟨_, [_, _], [], by omega, ⟨j + 1, by rw [prm_cont, Bool.and_assoc]; rfl, rfl, rfl, by omega⟩, rfl, trivial⟩
      · rw [← hR, bodyOk_at _ (l := l) (k := k) (by assumption), ← hn]
        rw [show j = (nmL (tk (at_ l k).fValue)).length by omega] at h
        rcases h with h | h
        · cases e : (tk (at_ l k).fValue).2 with
          | false => rfl
          | true => rw [h e]; rfl
        · rw [h, Bool.and_false]; rfl
      · rw [show j = (nmL (tk (at_ l k).fValue)).length by omega] at h
        refine ⟨_, [_], [], by omega, ⟨k + 1, rfl, rfl, rfl, by omega, ?_⟩, rfl, trivial⟩
        rw [← hR, bodyOk_at _ (l := l) (k := k) (by assumption), ← hn, h.1.1, h.1.2, h.2]; rfl
    · (refine vU ?_; with_reducible repeat' first | exact Le.l | refine Sw ?_ ?_ | intro h)
      rw [← hR, drop_end h, bodyOk]

instance valuesFit_i (l : List GNode) (ps : List Str) : Ctr lim Tryz.prog 77 [] [.sl false 3 (l.map (encNode false)), .sl false 1 (ps.map AV.str)] (.v (.bool (bodyOk ps l))) [] (wt l ≤ 1048576) := ⟨en77, fun h => (valuesFit_n 1048577 l ps).out ⟨by omega, by omega⟩⟩
instance l28Body_i (l : List GNode) (nm : Str) (ps : List GParam) (bd : List GNode) : Ctr lim Tryz.prog 51 [] [.agg [.str nm, .sl false 6 (ps.map (encParam false)), .sl false 3 (bd.map (encNode false))], .sl false 3 (l.map (encNode false))] (.v (.bool (bodyOk (ps.map GParam.fName) l))) [] (wt l ≤ 1048576) := ⟨en51, fun h => (l28Body_n 1048577 l nm ps bd).out ⟨by omega, by omega⟩⟩
end Go.Proofs.YtfglembdjbhanaaGreatDoor
namespace Go.Proofs.YtfglembdjbhanaaGreatDoor
open Go.Ab Go.Dt
set_option maxRecDepth 20000
set_option maxHeartbeats 4000000

section
variable (ip : Str → Bool)
variable [hs : ∀ s, Ctr lim Tryz.prog 89 [] [.str s] (.v (.bool (ip s))) [] True] [hi : ∀ s, Ctr lim Tryz.prog 105 [] [.str s] (.v (.bool (ip s))) [] True]
omit hs in
include hi in
theorem iIsType_t (x : GType) : Ctr lim Tryz.prog 74 [] [.agg [.v (.int .i64 x.fKind), .sl false 2 (x.fRanges.map (encRange false)), .sl false 1 (x.fNames.map AV.str), .str x.fPattern, .str x.fPath]] (.v (.bool (isType ip x))) [] True := by
  refine Ctr.of_body en74 Tryz.func74 rfl rfl fun hp => (?_); rw [Tryz.ntmps74]
  refine AW.fact 0 fun hf => ?_
  simp (disch := omega) only [go_sem, Nat.reduceBEq] at hf
  (refine vU ?_; with_reducible repeat' first | exact Le.l | refine Sw ?_ ?_ | intro h)
  · rw [← isType_w0 h]
  · rw [← isType_w1 (by assumption) h]
  · rw [← isType_w2 (by assumption) h]; rfl
  · rw [← isType_w4 (by assumption) h]
  · rw [← isType_w5 (by assumption) h]
  · rw [← isType_wz (by assumption) (by assumption) (by assumption) (by assumption) h]
omit hi in
include hs in
theorem sIsType_t (x : GType) : Ctr lim Tryz.prog 48 [] [.agg [.v (.int .i64 x.fKind), .sl false 2 (x.fRanges.map (encRange false)), .sl false 1 (x.fNames.map AV.str), .str x.fPattern, .str x.fPath]] (.v (.bool (isType ip x))) [] True := by
  refine Ctr.of_body en48 Tryz.func48 rfl rfl fun hp => (?_); rw [Tryz.ntmps48]
  refine AW.fact 0 fun hf => ?_
  simp (disch := omega) only [go_sem, Nat.reduceBEq] at hf
  (refine vU ?_; with_reducible repeat' first | exact Le.l | refine Sw ?_ ?_ | intro h)
  refine AW.loopV [3] [0, 1] (fun m xs o => ∃ k : Nat, xs = [.v (.int .i64 k)] ∧ o = [] ∧ m = x.fNames.length - k ∧ k ≤ x.fNames.length ∧ allTo (fun j => isName (at_ x.fNames j)) k = true ∧ allTo (fun j => !cont (x.fNames.take j) (at_ x.fNames j)) k = true) x.fNames.length [] trivial ⟨0, ?_, rfl, rfl, ?_, rfl, rfl⟩ ?_
  · rfl
  · omega
  rintro m xs o ⟨k, rfl, rfl, rfl, hk, hR, hQ⟩
  (refine vK ?_; with_reducible repeat' first | exact Le.l | refine Sw ?_ ?_ | intro h)
  (refine AW.i rfl (fun h => ?_) (fun h => ?_) <;> try simp only [hC, reduceCtorEq] at h)
  · (refine vK ?_; with_reducible repeat' first | exact Le.l | refine Sw ?_ ?_ | intro h)
    refine AW.loopV [4] [0, 1, 3] (fun m xs o => ∃ j : Nat, xs = [.v (.int .i64 j)] ∧ o = [] ∧ m = k - j ∧ j ≤ k ∧ ∀ y ∈ (x.fNames.take k).take j, (y == at_ x.fNames k) = false) k [] trivial ⟨0, ?_, rfl, rfl, ?_, ?_⟩ ?_
    · rfl
    · omega
    · simp
    rintro m xs o ⟨j, rfl, rfl, rfl, hj, hS⟩
    (refine vU ?_; with_reducible repeat' first | exact Le.l | refine Sw ?_ ?_ | intro h)
    · rw [← isType_bad (by assumption) (.inr (allTo_false (by assumption) (by rw [cont_dup (by assumption) (by assumption) h]; rfl)))]
    · exact ⟨_, [_], [], by omega, ⟨j + 1, rfl, rfl, rfl, by omega, take_step' (by rw [List.length_take]; omega) hS (by rw [at_take (by assumption)]; simpa using h)⟩, rfl, trivial⟩
    · rw [← isType_bad (by assumption) (.inl (allTo_false (by assumption) h))]
    · rw [show j = k by omega, List.take_take, Nat.min_self] at hS
      exact ⟨_, [_], [], by omega, ⟨k + 1, rfl, rfl, rfl, by omega, allTo_step hR h, allTo_step hQ (by rw [cont_free hS]; rfl)⟩, rfl, trivial⟩
  · rw [show k = x.fNames.length by omega] at hR hQ
    (refine vU ?_; with_reducible repeat' first | exact Le.l | refine Sw ?_ ?_ | intro h)
    · rw [← isType_v1 h]
    · rw [← isType_v2 h]; rfl
    · rw [← isType_v4 h hR hQ]
    · rw [← isType_v5 h]
    · rw [← isType_v3 (by assumption) (by assumption) (by assumption) (by assumption) (.inl h)]
    · rw [← isType_v3 (by assumption) (by assumption) (by assumption) (by assumption) (.inr h)]
    · rw [← isType_vz (by assumption) (by assumption) (by assumption) (by assumption) (by assumption) (by assumption)]
end
end Go.Proofs.YtfglembdjbhanaaGreatDoor
namespace Go.Proofs.YtfglembdjbhanaaGreatDoor
open Go.Ab Go.Dt
set_option maxRecDepth 20000
set_option maxHeartbeats 4000000

section
variable (ip : Str → Bool)
variable [hs : ∀ x : GType, Ctr lim Tryz.prog 48 [] [.agg [.v (.int .i64 x.fKind), .sl false 2 (x.fRanges.map (encRange false)), .sl false 1 (x.fNames.map AV.str), .str x.fPattern, .str x.fPath]] (.v (.bool (isType ip x))) [] True]
variable [hi : ∀ x : GType, Ctr lim Tryz.prog 74 [] [.agg [.v (.int .i64 x.fKind), .sl false 2 (x.fRanges.map (encRange false)), .sl false 1 (x.fNames.map AV.str), .str x.fPattern, .str x.fPath]] (.v (.bool (isType ip x))) [] True]
omit hs in
include hi in
theorem iIsTemplate_t (x : GTemplate) : Ctr lim Tryz.prog 30 [] [.agg [.str x.fName, .sl false 6 (x.fParams.map (encParam false)), .sl false 3 (x.fBody.map (encNode false))]] (.v (.bool (isTemplate ip x))) [] (wt x.fBody ≤ 1048576 ∧ x.fParams.length ≤ 1048576) := by
  refine Ctr.of_body en30 Tryz.func30 rfl rfl fun hp => (?_); rw [Tryz.ntmps30]
  refine AW.fact 0 fun hf => ?_
  simp (disch := omega) only [go_sem, Nat.reduceBEq] at hf
  (refine vU ?_; with_reducible repeat' first | exact Le.l | refine Sw ?_ ?_ | intro h)
  refine AW.loopV [3, 10] [0, 1, 8, 9] (fun m xs o => ∃ k : Nat, xs = [.sl true 1 (((x.fParams.take k).map GParam.fName).map AV.str), .v (.int .i64 k)] ∧ o = [] ∧ m = x.fParams.length - k ∧ k ≤ x.fParams.length ∧ allTo (prmOk ip x.fParams) k = true) x.fParams.length [] trivial ⟨0, ?_, rfl, rfl, ?_, rfl⟩ ?_
  · rfl
  · omega
  rintro m xs o ⟨k, rfl, rfl, rfl, hk, hR⟩
  have hlt : (x.fParams.take k).length = k := by rw [List.length_take]; omega
  (refine vK ?_; with_reducible repeat' first | exact Le.l | refine Sw ?_ ?_ | intro h)
  (refine AW.i rfl (fun h => ?_) (fun h => ?_) <;> try simp only [hC, reduceCtorEq] at h)
  · (refine vU ?_; with_reducible repeat' first | exact Le.l | refine Sw ?_ ?_ | intro h)
    · rw [isTemplate_no (by assumption) (by rcases h with h | h <;> simp [prmOk, h])]
    · refine ⟨_, [_, _], [], by omega, ⟨k + 1, rfl, rfl, rfl, by omega, allTo_step hR (by simp [prmOk, h])⟩, ?_, trivial⟩
      have e : x.fParams.take (k + 1) = x.fParams.take k ++ [at_ x.fParams k] := by
        rw [List.take_succ_eq_append_getElem (by assumption)]
        unfold at_; rw [List.getElem?_eq_getElem (by assumption)]; rfl
      rw [e, List.map_append, List.map_append]; rfl
  · refine AW.imp (Imp.frz 3 ?_)
    simp (maxSteps := 2000000) (disch := omega) only [go_sem, frzL_str]
    (refine vU ?_; with_reducible repeat' first | exact Le.l | refine Sw ?_ ?_ | intro h)
    rw [show k = x.fParams.length by omega] at hR hlt ⊢
    rw [hlt, List.take_length]
    refine congrArg (fun z => AV.v (.bool z)) ?_
    rw [isTemplate, hR, Bool.true_and, show decide ((x.fParams.length : Int) ≤ 6) = decide (x.fParams.length ≤ 6) from decide_eq_decide.2 (by omega)]
    cases diffs (x.fParams.map GParam.fName) <;> simp
omit hi in
include hs in
theorem sIsTemplate_t (x : GTemplate) : Ctr lim Tryz.prog 11 [] [.agg [.str x.fName, .sl false 6 (x.fParams.map (encParam false)), .sl false 3 (x.fBody.map (encNode false))]] (.v (.bool (isTemplate ip x))) [] (wt x.fBody ≤ 1048576 ∧ x.fParams.length ≤ 1048576) := by
  refine Ctr.of_body en11 Tryz.func11 rfl rfl fun hp => (?_); rw [Tryz.ntmps11]
  refine AW.fact 0 fun hf => ?_
  simp (disch := omega) only [go_sem, Nat.reduceBEq] at hf
  (refine vU ?_; with_reducible repeat' first | exact Le.l | refine Sw ?_ ?_ | intro h)
  refine AW.loopV [3] [0, 1] (fun m xs o => ∃ k : Nat, xs = [.v (.int .i64 k)] ∧ o = [] ∧ m = x.fParams.length - k ∧ k ≤ x.fParams.length ∧ allTo (prmOk ip x.fParams) k = true ∧ allTo (fun j => !cont ((x.fParams.map GParam.fName).take j) (at_ (x.fParams.map GParam.fName) j)) k = true) x.fParams.length [] trivial ⟨0, ?_, rfl, rfl, ?_, rfl, rfl⟩ ?_
  · rfl
  · omega
  rintro m xs o ⟨k, rfl, rfl, rfl, hk, hR, hQ⟩
  (refine vU ?_; with_reducible repeat' first | exact Le.l | refine Sw ?_ ?_ | intro h)
  · rename_i h9
    rcases h with h | h
    · rw [isTemplate_no h9 (by rcases h with h | h <;> simp [prmOk, h])]
    · rw [isTemplate_dup h9 (by
        cases e : cont ((x.fParams.map GParam.fName).take k) (at_ (x.fParams.map GParam.fName) k) with
        | true => rfl
        | false => exact absurd ((prm_first h9).2 e) h)]
  · exact ⟨_, [_], [], by omega, ⟨k + 1, rfl, rfl, rfl, by omega, allTo_step hR (by simp [prmOk, h]), allTo_step hQ (by rw [(prm_first (by assumption)).1 h.2]; rfl)⟩, rfl, trivial⟩
  · rw [show k = x.fParams.length by omega] at hR hQ
    refine congrArg (fun z => AV.v (.bool z)) ?_
    have hd : diffs (x.fParams.map GParam.fName) = true := by unfold diffs; rw [List.length_map]; exact hQ
    rw [isTemplate, hR, hd, Bool.true_and, Bool.true_and, show decide ((x.fParams.length : Int) ≤ 6) = decide (x.fParams.length ≤ 6) from decide_eq_decide.2 (by omega)]
end
end Go.Proofs.YtfglembdjbhanaaGreatDoor
