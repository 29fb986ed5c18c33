/-
  Part of a proof: Tp0, Tp1, Tp2.
-/
import Derived.Test.YtkdchlggdcmkbaaG5
set_option linter.unusedSimpArgs false
set_option linter.unusedVariables false
namespace Go.Dt
open Go.Ab
def rgOk (l : List GRange) : Nat → Bool
  | 0 => decide ((at_ l 0).fLo ≤ (at_ l 0).fHi) && decide (-1000000000 ≤ (at_ l 0).fLo) && decide ((at_ l 0).fHi ≤ 1000000000)
  | j + 1 => decide ((at_ l (j + 1)).fLo ≤ (at_ l (j + 1)).fHi) && decide (-1000000000 ≤ (at_ l (j + 1)).fLo) && decide ((at_ l (j + 1)).fHi ≤ 1000000000) && decide ((at_ l j).fHi + 2 ≤ (at_ l (j + 1)).fLo)
theorem rgOk_hi {l : List GRange} {j : Nat} (h : rgOk l j = true) : (at_ l j).fLo ≤ (at_ l j).fHi ∧ -1000000000 ≤ (at_ l j).fLo ∧ (at_ l j).fHi ≤ 1000000000 := by
  cases j <;> simp [rgOk] at h <;> omega
theorem rg0 (l : List GRange) : rgOk l 0 = true ↔ (at_ l 0).fLo ≤ (at_ l 0).fHi ∧ -1000000000 ≤ (at_ l 0).fLo ∧ (at_ l 0).fHi ≤ 1000000000 := by simp [rgOk, and_assoc]
theorem rgS (l : List GRange) (j : Nat) : rgOk l (j + 1) = true ↔ (at_ l (j + 1)).fLo ≤ (at_ l (j + 1)).fHi ∧ -1000000000 ≤ (at_ l (j + 1)).fLo ∧ (at_ l (j + 1)).fHi ≤ 1000000000 ∧ (at_ l j).fHi + 2 ≤ (at_ l (j + 1)).fLo := by simp [rgOk, and_assoc]
def areRanges (l : List GRange) : Bool := allTo (rgOk l) l.length && decide (l.length ≤ 6)
theorem areRanges_no {l : List GRange} {j : Nat} (hj : j < l.length) (h : rgOk l j = false) : areRanges l = false := by
  rw [areRanges, allTo_false hj h]; rfl
theorem areRanges_end {l : List GRange} {k : Nat} (h : allTo (rgOk l) k = true) (e : k = l.length) : areRanges l = decide ((l.length : Int) ≤ 6) := by
  subst e; rw [areRanges, h, Bool.true_and]; exact decide_eq_decide.2 (by omega)
def cont (l : List Str) (s : Str) : Bool := decide (0 ≤ idx (fun x => x == s) l)
/-- no two are alike -/
def diffs (l : List Str) : Bool := allTo (fun j => !cont (l.take j) (at_ l j)) l.length
def prmI (l : List GParam) (n : Str) : Int := idx (fun x => x.fName == n) l
def names (l : List Str) : Bool := allTo (fun j => isName (at_ l j)) l.length
end Go.Dt
namespace Go.Proofs.Ytkdchlggdcmkbaa
open Go.Ab Go.Dt
set_option maxRecDepth 20000
set_option maxHeartbeats 1000000

instance inNumbers_i (L : Nat → Nat) (n : Int) : Ctr L Try.prog 155 [] [.v (.int .i64 n)] (.v (.bool (decide (-1000000000 ≤ n) && decide (n ≤ 1000000000)))) [] True := by
  refine Ctr.of_body en155 Try.func155 rfl rfl fun hp => (?_); rw [Try.ntmps155]
  (repeat' (first | (with_reducible first | refine Z ?_ | refine Y ?_ | (refine hK _ _ ?_; clear hK K) | exact trivial | refine And.intro ?_ ?_) | (refine AW.i rfl (fun h => ?_) (fun h => ?_) <;> try simp only [hC, reduceCtorEq] at h) | with_reducible rfl | with_reducible refine E ?_ | refine eF rfl ?_ | (with_reducible refine fun (K : _ → _ → Prop) hK => ?_) | (with_reducible show drawOK _ _ = true; kernel_rfl) | (with_reducible refine gI fun hg => ?_; try simp only [hC, reduceCtorEq] at hg; try simp only [hg]) | simp (maxSteps := 2000000) (disch := omega) only [go_sem] | (with_reducible intro hg; try simp only [hC, reduceCtorEq] at hg) | (with_reducible show List.Nodup _; decide) | (with_reducible show (_ : Bool) = false; first | rfl | (simp [*]; done)) | with_reducible exact at8_le _ _ | with_reducible exact at8_ge _ _ | (simp only [hC, reduceCtorEq]; omega) | omega | with_reducible assumption | (with_reducible show (_ : Bool) = true; first | (simp [*]; done) | (simp only [hC, reduceCtorEq]; (repeat' (first | assumption | apply And.intro)); done))))
instance sAreRanges_i (L : Nat → Nat) [hL : Lok L] (l : List GRange) : Ctr L Try.prog 121 [] [.sl false 2 (l.map (encRange false))] (.v (.bool (areRanges l))) [] True := by
  refine Ctr.of_body en121 Try.func121 rfl rfl fun hp => (?_); rw [Try.ntmps121]
  refine AW.fact 0 fun hf => ?_
  simp (disch := omega) only [go_sem, Nat.reduceBEq] at hf
  have hf := Nat.le_trans hf (hL.le 2)
  (repeat' (first | (with_reducible first | refine Z ?_ | refine Y ?_ | (refine hK _ _ ?_; clear hK K) | exact trivial | refine And.intro ?_ ?_) | (refine AW.i rfl (fun h => ?_) (fun h => ?_) <;> try simp only [hC, reduceCtorEq] at h) | with_reducible rfl | with_reducible refine E ?_ | refine eF rfl ?_ | (with_reducible refine fun (K : _ → _ → Prop) hK => ?_) | (with_reducible show drawOK _ _ = true; kernel_rfl) | (with_reducible refine gI fun hg => ?_; try simp only [hC, reduceCtorEq] at hg; try simp only [hg]) | simp (maxSteps := 2000000) (disch := omega) only [go_sem] | (with_reducible intro hg; try simp only [hC, reduceCtorEq] at hg) | (with_reducible show List.Nodup _; decide) | (with_reducible show (_ : Bool) = false; first | rfl | (simp [*]; done)) | with_reducible exact at8_le _ _ | with_reducible exact at8_ge _ _ | (simp only [hC, reduceCtorEq]; omega) | omega | with_reducible assumption | (with_reducible show (_ : Bool) = true; first | (simp [*]; done) | (simp only [hC, reduceCtorEq]; (repeat' (first | assumption | apply And.intro)); done))))
  refine AW.loopV [3] [0] (fun m xs o => ∃ k : Nat, xs = [.v (.int .i64 k)] ∧ o = [] ∧ m = l.length - k ∧ k ≤ l.length ∧ allTo (rgOk l) k = true) l.length [] trivial ⟨0, ?_, rfl, rfl, ?_, rfl⟩ ?_
  · rfl
  · omega
  rintro m xs o ⟨k, rfl, rfl, rfl, hk, hR⟩
  rcases k with _ | k
  · (repeat' (first | (with_reducible first | refine Z ?_ | refine Y ?_ | (refine hK _ _ ?_; clear hK K) | exact trivial | refine And.intro ?_ ?_) | (refine AW.i rfl (fun h => ?_) (fun h => ?_) <;> try simp only [hC, reduceCtorEq] at h) | with_reducible rfl | with_reducible refine E ?_ | refine eF rfl ?_ | (with_reducible refine fun (K : _ → _ → Prop) hK => ?_) | (with_reducible show drawOK _ _ = true; kernel_rfl) | (with_reducible refine gI fun hg => ?_; try simp only [hC, reduceCtorEq] at hg; try simp only [hg]) | simp (maxSteps := 2000000) (disch := omega) only [go_sem] | (with_reducible intro hg; try simp only [hC, reduceCtorEq] at hg) | (with_reducible show List.Nodup _; decide) | (with_reducible show (_ : Bool) = false; first | rfl | (simp [*]; done)) | with_reducible exact at8_le _ _ | with_reducible exact at8_ge _ _ | (simp only [hC, reduceCtorEq]; omega) | omega | with_reducible assumption | (with_reducible show (_ : Bool) = true; first | (simp [*]; done) | (simp only [hC, reduceCtorEq]; (repeat' (first | assumption | apply And.intro)); done))))
    · rw [areRanges_no (by assumption) (Bool.eq_false_iff.2 fun hc => by have := (rg0 l).1 hc; omega)]
    · exact ⟨_, [_], [], by omega, ⟨0 + 1, rfl, rfl, rfl, by omega, allTo_step hR ((rg0 l).2 (by omega))⟩, rfl, trivial⟩
    · rw [areRanges_end hR (by omega)]
  · have hh := rgOk_hi (allTo_get hR (Nat.lt_succ_self k))
    (repeat' (first | (with_reducible first | refine Z ?_ | refine Y ?_ | (refine hK _ _ ?_; clear hK K) | exact trivial | refine And.intro ?_ ?_) | (refine AW.i rfl (fun h => ?_) (fun h => ?_) <;> try simp only [hC, reduceCtorEq] at h) | with_reducible rfl | with_reducible refine E ?_ | refine eF rfl ?_ | (with_reducible refine fun (K : _ → _ → Prop) hK => ?_) | (with_reducible show drawOK _ _ = true; kernel_rfl) | (with_reducible refine gI fun hg => ?_; try simp only [hC, reduceCtorEq] at hg; try simp only [hg]) | simp (maxSteps := 2000000) (disch := omega) only [go_sem] | (with_reducible intro hg; try simp only [hC, reduceCtorEq] at hg) | (with_reducible show List.Nodup _; decide) | (with_reducible show (_ : Bool) = false; first | rfl | (simp [*]; done)) | with_reducible exact at8_le _ _ | with_reducible exact at8_ge _ _ | (simp only [hC, reduceCtorEq]; omega) | omega | with_reducible assumption | (with_reducible show (_ : Bool) = true; first | (simp [*]; done) | (simp only [hC, reduceCtorEq]; (repeat' (first | assumption | apply And.intro)); done))))
    · rw [areRanges_no (by assumption) (Bool.eq_false_iff.2 fun hc => by have := (rgS l k).1 hc; omega)]
    · exact ⟨_, [_], [], by omega, ⟨k + 1 + 1, rfl, rfl, rfl, by omega, allTo_step hR ((rgS l k).2 (by omega))⟩, rfl, trivial⟩
    · rw [areRanges_end hR (by omega)]
instance iAreRanges_i (L : Nat → Nat) [hL : Lok L] (l : List GRange) : Ctr L Try.prog 128 [] [.sl false 2 (l.map (encRange false))] (.v (.bool (areRanges l))) [] True := by
  refine Ctr.of_body en128 Try.func128 rfl rfl fun hp => (?_); rw [Try.ntmps128]
  refine AW.fact 0 fun hf => ?_
  simp (disch := omega) only [go_sem, Nat.reduceBEq] at hf
  have hf := Nat.le_trans hf (hL.le 2)
  (repeat' (first | (with_reducible first | refine Z ?_ | refine Y ?_ | (refine hK _ _ ?_; clear hK K) | exact trivial | refine And.intro ?_ ?_) | (refine AW.i rfl (fun h => ?_) (fun h => ?_) <;> try simp only [hC, reduceCtorEq] at h) | with_reducible rfl | with_reducible refine E ?_ | refine eF rfl ?_ | (with_reducible refine fun (K : _ → _ → Prop) hK => ?_) | (with_reducible show drawOK _ _ = true; kernel_rfl) | (with_reducible refine gI fun hg => ?_; try simp only [hC, reduceCtorEq] at hg; try simp only [hg]) | simp (maxSteps := 2000000) (disch := omega) only [go_sem] | (with_reducible intro hg; try simp only [hC, reduceCtorEq] at hg) | (with_reducible show List.Nodup _; decide) | (with_reducible show (_ : Bool) = false; first | rfl | (simp [*]; done)) | with_reducible exact at8_le _ _ | with_reducible exact at8_ge _ _ | (simp only [hC, reduceCtorEq]; omega) | omega | with_reducible assumption | (with_reducible show (_ : Bool) = true; first | (simp [*]; done) | (simp only [hC, reduceCtorEq]; (repeat' (first | assumption | apply And.intro)); done))))
  refine AW.loopV [7] [0, 5, 6] (fun m xs o => ∃ k : Nat, xs = [.v (.int .i64 k)] ∧ o = [] ∧ m = l.length - k ∧ k ≤ l.length ∧ allTo (rgOk l) k = true) l.length [] trivial ⟨0, ?_, rfl, rfl, ?_, rfl⟩ ?_
  · rfl
  · omega
  rintro m xs o ⟨k, rfl, rfl, rfl, hk, hR⟩
  rcases k with _ | k
  · (repeat' (first | (with_reducible first | refine Z ?_ | refine Y ?_ | (refine hK _ _ ?_; clear hK K) | exact trivial | refine And.intro ?_ ?_) | (refine AW.i rfl (fun h => ?_) (fun h => ?_) <;> try simp only [hC, reduceCtorEq] at h) | with_reducible rfl | with_reducible refine E ?_ | refine eF rfl ?_ | (with_reducible refine fun (K : _ → _ → Prop) hK => ?_) | (with_reducible show drawOK _ _ = true; kernel_rfl) | (with_reducible refine gI fun hg => ?_; try simp only [hC, reduceCtorEq] at hg; try simp only [hg]) | simp (maxSteps := 2000000) (disch := omega) only [go_sem] | (with_reducible intro hg; try simp only [hC, reduceCtorEq] at hg) | (with_reducible show List.Nodup _; decide) | (with_reducible show (_ : Bool) = false; first | rfl | (simp [*]; done)) | with_reducible exact at8_le _ _ | with_reducible exact at8_ge _ _ | (simp only [hC, reduceCtorEq]; omega) | omega | with_reducible assumption | (with_reducible show (_ : Bool) = true; first | (simp [*]; done) | (simp only [hC, reduceCtorEq]; (repeat' (first | assumption | apply And.intro)); done))))
    · rw [areRanges_no (by assumption) (Bool.eq_false_iff.2 fun hc => by have := (rg0 l).1 hc; omega)]
    · exact ⟨_, [_], [], by omega, ⟨0 + 1, rfl, rfl, rfl, by omega, allTo_step hR ((rg0 l).2 (by omega))⟩, rfl, trivial⟩
    · rw [areRanges_end hR (by omega)]
  · have hh := rgOk_hi (allTo_get hR (Nat.lt_succ_self k))
    (repeat' (first | (with_reducible first | refine Z ?_ | refine Y ?_ | (refine hK _ _ ?_; clear hK K) | exact trivial | refine And.intro ?_ ?_) | (refine AW.i rfl (fun h => ?_) (fun h => ?_) <;> try simp only [hC, reduceCtorEq] at h) | with_reducible rfl | with_reducible refine E ?_ | refine eF rfl ?_ | (with_reducible refine fun (K : _ → _ → Prop) hK => ?_) | (with_reducible show drawOK _ _ = true; kernel_rfl) | (with_reducible refine gI fun hg => ?_; try simp only [hC, reduceCtorEq] at hg; try simp only [hg]) | simp (maxSteps := 2000000) (disch := omega) only [go_sem] | (with_reducible intro hg; try simp only [hC, reduceCtorEq] at hg) | (with_reducible show List.Nodup _; decide) | (with_reducible show (_ : Bool) = false; first | rfl | (simp [*]; done)) | with_reducible exact at8_le _ _ | with_reducible exact at8_ge _ _ | (simp only [hC, reduceCtorEq]; omega) | omega | with_reducible assumption | (with_reducible show (_ : Bool) = true; first | (simp [*]; done) | (simp only [hC, reduceCtorEq]; (repeat' (first | assumption | apply And.intro)); done))))
    · rw [areRanges_no (by assumption) (Bool.eq_false_iff.2 fun hc => by have := (rgS l k).1 hc; omega)]
    · exact ⟨_, [_], [], by omega, ⟨k + 1 + 1, rfl, rfl, rfl, by omega, allTo_step hR ((rgS l k).2 (by omega))⟩, rfl, trivial⟩
    · rw [areRanges_end hR (by omega)]
end Go.Proofs.Ytkdchlggdcmkbaa
namespace Go.Proofs.Ytkdchlggdcmkbaa
open Go.Ab Go.Dt
set_option maxRecDepth 20000
set_option maxHeartbeats 1000000

instance ixStr_i (L : Nat → Nat) [hL : Lok L] (l : List Str) (n : Str) : Ctr L Try.prog 157 [] [.sl false 1 (l.map AV.str), .str n] (.v (.int .i64 (idx (fun x => x == n) l))) [] True := by
  refine Ctr.of_body en157 Try.func157 rfl rfl fun hp => (?_); rw [Try.ntmps157]
  refine AW.fact 0 fun hf => ?_
  simp (disch := omega) only [go_sem, Nat.reduceBEq] at hf
  have hf := Nat.le_trans hf (hL.le 1)
  (repeat' (first | (with_reducible first | refine Z ?_ | refine Y ?_ | (refine hK _ _ ?_; clear hK K) | exact trivial | refine And.intro ?_ ?_) | (refine AW.i rfl (fun h => ?_) (fun h => ?_) <;> try simp only [hC, reduceCtorEq] at h) | with_reducible rfl | with_reducible refine E ?_ | refine eF rfl ?_ | (with_reducible refine fun (K : _ → _ → Prop) hK => ?_) | (with_reducible show drawOK _ _ = true; kernel_rfl) | (with_reducible refine gI fun hg => ?_; try simp only [hC, reduceCtorEq] at hg; try simp only [hg]) | simp (maxSteps := 2000000) (disch := omega) only [go_sem] | (with_reducible intro hg; try simp only [hC, reduceCtorEq] at hg) | (with_reducible show List.Nodup _; decide) | (with_reducible show (_ : Bool) = false; first | rfl | (simp [*]; done)) | with_reducible exact at8_le _ _ | with_reducible exact at8_ge _ _ | (simp only [hC, reduceCtorEq]; omega) | omega | with_reducible assumption | (with_reducible show (_ : Bool) = true; first | (simp [*]; done) | (simp only [hC, reduceCtorEq]; (repeat' (first | assumption | apply And.intro)); done))))
  refine AW.loopV [8] [0, 1, 6, 7] (fun m xs o => ∃ k : Nat, xs = [.v (.int .i64 k)] ∧ o = [] ∧ m = l.length - k ∧ k ≤ l.length ∧ ∀ x ∈ l.take k, (fun x : Str => x == n) x = false) l.length [] trivial ⟨0, ?_, rfl, rfl, ?_, ?_⟩ ?_
  · rfl
  · omega
  · simp
  rintro m xs o ⟨k, rfl, rfl, rfl, hk, hR⟩
  (repeat' (first | (with_reducible first | refine Z ?_ | refine Y ?_ | (refine hK _ _ ?_; clear hK K) | exact trivial | refine And.intro ?_ ?_) | (refine AW.i rfl (fun h => ?_) (fun h => ?_) <;> try simp only [hC, reduceCtorEq] at h) | with_reducible rfl | with_reducible refine E ?_ | refine eF rfl ?_ | (with_reducible refine fun (K : _ → _ → Prop) hK => ?_) | (with_reducible show drawOK _ _ = true; kernel_rfl) | (with_reducible refine gI fun hg => ?_; try simp only [hC, reduceCtorEq] at hg; try simp only [hg]) | simp (maxSteps := 2000000) (disch := omega) only [go_sem] | (with_reducible intro hg; try simp only [hC, reduceCtorEq] at hg) | (with_reducible show List.Nodup _; decide) | (with_reducible show (_ : Bool) = false; first | rfl | (simp [*]; done)) | with_reducible exact at8_le _ _ | with_reducible exact at8_ge _ _ | (simp only [hC, reduceCtorEq]; omega) | omega | with_reducible assumption | (with_reducible show (_ : Bool) = true; first | (simp [*]; done) | (simp only [hC, reduceCtorEq]; (repeat' (first | assumption | apply And.intro)); done))))
  · rw [idx_at' (by assumption) hR (by simpa using eq_comm.1 h)]
  · exact ⟨_, [_], [], by omega, ⟨k + 1, rfl, rfl, rfl, by omega, take_step' (by assumption) hR (by simpa using fun e => h (Eq.symm e))⟩, rfl, trivial⟩
  · rw [idx_end h hR]
instance sl28Param_i (L : Nat → Nat) [hL : Lok L] (l : List GParam) (n : Str) : Ctr L Try.prog 82 [] [.sl false 6 (l.map (encParam false)), .str n] (.v (.int .i64 (prmI l n))) [] True := by
  refine Ctr.of_body en82 Try.func82 rfl rfl fun hp => (?_); rw [Try.ntmps82]
  refine AW.fact 0 fun hf => ?_
  simp (disch := omega) only [go_sem, Nat.reduceBEq] at hf
  have hf := Nat.le_trans hf (hL.le 6)
  (repeat' (first | (with_reducible first | refine Z ?_ | refine Y ?_ | (refine hK _ _ ?_; clear hK K) | exact trivial | refine And.intro ?_ ?_) | (refine AW.i rfl (fun h => ?_) (fun h => ?_) <;> try simp only [hC, reduceCtorEq] at h) | with_reducible rfl | with_reducible refine E ?_ | refine eF rfl ?_ | (with_reducible refine fun (K : _ → _ → Prop) hK => ?_) | (with_reducible show drawOK _ _ = true; kernel_rfl) | (with_reducible refine gI fun hg => ?_; try simp only [hC, reduceCtorEq] at hg; try simp only [hg]) | simp (maxSteps := 2000000) (disch := omega) only [go_sem] | (with_reducible intro hg; try simp only [hC, reduceCtorEq] at hg) | (with_reducible show List.Nodup _; decide) | (with_reducible show (_ : Bool) = false; first | rfl | (simp [*]; done)) | with_reducible exact at8_le _ _ | with_reducible exact at8_ge _ _ | (simp only [hC, reduceCtorEq]; omega) | omega | with_reducible assumption | (with_reducible show (_ : Bool) = true; first | (simp [*]; done) | (simp only [hC, reduceCtorEq]; (repeat' (first | assumption | apply And.intro)); done))))
  refine AW.loopV [5] [0, 1] (fun m xs o => ∃ k : Nat, xs = [.v (.int .i64 k)] ∧ o = [] ∧ m = l.length - k ∧ k ≤ l.length ∧ ∀ x ∈ l.take k, (fun x : GParam => x.fName == n) x = false) l.length [] trivial ⟨0, ?_, rfl, rfl, ?_, ?_⟩ ?_
  · rfl
  · omega
  · simp
  rintro m xs o ⟨k, rfl, rfl, rfl, hk, hR⟩
  (repeat' (first | (with_reducible first | refine Z ?_ | refine Y ?_ | (refine hK _ _ ?_; clear hK K) | exact trivial | refine And.intro ?_ ?_) | (refine AW.i rfl (fun h => ?_) (fun h => ?_) <;> try simp only [hC, reduceCtorEq] at h) | with_reducible rfl | with_reducible refine E ?_ | refine eF rfl ?_ | (with_reducible refine fun (K : _ → _ → Prop) hK => ?_) | (with_reducible show drawOK _ _ = true; kernel_rfl) | (with_reducible refine gI fun hg => ?_; try simp only [hC, reduceCtorEq] at hg; try simp only [hg]) | simp (maxSteps := 2000000) (disch := omega) only [go_sem] | (with_reducible intro hg; try simp only [hC, reduceCtorEq] at hg) | (with_reducible show List.Nodup _; decide) | (with_reducible show (_ : Bool) = false; first | rfl | (simp [*]; done)) | with_reducible exact at8_le _ _ | with_reducible exact at8_ge _ _ | (simp only [hC, reduceCtorEq]; omega) | omega | with_reducible assumption | (with_reducible show (_ : Bool) = true; first | (simp [*]; done) | (simp only [hC, reduceCtorEq]; (repeat' (first | assumption | apply And.intro)); done))))
  · rw [prmI, idx_at' (by assumption) hR (by simpa using h)]
  · exact ⟨_, [_], [], by omega, ⟨k + 1, rfl, rfl, rfl, by omega, take_step' (by assumption) hR (by simpa using h)⟩, rfl, trivial⟩
  · rw [prmI, idx_end h hR]

instance contStr_i (L : Nat → Nat) [hL : Lok L] (l : List Str) (n : Str) : Ctr L Try.prog 132 [] [.sl false 1 (l.map AV.str), .str n] (.v (.bool (cont l n))) [] True := by
  refine Ctr.of_body en132 Try.func132 rfl rfl fun hp => (?_); rw [Try.ntmps132]
  (repeat' (first | (with_reducible first | refine Z ?_ | refine Y ?_ | (refine hK _ _ ?_; clear hK K) | exact trivial | refine And.intro ?_ ?_) | (refine AW.i rfl (fun h => ?_) (fun h => ?_) <;> try simp only [hC, reduceCtorEq] at h) | with_reducible rfl | with_reducible refine E ?_ | refine eF rfl ?_ | (with_reducible refine fun (K : _ → _ → Prop) hK => ?_) | (with_reducible show drawOK _ _ = true; kernel_rfl) | (with_reducible refine gI fun hg => ?_; try simp only [hC, reduceCtorEq] at hg; try simp only [hg]) | simp (maxSteps := 2000000) (disch := omega) only [go_sem] | (with_reducible intro hg; try simp only [hC, reduceCtorEq] at hg) | (with_reducible show List.Nodup _; decide) | (with_reducible show (_ : Bool) = false; first | rfl | (simp [*]; done)) | with_reducible exact at8_le _ _ | with_reducible exact at8_ge _ _ | (simp only [hC, reduceCtorEq]; omega) | omega | with_reducible assumption | (with_reducible show (_ : Bool) = true; first | (simp [*]; done) | (simp only [hC, reduceCtorEq]; (repeat' (first | assumption | apply And.intro)); done))))
  rfl
instance differentTexts_i (L : Nat → Nat) [hL : Lok L] (l : List Str) : Ctr L Try.prog 89 [] [.sl false 1 (l.map AV.str)] (.v (.bool (diffs l))) [] True := by
  refine Ctr.of_body en89 Try.func89 rfl rfl fun hp => (?_); rw [Try.ntmps89]
  refine AW.fact 0 fun hf => ?_
  simp (disch := omega) only [go_sem, Nat.reduceBEq] at hf
  have hf := Nat.le_trans hf (hL.le 1)
  (repeat' (first | (with_reducible first | refine Z ?_ | refine Y ?_ | (refine hK _ _ ?_; clear hK K) | exact trivial | refine And.intro ?_ ?_) | (refine AW.i rfl (fun h => ?_) (fun h => ?_) <;> try simp only [hC, reduceCtorEq] at h) | with_reducible rfl | with_reducible refine E ?_ | refine eF rfl ?_ | (with_reducible refine fun (K : _ → _ → Prop) hK => ?_) | (with_reducible show drawOK _ _ = true; kernel_rfl) | (with_reducible refine gI fun hg => ?_; try simp only [hC, reduceCtorEq] at hg; try simp only [hg]) | simp (maxSteps := 2000000) (disch := omega) only [go_sem] | (with_reducible intro hg; try simp only [hC, reduceCtorEq] at hg) | (with_reducible show List.Nodup _; decide) | (with_reducible show (_ : Bool) = false; first | rfl | (simp [*]; done)) | with_reducible exact at8_le _ _ | with_reducible exact at8_ge _ _ | (simp only [hC, reduceCtorEq]; omega) | omega | with_reducible assumption | (with_reducible show (_ : Bool) = true; first | (simp [*]; done) | (simp only [hC, reduceCtorEq]; (repeat' (first | assumption | apply And.intro)); done))))
  refine AW.loopV [6] [0, 4, 5] (fun m xs o => ∃ k : Nat, xs = [.v (.int .i64 k)] ∧ o = [] ∧ m = l.length - k ∧ k ≤ l.length ∧ allTo (fun j => !cont (l.take j) (at_ l j)) k = true) l.length [] trivial ⟨0, ?_, rfl, rfl, ?_, rfl⟩ ?_
  · rfl
  · omega
  rintro m xs o ⟨k, rfl, rfl, rfl, hk, hR⟩
  (repeat' (first | (with_reducible first | refine Z ?_ | refine Y ?_ | (refine hK _ _ ?_; clear hK K) | exact trivial | refine And.intro ?_ ?_) | (refine AW.i rfl (fun h => ?_) (fun h => ?_) <;> try simp only [hC, reduceCtorEq] at h) | with_reducible rfl | with_reducible refine E ?_ | refine eF rfl ?_ | (with_reducible refine fun (K : _ → _ → Prop) hK => ?_) | (with_reducible show drawOK _ _ = true; kernel_rfl) | (with_reducible refine gI fun hg => ?_; try simp only [hC, reduceCtorEq] at hg; try simp only [hg]) | simp (maxSteps := 2000000) (disch := omega) only [go_sem, ← List.map_take, Int.toNat_zero, List.drop_zero] | (with_reducible intro hg; try simp only [hC, reduceCtorEq] at hg) | (with_reducible show List.Nodup _; decide) | (with_reducible show (_ : Bool) = false; first | rfl | (simp [*]; done)) | with_reducible exact at8_le _ _ | with_reducible exact at8_ge _ _ | (simp only [hC, reduceCtorEq]; omega) | omega | with_reducible assumption | (with_reducible show (_ : Bool) = true; first | (simp [*]; done) | (simp only [hC, reduceCtorEq]; (repeat' (first | assumption | apply And.intro)); done))))
  · rw [diffs, allTo_false (by assumption) (by simp [h])]
  · exact ⟨_, [_], [], by omega, ⟨k + 1, rfl, rfl, rfl, by omega, allTo_step hR (by simp [h])⟩, rfl, trivial⟩
  · rw [show k = l.length by omega] at hR
    rw [diffs, hR]
instance areNames_i (L : Nat → Nat) [hL : Lok L] (l : List Str) : Ctr L Try.prog 130 [] [.sl false 1 (l.map AV.str)] (.v (.bool (names l))) [] True := by
  refine Ctr.of_body en130 Try.func130 rfl rfl fun hp => (?_); rw [Try.ntmps130]
  refine AW.fact 0 fun hf => ?_
  simp (disch := omega) only [go_sem, Nat.reduceBEq] at hf
  have hf := Nat.le_trans hf (hL.le 1)
  (repeat' (first | (with_reducible first | refine Z ?_ | refine Y ?_ | (refine hK _ _ ?_; clear hK K) | exact trivial | refine And.intro ?_ ?_) | (refine AW.i rfl (fun h => ?_) (fun h => ?_) <;> try simp only [hC, reduceCtorEq] at h) | with_reducible rfl | with_reducible refine E ?_ | refine eF rfl ?_ | (with_reducible refine fun (K : _ → _ → Prop) hK => ?_) | (with_reducible show drawOK _ _ = true; kernel_rfl) | (with_reducible refine gI fun hg => ?_; try simp only [hC, reduceCtorEq] at hg; try simp only [hg]) | simp (maxSteps := 2000000) (disch := omega) only [go_sem] | (with_reducible intro hg; try simp only [hC, reduceCtorEq] at hg) | (with_reducible show List.Nodup _; decide) | (with_reducible show (_ : Bool) = false; first | rfl | (simp [*]; done)) | with_reducible exact at8_le _ _ | with_reducible exact at8_ge _ _ | (simp only [hC, reduceCtorEq]; omega) | omega | with_reducible assumption | (with_reducible show (_ : Bool) = true; first | (simp [*]; done) | (simp only [hC, reduceCtorEq]; (repeat' (first | assumption | apply And.intro)); done))))
  refine AW.loopV [7] [0, 5, 6] (fun m xs o => ∃ k : Nat, xs = [.v (.int .i64 k)] ∧ o = [] ∧ m = l.length - k ∧ k ≤ l.length ∧ allTo (fun j => isName (at_ l j)) k = true) l.length [] trivial ⟨0, ?_, rfl, rfl, ?_, rfl⟩ ?_
  · rfl
  · omega
  rintro m xs o ⟨k, rfl, rfl, rfl, hk, hR⟩
  (repeat' (first | (with_reducible first | refine Z ?_ | refine Y ?_ | (refine hK _ _ ?_; clear hK K) | exact trivial | refine And.intro ?_ ?_) | (refine AW.i rfl (fun h => ?_) (fun h => ?_) <;> try simp only [hC, reduceCtorEq] at h) | with_reducible rfl | with_reducible refine E ?_ | refine eF rfl ?_ | (with_reducible refine fun (K : _ → _ → Prop) hK => ?_) | (with_reducible show drawOK _ _ = true; kernel_rfl) | (with_reducible refine gI fun hg => ?_; try simp only [hC, reduceCtorEq] at hg; try simp only [hg]) | simp (maxSteps := 2000000) (disch := omega) only [go_sem] | (with_reducible intro hg; try simp only [hC, reduceCtorEq] at hg) | (with_reducible show List.Nodup _; decide) | (with_reducible show (_ : Bool) = false; first | rfl | (simp [*]; done)) | with_reducible exact at8_le _ _ | with_reducible exact at8_ge _ _ | (simp only [hC, reduceCtorEq]; omega) | omega | with_reducible assumption | (with_reducible show (_ : Bool) = true; first | (simp [*]; done) | (simp only [hC, reduceCtorEq]; (repeat' (first | assumption | apply And.intro)); done))))
  · rw [names, allTo_false (by assumption) (by simp [h])]
  · exact ⟨_, [_], [], by omega, ⟨k + 1, rfl, rfl, rfl, by omega, allTo_step hR (by simp [h])⟩, rfl, trivial⟩
  · rw [show k = l.length by omega] at hR
    rw [names, hR]
end Go.Proofs.Ytkdchlggdcmkbaa
