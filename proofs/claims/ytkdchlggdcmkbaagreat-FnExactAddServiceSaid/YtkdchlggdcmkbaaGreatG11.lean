/-
  Part of a proof: Nm1.
-/
import Derived.Test.YtkdchlggdcmkbaaGreatG6
import Derived.Test.YtkdchlggdcmkbaaGreatG9
import Derived.Test.YtkdchlggdcmkbaaGreatG10
set_option linter.unusedSimpArgs false
set_option linter.unusedVariables false
namespace Go.Proofs.YtkdchlggdcmkbaaGreat
open Go.Ab Go.Dt
set_option maxRecDepth 20000

instance l1In_i (L : Nat → Nat) (x a b : Int) : Ctr L Tryz.prog 146 [] [.v (.int .i64 x), .v (.int .i64 a), .v (.int .i64 b)] (.v (.bool (decide (a ≤ x) && decide (x ≤ b)))) [] True := by
  refine Ctr.of_body en146 Tryz.func146 rfl rfl fun hp => (?_); rw [Tryz.ntmps146]
  all_goals exact uU

instance l3Letter_i (L : Nat → Nat) (n : Int) : Ctr L Tryz.prog 203 [] [.v (.int .u8 n)] (.v (.bool (ltI n))) [] (0 ≤ n ∧ n ≤ 255) := by
  refine Ctr.of_body en203 Tryz.func203 rfl rfl fun hp => (?_); rw [Tryz.ntmps203]
  (repeat' first | (with_reducible first | refine Z ?_ | refine Y ?_ | (refine hK _ _ ?_; clear hK K) | refine And.intro ?_ ?_ | exact Ct | intro (K : _ → _ → Prop) hK | (refine gI fun hg => ?_; try simp only [hC, reduceCtorEq] at hg; try simp only [hg])) | (refine AW.i rfl (fun h => ?_) (fun h => ?_) <;> try simp only [hC, reduceCtorEq] at h) | ((with_reducible refine E ?_; repeat refine Y ?_); refine eF rfl ?_) | simp (disch := omega) only [go_sem, ltI] | (with_reducible intro hg; try simp only [hC, reduceCtorEq] at hg) | exact Cl | fail)
instance l3Digit_i (L : Nat → Nat) (n : Int) : Ctr L Tryz.prog 204 [] [.v (.int .u8 n)] (.v (.bool (digI n))) [] (0 ≤ n ∧ n ≤ 255) := by
  refine Ctr.of_body en204 Tryz.func204 rfl rfl fun hp => (?_); rw [Tryz.ntmps204]
  (repeat' first | (with_reducible first | refine Z ?_ | refine Y ?_ | (refine hK _ _ ?_; clear hK K) | refine And.intro ?_ ?_ | exact Ct | intro (K : _ → _ → Prop) hK | (refine gI fun hg => ?_; try simp only [hC, reduceCtorEq] at hg; try simp only [hg])) | (refine AW.i rfl (fun h => ?_) (fun h => ?_) <;> try simp only [hC, reduceCtorEq] at h) | ((with_reducible refine E ?_; repeat refine Y ?_); refine eF rfl ?_) | simp (disch := omega) only [go_sem, digI] | (with_reducible intro hg; try simp only [hC, reduceCtorEq] at hg) | exact Cl | fail)

instance l28Name_i (L : Nat → Nat) (s : List UInt8) (k : Int) : Ctr L Tryz.prog 183 [] [.str s, .v (.int .i64 k)] (.v (.int .i64 (nameEnd s k.toNat))) [] (0 ≤ k ∧ k ≤ s.length) := by
  refine Ctr.of_body en183 Tryz.func183 rfl rfl fun hp => (?_); rw [Tryz.ntmps183]
  obtain ⟨k, rfl⟩ : ∃ k' : Nat, k = k' := ⟨k.toNat, by omega⟩
  refine AW.fact 0 fun hf => ?_
  simp only [go_sem, Nat.reduceBEq] at hf
  (repeat' first | (with_reducible first | refine Z ?_ | refine Y ?_ | (refine hK _ _ ?_; clear hK K) | refine And.intro ?_ ?_ | exact Ct | intro (K : _ → _ → Prop) hK | (refine gI fun hg => ?_; try simp only [hC, reduceCtorEq] at hg; try simp only [hg])) | (refine AW.i rfl (fun h => ?_) (fun h => ?_) <;> try simp only [hC, reduceCtorEq] at h) | ((with_reducible refine E ?_; repeat refine Y ?_); refine eF rfl ?_) | simp (disch := omega) only [go_sem] | (with_reducible intro hg; try simp only [hC, reduceCtorEq] at hg) | exact Cl | fail)
  · rw [nameEnd, if_neg]
    rcases h with h | h
    · simp; omega
    · simp [h]
  · refine AW.loopV [5] [0] (fun m xs o => ∃ j : Nat, xs = [.v (.int .i64 j)] ∧ o = [] ∧ m = s.length - j ∧ j ≤ s.length ∧ j + ((s.drop j).takeWhile nmU).length = nameEnd s k) (s.length - k) [] trivial ⟨k, rfl, rfl, rfl, ?_, ?_⟩ ?_
    · omega
    · rw [nameEnd, if_pos (by simp [h.2]; omega)]
    rintro m xs o ⟨j, rfl, rfl, rfl, hj, hR⟩
    (repeat' first | (with_reducible first | refine Z ?_ | refine Y ?_ | (refine hK _ _ ?_; clear hK K) | refine And.intro ?_ ?_ | exact Ct | intro (K : _ → _ → Prop) hK | (refine gI fun hg => ?_; try simp only [hC, reduceCtorEq] at hg; try simp only [hg])) | (refine AW.i rfl (fun h => ?_) (fun h => ?_) <;> try simp only [hC, reduceCtorEq] at h) | ((with_reducible refine E ?_; repeat refine Y ?_); refine eF rfl ?_) | simp (disch := omega) only [go_sem] | (with_reducible intro hg; try simp only [hC, reduceCtorEq] at hg) | exact Cl | fail)
    · rw [tw_yes h.1 (by simpa [nmI] using h.2)] at hR
      exact ⟨_, [_], [], by omega, ⟨j + 1, rfl, rfl, rfl, by omega, by omega⟩, rfl, trivial⟩
    · rw [tw_no (by simpa [nmI] using h)] at hR
      simp at hR; rw [hR]

instance sNamesIn_i (s : List UInt8) : Ctr lim Tryz.prog 152 [] [.str s] (.tup [.sl true 1 ((nmL (tk s)).map AV.str), .v (.bool (tk s).2)]) [] (s.length ≤ 1048576) := by
  refine Ctr.of_body en152 Tryz.func152 rfl rfl fun hp => (?_); rw [Tryz.ntmps152]
  (repeat' first | (with_reducible first | refine Z ?_ | refine Y ?_ | (refine hK _ _ ?_; clear hK K) | refine And.intro ?_ ?_ | exact Ct | intro (K : _ → _ → Prop) hK | (refine gI fun hg => ?_; try simp only [hC, reduceCtorEq] at hg; try simp only [hg])) | (refine AW.i rfl (fun h => ?_) (fun h => ?_) <;> try simp only [hC, reduceCtorEq] at h) | ((with_reducible refine E ?_; repeat refine Y ?_); refine eF rfl ?_) | simp (disch := omega) only [go_sem] | (with_reducible intro hg; try simp only [hC, reduceCtorEq] at hg) | exact Cl | fail)
  refine AW.loopV [4, 5] [0] (fun m xs o => ∃ (k : Nat) (d : List Tok), xs = [.sl true 1 ((rights d).map AV.str), .v (.int .i64 k)] ∧ o = [] ∧ m = s.length - k ∧ k ≤ s.length ∧ (rights d).length ≤ k ∧ tkAt s k d) s.length [] trivial ⟨0, [], ?_, rfl, rfl, ?_, ?_, tkAt_zero s⟩ ?_
  · rfl
  · omega
  · simp [rights]
  rintro m xs o ⟨k, d, rfl, rfl, rfl, hk, ha, hR⟩
  have he := nameEnd_le s (k + 1)
  (repeat' first | (with_reducible first | refine Z ?_ | refine Y ?_ | (refine hK _ _ ?_; clear hK K) | refine And.intro ?_ ?_ | exact Ct | intro (K : _ → _ → Prop) hK | (refine gI fun hg => ?_; try simp only [hC, reduceCtorEq] at hg; try simp only [hg])) | (refine AW.i rfl (fun h => ?_) (fun h => ?_) <;> try simp only [hC, reduceCtorEq] at h) | ((with_reducible refine E ?_; repeat refine Y ?_); refine eF rfl ?_) | simp (disch := omega) only [go_sem] | (with_reducible intro hg; try simp only [hC, reduceCtorEq] at hg) | exact Cl | fail)
  · exact ⟨_, [_, _], [], by omega, ⟨k + 1, d ++ [_], by simp [rights_append, rights], rfl, rfl, by omega, by simp [rights_append, rights]; omega, hR.next (tk_plain (by assumption) h)⟩, rfl, trivial⟩
  · exact ⟨_, [_, _], [], by omega, ⟨k + 1 + 1, d ++ [_], by simp [rights_append, rights], rfl, rfl, by omega, by simp [rights_append, rights]; omega, hR.next (tk_two h.1 (by assumption) h.2)⟩, rfl, trivial⟩
  · rw [hR.bad (tk_bad (by assumption) (by assumption) (by assumption) (nameEnd_no (by omega)))]; rfl
  · refine ⟨_, [_, _], [], ?_, ⟨nameEnd s (k + 1), d ++ [.inr ((s.take (nameEnd s (k + 1))).drop (k + 1))], rfl, rfl, rfl, by omega, by simp [rights_append, rights]; omega, hR.next (tk_name (by assumption) (by assumption) (by assumption) (by omega))⟩, ?_, trivial⟩
    · omega
    · rw [Nat.sub_add_cancel (by omega)]; simp [rights_append, rights]
  · rw [hR.fin h]; rfl

instance isLower_i (L : Nat → Nat) (n : Int) : Ctr L Tryz.prog 102 [] [.v (.int .u8 n)] (.v (.bool (ltI n))) [] True := by
  refine Ctr.of_body en102 Tryz.func102 rfl rfl fun hp => (?_); rw [Tryz.ntmps102]
  (repeat' first | (with_reducible first | refine Z ?_ | refine Y ?_ | (refine hK _ _ ?_; clear hK K) | refine And.intro ?_ ?_ | exact Ct | intro (K : _ → _ → Prop) hK | (refine gI fun hg => ?_; try simp only [hC, reduceCtorEq] at hg; try simp only [hg])) | (refine AW.i rfl (fun h => ?_) (fun h => ?_) <;> try simp only [hC, reduceCtorEq] at h) | ((with_reducible refine E ?_; repeat refine Y ?_); refine eF rfl ?_) | simp (disch := omega) only [go_sem, ltI] | (with_reducible intro hg; try simp only [hC, reduceCtorEq] at hg) | exact Cl | fail)
instance isDigit_i (L : Nat → Nat) (n : Int) : Ctr L Tryz.prog 162 [] [.v (.int .u8 n)] (.v (.bool (digI n))) [] True := by
  refine Ctr.of_body en162 Tryz.func162 rfl rfl fun hp => (?_); rw [Tryz.ntmps162]
  (repeat' first | (with_reducible first | refine Z ?_ | refine Y ?_ | (refine hK _ _ ?_; clear hK K) | refine And.intro ?_ ?_ | exact Ct | intro (K : _ → _ → Prop) hK | (refine gI fun hg => ?_; try simp only [hC, reduceCtorEq] at hg; try simp only [hg])) | (refine AW.i rfl (fun h => ?_) (fun h => ?_) <;> try simp only [hC, reduceCtorEq] at h) | ((with_reducible refine E ?_; repeat refine Y ?_); refine eF rfl ?_) | simp (disch := omega) only [go_sem, digI] | (with_reducible intro hg; try simp only [hC, reduceCtorEq] at hg) | exact Cl | fail)
instance isNameByte_i (L : Nat → Nat) (n : Int) : Ctr L Tryz.prog 103 [] [.v (.int .u8 n)] (.v (.bool (nmI n))) [] True := by
  refine Ctr.of_body en103 Tryz.func103 rfl rfl fun hp => (?_); rw [Tryz.ntmps103]
  (repeat' first | (with_reducible first | refine Z ?_ | refine Y ?_ | (refine hK _ _ ?_; clear hK K) | refine And.intro ?_ ?_ | exact Ct | intro (K : _ → _ → Prop) hK | (refine gI fun hg => ?_; try simp only [hC, reduceCtorEq] at hg; try simp only [hg])) | (refine AW.i rfl (fun h => ?_) (fun h => ?_) <;> try simp only [hC, reduceCtorEq] at h) | ((with_reducible refine E ?_; repeat refine Y ?_); refine eF rfl ?_) | simp (disch := omega) only [go_sem, nmI] | (with_reducible intro hg; try simp only [hC, reduceCtorEq] at hg) | exact Cl | fail)
instance nNamesIn1_i (L : Nat → Nat) (n : Int) : Ctr L Tryz.prog 188 [] [.v (.int .u8 n)] (.tup []) [] True := by
  refine Ctr.of_body en188 Tryz.func188 rfl rfl fun hp => (?_); rw [Tryz.ntmps188]
  all_goals exact uU
instance nNamesIn2_i (b : Nat) (n : Str) (l : List Str) : Ctr lim Tryz.prog 189 [(b, some [.sl true 1 (l.map AV.str)])] [.str n, .ptr b 0] (.tup []) [some [.sl true 1 ((l ++ [n]).map AV.str)]] (l.length ≤ 1048576) := by
  refine Ctr.of_body en189 Tryz.func189 rfl rfl fun hp => (?_); rw [Tryz.ntmps189]
  (repeat' first | (with_reducible first | refine Z ?_ | refine Y ?_ | (refine hK _ _ ?_; clear hK K) | refine And.intro ?_ ?_ | exact Ct | intro (K : _ → _ → Prop) hK | (refine gI fun hg => ?_; try simp only [hC, reduceCtorEq] at hg; try simp only [hg])) | (refine AW.i rfl (fun h => ?_) (fun h => ?_) <;> try simp only [hC, reduceCtorEq] at h) | ((with_reducible refine E ?_; repeat refine Y ?_); refine eF rfl ?_) | simp (disch := omega) only [go_sem] | (with_reducible intro hg; try simp only [hC, reduceCtorEq] at hg) | exact Cl | fail)
  simp

instance dolN_i (b : Nat) (s : Str) : Ctr lim Tryz.prog 187 [(b, some [.sl true 1 []])] [.str s, .v (.func (.func 188) #[] #[]), .fn 189 [.ptr b 0]] (.v (.bool (tk s).2)) [some [.sl true 1 ((rights (tk s).1).map AV.str)]] (s.length ≤ 1048576) := by
  refine Ctr.of_body en187 Tryz.func187 rfl rfl fun hp => (?_); rw [Tryz.ntmps187]
  (repeat' first | (with_reducible first | refine Z ?_ | refine Y ?_ | (refine hK _ _ ?_; clear hK K) | refine And.intro ?_ ?_ | exact Ct | intro (K : _ → _ → Prop) hK | (refine gI fun hg => ?_; try simp only [hC, reduceCtorEq] at hg; try simp only [hg])) | (refine AW.i rfl (fun h => ?_) (fun h => ?_) <;> try simp only [hC, reduceCtorEq] at h) | ((with_reducible refine E ?_; repeat refine Y ?_); refine eF rfl ?_) | simp (disch := omega) only [go_sem] | (with_reducible intro hg; try simp only [hC, reduceCtorEq] at hg) | exact Cl | fail)
  refine AW.loopV [7] [0, 1, 2] (fun m xs o => ∃ (k : Nat) (d : List Tok), xs = [.v (.int .i64 k)] ∧ o = [(b, some [.sl true 1 ((rights d).map AV.str)])] ∧ m = s.length - k ∧ k ≤ s.length ∧ (rights d).length ≤ k ∧ tkAt s k d) s.length [(b, some [.sl true 1 []])] ⟨O_eq _ _ _, trivial⟩ ⟨0, [], ?_, rfl, rfl, ?_, ?_, tkAt_zero s⟩ ?_
  · rfl
  · omega
  · simp [rights]
  rintro m xs o ⟨k, d, rfl, rfl, rfl, hk, ha, hR⟩
  (repeat' first | (with_reducible first | refine Z ?_ | refine Y ?_ | (refine hK _ _ ?_; clear hK K) | refine And.intro ?_ ?_ | exact Ct | intro (K : _ → _ → Prop) hK | (refine gI fun hg => ?_; try simp only [hC, reduceCtorEq] at hg; try simp only [hg])) | (refine AW.i rfl (fun h => ?_) (fun h => ?_) <;> try simp only [hC, reduceCtorEq] at h) | ((with_reducible refine E ?_; repeat refine Y ?_); refine eF rfl ?_) | simp (disch := omega) only [go_sem] | (with_reducible intro hg; try simp only [hC, reduceCtorEq] at hg) | exact Cl | fail)
  · exact ⟨_, [_], _, by omega, ⟨k + 1, d ++ [_], rfl, rfl, rfl, by omega, by simp [rights_append, rights]; omega, hR.next (tk_plain (by assumption) h)⟩, rfl, subO_one (by simp [rights_append, rights])⟩
  · exact ⟨_, [_], _, by omega, ⟨k + 1 + 1, d ++ [_], rfl, rfl, rfl, by omega, by simp [rights_append, rights]; omega, hR.next (tk_two h.1 (by assumption) h.2)⟩, rfl, subO_one (by simp [rights_append, rights])⟩
  · have hne : nameEnd s (k + 1) = k + 1 + 1 + ((s.drop (k + 1 + 1)).takeWhile nmU).length := by rw [nameEnd, if_pos (by simp only [h.2, Bool.and_true, decide_eq_true_eq]; omega), tw_yes h.1 (nm_of_lt h.2)]; omega
    have hle := nameEnd_le s (k + 1) (by omega)
    refine AW.loopV [7] [0, 1, 2, 8] (fun m xs o => ∃ j : Nat, xs = [.v (.int .i64 j)] ∧ o = [(b, some [.sl true 1 ((rights d).map AV.str)])] ∧ m = s.length - j ∧ k + 1 ≤ j ∧ j ≤ s.length ∧ j + ((s.drop j).takeWhile nmU).length = nameEnd s (k + 1)) (s.length - (k + 1)) [(b, some [.sl true 1 ((rights d).map AV.str)])] ⟨O_eq _ _ _, trivial⟩ ⟨k + 1, ?_, rfl, rfl, ?_, ?_, ?_⟩ ?_
    · rfl
    · omega
    · omega
    · rw [tw_yes h.1 (nm_of_lt h.2)]; omega
    have h3 : nameEnd s (k + 1) ≠ k + 1 := by omega
    rintro m xs o ⟨j, rfl, rfl, rfl, hj0, hj, hQ⟩
    (repeat' first | (with_reducible first | refine Z ?_ | refine Y ?_ | (refine hK _ _ ?_; clear hK K) | refine And.intro ?_ ?_ | exact Ct | intro (K : _ → _ → Prop) hK | (refine gI fun hg => ?_; try simp only [hC, reduceCtorEq] at hg; try simp only [hg])) | (refine AW.i rfl (fun h => ?_) (fun h => ?_) <;> try simp only [hC, reduceCtorEq] at h) | ((with_reducible refine E ?_; repeat refine Y ?_); refine eF rfl ?_) | simp (disch := omega) only [go_sem] | (with_reducible intro hg; try simp only [hC, reduceCtorEq] at hg) | exact Cl | fail)
    · rw [tw_yes h.1 h.2] at hQ
      exact ⟨_, [_], _, by omega, ⟨j + 1, rfl, rfl, rfl, by omega, by omega, by omega⟩, rfl, subO_one rfl⟩
    · rw [tw_no h] at hQ
      have hj : j = nameEnd s (k + 1) := by simpa using hQ
      subst hj
      exact ⟨_, [_], _, by omega, ⟨_, d ++ [_], rfl, rfl, rfl, by omega, by simp [rights_append, rights]; omega, hR.next (tk_name (by assumption) (by assumption) (by assumption) h3)⟩, rfl, subO_one (by simp [rights_append, rights])⟩
  · rw [hR.bad (tk_bad (by assumption) (by assumption) (by assumption) h)]
  · rw [hR.bad (tk_bad (by assumption) (by assumption) (by assumption) h)]
  · rw [hR.fin h]
  · rw [hR.fin h]

instance iNamesIn_i (s : Str) : Ctr lim Tryz.prog 160 [] [.str s] (.tup [.sl true 1 ((nmL (tk s)).map AV.str), .v (.bool (tk s).2)]) [] (s.length ≤ 1048576) := by
  refine Ctr.of_body en160 Tryz.func160 rfl rfl fun hp => (?_); rw [Tryz.ntmps160]
  (repeat' first | (with_reducible first | refine Z ?_ | refine Y ?_ | (refine hK _ _ ?_; clear hK K) | refine And.intro ?_ ?_ | exact Ct | intro (K : _ → _ → Prop) hK | (refine gI fun hg => ?_; try simp only [hC, reduceCtorEq] at hg; try simp only [hg])) | (refine AW.i rfl (fun h => ?_) (fun h => ?_) <;> try simp only [hC, reduceCtorEq] at h) | ((with_reducible refine E ?_; repeat refine Y ?_); refine eF rfl ?_) | simp (disch := omega) only [go_sem] | (with_reducible intro hg; try simp only [hC, reduceCtorEq] at hg) | exact Cl | fail)
  all_goals simp [nmL, h]
end Go.Proofs.YtkdchlggdcmkbaaGreat
