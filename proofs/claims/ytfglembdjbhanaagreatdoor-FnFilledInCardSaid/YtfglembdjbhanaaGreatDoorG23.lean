/-
  Part of a proof: Nm1, Fl1.
-/
import Derived.Test.YtfglembdjbhanaaGreatDoorG5
import Derived.Test.YtfglembdjbhanaaGreatDoorG6
import Derived.Test.YtfglembdjbhanaaGreatDoorG8
import Derived.Test.YtfglembdjbhanaaGreatDoorG12
set_option linter.unusedSimpArgs false
set_option linter.unusedVariables false
namespace Go.Proofs.YtfglembdjbhanaaGreatDoor
open Go.Ab Go.Dt
set_option maxRecDepth 20000

instance l1In_i (L : Nat → Nat) (x a b : Int) : Ctr L Tryz.prog 87 [] [.v (.int .i64 x), .v (.int .i64 a), .v (.int .i64 b)] (.v (.bool (decide (a ≤ x) && decide (x ≤ b)))) [] True := by
  refine Ctr.of_body en87 Tryz.func87 rfl rfl fun hp => (?_); rw [Tryz.ntmps87]
  all_goals exact uU

instance l3Letter_i (L : Nat → Nat) (n : Int) : Ctr L Tryz.prog 124 [] [.v (.int .u8 n)] (.v (.bool (ltI n))) [] (0 ≤ n ∧ n ≤ 255) := by
  refine Ctr.of_body en124 Tryz.func124 rfl rfl fun hp => (?_); rw [Tryz.ntmps124]
  (repeat' first | (with_reducible first | refine Z ?_ | refine Y ?_ | (refine hK _ _ ?_; clear hK K) | refine And.intro ?_ ?_ | exact Ct | intro (K : _ → _ → Prop) hK | (refine gI fun hg => ?_; try simp only [hC, reduceCtorEq] at hg; try simp only [hg])) | (refine AW.i rfl (fun h => ?_) (fun h => ?_) <;> try simp only [hC, reduceCtorEq] at h) | ((with_reducible refine E ?_; repeat refine Y ?_); refine eF rfl ?_) | simp (disch := omega) only [go_sem, ltI] | (with_reducible intro hg; try simp only [hC, reduceCtorEq] at hg) | exact Cl | fail)
instance l3Digit_i (L : Nat → Nat) (n : Int) : Ctr L Tryz.prog 125 [] [.v (.int .u8 n)] (.v (.bool (digI n))) [] (0 ≤ n ∧ n ≤ 255) := by
  refine Ctr.of_body en125 Tryz.func125 rfl rfl fun hp => (?_); rw [Tryz.ntmps125]
  (repeat' first | (with_reducible first | refine Z ?_ | refine Y ?_ | (refine hK _ _ ?_; clear hK K) | refine And.intro ?_ ?_ | exact Ct | intro (K : _ → _ → Prop) hK | (refine gI fun hg => ?_; try simp only [hC, reduceCtorEq] at hg; try simp only [hg])) | (refine AW.i rfl (fun h => ?_) (fun h => ?_) <;> try simp only [hC, reduceCtorEq] at h) | ((with_reducible refine E ?_; repeat refine Y ?_); refine eF rfl ?_) | simp (disch := omega) only [go_sem, digI] | (with_reducible intro hg; try simp only [hC, reduceCtorEq] at hg) | exact Cl | fail)

instance l28Name_i (L : Nat → Nat) (s : List UInt8) (k : Int) : Ctr L Tryz.prog 114 [] [.str s, .v (.int .i64 k)] (.v (.int .i64 (nameEnd s k.toNat))) [] (0 ≤ k ∧ k ≤ s.length) := by
  refine Ctr.of_body en114 Tryz.func114 rfl rfl fun hp => (?_); rw [Tryz.ntmps114]
  obtain ⟨k, rfl⟩ : ∃ k' : Nat, k = k' := ⟨k.toNat, by omega⟩
  refine AW.fact 0 fun hf => ?_
  simp only [go_sem, Nat.reduceBEq] at hf
  (refine vU ?_; with_reducible repeat' first | exact Le.l | refine Sw ?_ ?_ | intro h)
  · rw [nameEnd, if_neg]
    rcases h with h | h
    · simp; omega
    · simp [h]
  · refine AW.loopV [5] [0] (fun m xs o => ∃ j : Nat, xs = [.v (.int .i64 j)] ∧ o = [] ∧ m = s.length - j ∧ j ≤ s.length ∧ j + ((s.drop j).takeWhile nmU).length = nameEnd s k) (s.length - k) [] trivial ⟨k, rfl, rfl, rfl, ?_, ?_⟩ ?_
    · omega
    · rw [nameEnd, if_pos (by simp [h.2]; omega)]
    rintro m xs o ⟨j, rfl, rfl, rfl, hj, hR⟩
    (refine vU ?_; with_reducible repeat' first | exact Le.l | refine Sw ?_ ?_ | intro h)
    · rw [tw_yes h.1 (by simpa [nmI] using h.2)] at hR
      exact ⟨_, [_], [], by omega, ⟨j + 1, rfl, rfl, rfl, by omega, by omega⟩, rfl, trivial⟩
    · rw [tw_no (by simpa [nmI] using h)] at hR
      simp at hR; rw [hR]

instance sNamesIn_i (s : List UInt8) : Ctr lim Tryz.prog 92 [] [.str s] (.tup [.sl true 1 ((nmL (tk s)).map AV.str), .v (.bool (tk s).2)]) [] (s.length ≤ 1048576) := by
  refine Ctr.of_body en92 Tryz.func92 rfl rfl fun hp => (?_); rw [Tryz.ntmps92]
  (refine vU ?_; with_reducible repeat' first | exact Le.l | refine Sw ?_ ?_ | intro h)
  refine AW.loopV [4, 5] [0] (fun m xs o => ∃ (k : Nat) (d : List Tok), xs = [.sl true 1 ((rights d).map AV.str), .v (.int .i64 k)] ∧ o = [] ∧ m = s.length - k ∧ k ≤ s.length ∧ (rights d).length ≤ k ∧ tkAt s k d) s.length [] trivial ⟨0, [], ?_, rfl, rfl, ?_, ?_, tkAt_zero s⟩ ?_
  · rfl
  · omega
  · simp [rights]
  rintro m xs o ⟨k, d, rfl, rfl, rfl, hk, ha, hR⟩
  have he := nameEnd_le s (k + 1)
  (refine vU ?_; with_reducible repeat' first | exact Le.l | refine Sw ?_ ?_ | intro h)
  · exact ⟨_, [_, _], [], by omega, ⟨k + 1, d ++ [_], by simp [rights_append, rights], rfl, rfl, by omega, by simp [rights_append, rights]; omega, hR.next (tk_plain (by assumption) h)⟩, rfl, trivial⟩
  · exact ⟨_, [_, _], [], by omega, ⟨k + 1 + 1, d ++ [_], by simp [rights_append, rights], rfl, rfl, by omega, by simp [rights_append, rights]; omega, hR.next (tk_two h.1 (by assumption) h.2)⟩, rfl, trivial⟩
  · rw [hR.bad (tk_bad (by assumption) (by assumption) (by assumption) (nameEnd_no (by omega)))]; rfl
  · refine ⟨_, [_, _], [], ?_, ⟨nameEnd s (k + 1), d ++ [.inr ((s.take (nameEnd s (k + 1))).drop (k + 1))], rfl, rfl, rfl, by omega, by simp [rights_append, rights]; omega, hR.next (tk_name (by assumption) (by assumption) (by assumption) (by omega))⟩, ?_, trivial⟩
    · omega
    · rw [Nat.sub_add_cancel (by omega)]; simp [rights_append, rights]
  · rw [hR.fin h]; rfl

instance isLower_i (L : Nat → Nat) (n : Int) : Ctr L Tryz.prog 85 [] [.v (.int .u8 n)] (.v (.bool (ltI n))) [] True := by
  refine Ctr.of_body en85 Tryz.func85 rfl rfl fun hp => (?_); rw [Tryz.ntmps85]
  (repeat' first | (with_reducible first | refine Z ?_ | refine Y ?_ | (refine hK _ _ ?_; clear hK K) | refine And.intro ?_ ?_ | exact Ct | intro (K : _ → _ → Prop) hK | (refine gI fun hg => ?_; try simp only [hC, reduceCtorEq] at hg; try simp only [hg])) | (refine AW.i rfl (fun h => ?_) (fun h => ?_) <;> try simp only [hC, reduceCtorEq] at h) | ((with_reducible refine E ?_; repeat refine Y ?_); refine eF rfl ?_) | simp (disch := omega) only [go_sem, ltI] | (with_reducible intro hg; try simp only [hC, reduceCtorEq] at hg) | exact Cl | fail)
instance isDigit_i (L : Nat → Nat) (n : Int) : Ctr L Tryz.prog 113 [] [.v (.int .u8 n)] (.v (.bool (digI n))) [] True := by
  refine Ctr.of_body en113 Tryz.func113 rfl rfl fun hp => (?_); rw [Tryz.ntmps113]
  (repeat' first | (with_reducible first | refine Z ?_ | refine Y ?_ | (refine hK _ _ ?_; clear hK K) | refine And.intro ?_ ?_ | exact Ct | intro (K : _ → _ → Prop) hK | (refine gI fun hg => ?_; try simp only [hC, reduceCtorEq] at hg; try simp only [hg])) | (refine AW.i rfl (fun h => ?_) (fun h => ?_) <;> try simp only [hC, reduceCtorEq] at h) | ((with_reducible refine E ?_; repeat refine Y ?_); refine eF rfl ?_) | simp (disch := omega) only [go_sem, digI] | (with_reducible intro hg; try simp only [hC, reduceCtorEq] at hg) | exact Cl | fail)
instance isNameByte_i (L : Nat → Nat) (n : Int) : Ctr L Tryz.prog 86 [] [.v (.int .u8 n)] (.v (.bool (nmI n))) [] True := by
  refine Ctr.of_body en86 Tryz.func86 rfl rfl fun hp => (?_); rw [Tryz.ntmps86]
  (repeat' first | (with_reducible first | refine Z ?_ | refine Y ?_ | (refine hK _ _ ?_; clear hK K) | refine And.intro ?_ ?_ | exact Ct | intro (K : _ → _ → Prop) hK | (refine gI fun hg => ?_; try simp only [hC, reduceCtorEq] at hg; try simp only [hg])) | (refine AW.i rfl (fun h => ?_) (fun h => ?_) <;> try simp only [hC, reduceCtorEq] at h) | ((with_reducible refine E ?_; repeat refine Y ?_); refine eF rfl ?_) | simp (disch := omega) only [go_sem, nmI] | (with_reducible intro hg; try simp only [hC, reduceCtorEq] at hg) | exact Cl | fail)
instance nNamesIn1_i (L : Nat → Nat) (n : Int) : Ctr L Tryz.prog 45 [] [.v (.int .u8 n)] (.tup []) [] True := by
  refine Ctr.of_body en45 Tryz.func45 rfl rfl fun hp => (?_); rw [Tryz.ntmps45]
  all_goals exact uU
instance nNamesIn2_i (b : Nat) (n : Str) (l : List Str) : Ctr lim Tryz.prog 46 [(b, some [.sl true 1 (l.map AV.str)])] [.str n, .ptr b 0] (.tup []) [some [.sl true 1 ((l ++ [n]).map AV.str)]] (l.length ≤ 1048576) := by
  refine Ctr.of_body en46 Tryz.func46 rfl rfl fun hp => (?_); rw [Tryz.ntmps46]
  (refine vU ?_; with_reducible repeat' first | exact Le.l | refine Sw ?_ ?_ | intro h)
  simp

instance dolN_i (b : Nat) (s : Str) : Ctr lim Tryz.prog 40 [(b, some [.sl true 1 []])] [.str s, .v (.func (.func 45) #[] #[]), .fn 46 [.ptr b 0]] (.v (.bool (tk s).2)) [some [.sl true 1 ((rights (tk s).1).map AV.str)]] (s.length ≤ 1048576) := by
  refine Ctr.of_body en40 Tryz.func40 rfl rfl fun hp => (?_); rw [Tryz.ntmps40]
  (refine vU ?_; with_reducible repeat' first | exact Le.l | refine Sw ?_ ?_ | intro h)
  refine AW.loopV [7] [0, 1, 2] (fun m xs o => ∃ (k : Nat) (d : List Tok), xs = [.v (.int .i64 k)] ∧ o = [(b, some [.sl true 1 ((rights d).map AV.str)])] ∧ m = s.length - k ∧ k ≤ s.length ∧ (rights d).length ≤ k ∧ tkAt s k d) s.length [(b, some [.sl true 1 []])] ⟨O_eq _ _ _, trivial⟩ ⟨0, [], ?_, rfl, rfl, ?_, ?_, tkAt_zero s⟩ ?_
  · rfl
  · omega
  · simp [rights]
  rintro m xs o ⟨k, d, rfl, rfl, rfl, hk, ha, hR⟩
  (refine vU ?_; with_reducible repeat' first | exact Le.l | refine Sw ?_ ?_ | intro h)
  · exact ⟨_, [_], _, by omega, ⟨k + 1, d ++ [_], rfl, rfl, rfl, by omega, by simp [rights_append, rights]; omega, hR.next (tk_plain (by assumption) h)⟩, rfl, subO_one (by simp [rights_append, rights])⟩
  · exact ⟨_, [_], _, by omega, ⟨k + 1 + 1, d ++ [_], rfl, rfl, rfl, by omega, by simp [rights_append, rights]; omega, hR.next (tk_two h.1 (by assumption) h.2)⟩, rfl, subO_one (by simp [rights_append, rights])⟩
  · have hne : nameEnd s (k + 1) = k + 1 + 1 + ((s.drop (k + 1 + 1)).takeWhile nmU).length := by rw [nameEnd, if_pos (by simp only [h.2, Bool.and_true, decide_eq_true_eq]; omega), tw_yes h.1 (nm_of_lt h.2)]; omega
    have hle := nameEnd_le s (k + 1) (by omega)
    refine AW.loopV [7] [0, 1, 2, 8] (fun m xs o => ∃ j : Nat, xs = [.v (.int .i64 j)] ∧ o = [(b, some [.sl true 1 ((rights d).map AV.str)])] ∧ m = s.length - j ∧ k + 1 ≤ j ∧ j ≤ s.length ∧ j + ((s.drop j).takeWhile nmU).length = nameEnd s (k + 1)) (s.length - (k + 1)) [(b, some [.sl true 1 ((rights d).map AV.str)])] ⟨O_eq _ _ _, trivial⟩ ⟨k + 1, ?_, rfl, rfl, ?_, ?_, ?_⟩ ?_
    · rfl
    · omega
    · omega
    · rw [tw_yes h.1 (nm_of_lt h.2)]; omega
    have h3 : nameEnd s (k + 1) ≠ k + 1 := by omega
    rintro m xs o ⟨j, rfl, rfl, rfl, hj0, hj, hQ⟩
    (refine vU ?_; with_reducible repeat' first | exact Le.l | refine Sw ?_ ?_ | intro h)
    · rw [tw_yes h.1 h.2] at hQ
      exact ⟨_, [_], _, by omega, ⟨j + 1, rfl, rfl, rfl, by omega, by omega, by omega⟩, rfl, subO_one rfl⟩
    · rw [tw_no h] at hQ
      have hj : j = nameEnd s (k + 1) := by simpa using hQ
      subst hj
      exact ⟨_, [_], _, by omega, ⟨_, d ++ [_], rfl, rfl, rfl, by omega, by simp [rights_append, rights]; omega, hR.next (tk_name (by assumption) (by assumption) (by assumption) h3)⟩, rfl, subO_one (by simp [rights_append, rights])⟩
  · rw [hR.bad (tk_bad (by assumption) (by assumption) (by assumption) h)]
  · rw [hR.bad (tk_bad (by assumption) (by assumption) (by assumption) h)]
  · rw [hR.fin h]
  · rw [hR.fin h]

instance iNamesIn_i (s : Str) : Ctr lim Tryz.prog 10 [] [.str s] (.tup [.sl true 1 ((nmL (tk s)).map AV.str), .v (.bool (tk s).2)]) [] (s.length ≤ 1048576) := by
  refine Ctr.of_body en10 Tryz.func10 rfl rfl fun hp => (?_); rw [Tryz.ntmps10]
  (refine vU ?_; with_reducible repeat' first | exact Le.l | refine Sw ?_ ?_ | intro h)
  all_goals simp [nmL, h]
end Go.Proofs.YtfglembdjbhanaaGreatDoor
namespace Go.Proofs.YtfglembdjbhanaaGreatDoor
open Go.Ab Go.Dt
set_option maxRecDepth 20000

end Go.Proofs.YtfglembdjbhanaaGreatDoor
