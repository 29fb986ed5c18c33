/-
  Part of a proof: FamA.
-/
import Derived.Test.YtmdbmmmlccipdaaGreatDoorG28
set_option linter.unusedSimpArgs false
set_option linter.unusedVariables false
namespace Go.Proofs.YtmdbmmmlccipdaaGreatDoor
open Go.Ab Go.Dt
set_option maxRecDepth 20000
set_option maxHeartbeats 4000000
instance eqTest_i (L : Nat → Nat) [hL : Lok L] (x : GTest) : Ctr L Tryz.prog 331 [] [.agg [.str x.fName, .str x.fValue], .agg [.str x.fName, .str x.fValue]] (.v (.bool true)) [] True := by
  refine Ctr.of_body en331 Tryz.func331 rfl rfl fun hp => (?_); rw [Tryz.ntmps331]
  all_goals exact uU
instance eqTestS_i (L : Nat → Nat) [hL : Lok L] (l : List GTest) : Ctr L Tryz.prog 316 [] [.sl false 2 (l.map (encTest false)), .sl false 2 (l.map (encTest false))] (.v (.bool true)) [] True := by
  refine Ctr.of_body en316 Tryz.func316 rfl rfl fun hp => (?_); rw [Tryz.ntmps316]
  refine AW.fact 0 fun hf => ?_
  simp (disch := omega) only [go_sem, Nat.reduceBEq] at hf
  have hf := Nat.le_trans hf (hL.le 2)
  (refine vU ?_; with_reducible repeat' first | exact Le.l | refine Sw ?_ ?_ | intro h)
  refine AW.loopV [5] [0, 1] (fun m xs o => ∃ k : Nat, xs = [.v (.int .i64 k)] ∧ o = [] ∧ m = l.length - k ∧ k ≤ l.length) l.length [] trivial ⟨0, ?_, rfl, rfl, ?_⟩ ?_
  · rfl
  · omega
  rintro m xs o ⟨k, rfl, rfl, rfl, hk⟩
  (refine vU ?_; with_reducible repeat' first | exact Le.l | refine Sw ?_ ?_ | intro h)
  exact ⟨_, [_], [], by omega, ⟨k + 1, rfl, rfl, rfl, by omega⟩, rfl, trivial⟩
instance szTest_i (L : Nat → Nat) [hL : Lok L] (x : GTest) (r : Int) : Ctr L Tryz.prog 329 [] [.agg [.str x.fName, .str x.fValue], .v (.int .i64 r)] (.v (.int .i64 (szTest x r))) [] (0 ≤ r ∧ r ≤ 1048576) := by
  refine Ctr.of_body en329 Tryz.func329 rfl rfl fun hp => (?_); rw [Tryz.ntmps329]
  refine AW.fact 0 fun hf => ?_
  simp (disch := omega) only [go_sem, Nat.reduceBEq] at hf
  unfold szTest
  ((refine vU ?_; with_reducible repeat' first | exact Le.l | refine Sw ?_ ?_ | intro h); all_goals simp only [thn, szStr, id]; all_goals refine congrArg (fun z => AV.v (.int .i64 z)) ?_; all_goals (repeat' split); all_goals omega)
instance szTestS_i (L : Nat → Nat) [hL : Lok L] (l : List GTest) (r : Int) : Ctr L Tryz.prog 314 [] [.sl false 2 (l.map (encTest false)), .v (.int .i64 r)] (.v (.int .i64 (szSl szTest l r))) [] (0 ≤ r ∧ r ≤ 1048576) := by
  refine Ctr.of_body en314 Tryz.func314 rfl rfl fun hp => (?_); rw [Tryz.ntmps314]
  refine AW.fact 0 fun hf => ?_
  simp (disch := omega) only [go_sem, Nat.reduceBEq] at hf
  have hf := Nat.le_trans hf (hL.le 2)
  (refine vU ?_; with_reducible repeat' first | exact Le.l | refine Sw ?_ ?_ | intro h)
  · rw [szSl_neg h]
  rw [szSl_pos h]
  refine AW.loopV [1, 5] [0] (fun m xs o => ∃ (k : Nat) (q : Int), xs = [.v (.int .i64 q), .v (.int .i64 k)] ∧ o = [] ∧ m = l.length - k ∧ k ≤ l.length ∧ 0 ≤ q ∧ q ≤ 1048576 ∧ szGo szTest (l.drop k) q = szGo szTest l (r - l.length)) l.length [] trivial ⟨0, _, ?_, rfl, rfl, ?_, ?_, ?_, rfl⟩ ?_
  · rfl
  · omega
  · omega
  · omega
  rintro m xs o ⟨k, q, rfl, rfl, rfl, hk, h0, h1, hR⟩
  have hle := szTest_le (at_ l k) q h0
  (refine vU ?_; with_reducible repeat' first | exact Le.l | refine Sw ?_ ?_ | intro h)
  · rw [szGo_at (by assumption), if_pos (by first | exact h | (rw [hsz]; exact h))] at hR; rw [hR]
  · rw [szGo_at (by assumption), if_neg (by omega)] at hR
    exact ⟨_, [_, _], [], by omega, ⟨k + 1, _, rfl, rfl, rfl, by omega, by omega, by omega, hR⟩, rfl, trivial⟩
  · rw [szGo_end h] at hR; rw [hR]
instance toTest_i (x : GTest) : Ctr lim Tryz.prog 330 [] [.agg [.str x.fName, .str x.fValue]] (.agg [.str x.fName, .str x.fValue]) [] True := by
  refine Ctr.of_body en330 Tryz.func330 rfl rfl fun hp => (?_); rw [Tryz.ntmps330]
  all_goals exact uU
instance toTestS_i (l : List GTest) : Ctr lim Tryz.prog 315 [] [.sl false 2 (l.map (encTest false))] (.sl true 2 (l.map (encTest true))) [] True := by
  refine Ctr.of_body en315 Tryz.func315 rfl rfl fun hp => (?_); rw [Tryz.ntmps315]
  refine AW.fact 0 fun hf => ?_
  simp (disch := omega) only [go_sem, Nat.reduceBEq] at hf
  (refine vU ?_; with_reducible repeat' first | exact Le.l | refine Sw ?_ ?_ | intro h)
  refine AW.loopV [4] [0, 3] (fun m xs o => ∃ k : Nat, xs = [.v (.int .i64 k)] ∧ o = [(h, some (mkC (encTest true) [.string ⟨#[]⟩, .string ⟨#[]⟩] l k))] ∧ m = l.length - k ∧ k ≤ l.length) l.length [(h, some (mkC (encTest true) [.string ⟨#[]⟩, .string ⟨#[]⟩] l 0))] (subO_one (mkC_zero _ _ _)) ⟨0, ?_, rfl, rfl, ?_⟩ ?_
  · rfl
  · omega
  rintro m xs o ⟨k, rfl, rfl, rfl, hk⟩
  have hml := mkC_len (encTest true) [.string ⟨#[]⟩, .string ⟨#[]⟩] 2 (fun _ => rfl) rfl l k hk
  (refine vX ?_; with_reducible repeat' first | exact Le.l | refine Sw ?_ ?_ | intro h)
  · exact ⟨_, [_], _, by omega, ⟨k + 1, rfl, rfl, rfl, by omega⟩, rfl, subO_one (by have := mkC_at (encTest true) [.string ⟨#[]⟩, .string ⟨#[]⟩] 2 (fun _ => rfl) rfl l k h; simp only [go_sem, Nat.mul_one] at this ⊢; exact this.symm)⟩
  · refine AW.made 2 rfl h hk (fun _ => rfl) ?_
    all_goals exact uU
instance eqStep_i (L : Nat → Nat) [hL : Lok L] (x : Dt.GStep) : Ctr L Tryz.prog 288 [] [.agg [.str x.fName, .sl false 2 (x.fTests.map (encTest false))], .agg [.str x.fName, .sl false 2 (x.fTests.map (encTest false))]] (.v (.bool true)) [] True := by
  refine Ctr.of_body en288 Tryz.func288 rfl rfl fun hp => (?_); rw [Tryz.ntmps288]
  all_goals exact uU
instance eqStepS_i (L : Nat → Nat) [hL : Lok L] (l : List Dt.GStep) : Ctr L Tryz.prog 257 [] [.sl false 2 (l.map (encStep false)), .sl false 2 (l.map (encStep false))] (.v (.bool true)) [] True := by
  refine Ctr.of_body en257 Tryz.func257 rfl rfl fun hp => (?_); rw [Tryz.ntmps257]
  refine AW.fact 0 fun hf => ?_
  simp (disch := omega) only [go_sem, Nat.reduceBEq] at hf
  have hf := Nat.le_trans hf (hL.le 2)
  (refine vU ?_; with_reducible repeat' first | exact Le.l | refine Sw ?_ ?_ | intro h)
  refine AW.loopV [5] [0, 1] (fun m xs o => ∃ k : Nat, xs = [.v (.int .i64 k)] ∧ o = [] ∧ m = l.length - k ∧ k ≤ l.length) l.length [] trivial ⟨0, ?_, rfl, rfl, ?_⟩ ?_
  · rfl
  · omega
  rintro m xs o ⟨k, rfl, rfl, rfl, hk⟩
  (refine vU ?_; with_reducible repeat' first | exact Le.l | refine Sw ?_ ?_ | intro h)
  exact ⟨_, [_], [], by omega, ⟨k + 1, rfl, rfl, rfl, by omega⟩, rfl, trivial⟩
instance szStep_i (L : Nat → Nat) [hL : Lok L] (x : Dt.GStep) (r : Int) : Ctr L Tryz.prog 286 [] [.agg [.str x.fName, .sl false 2 (x.fTests.map (encTest false))], .v (.int .i64 r)] (.v (.int .i64 (szStep x r))) [] (0 ≤ r ∧ r ≤ 1048576) := by
  refine Ctr.of_body en286 Tryz.func286 rfl rfl fun hp => (?_); rw [Tryz.ntmps286]
  refine AW.fact 0 fun hf => ?_
  simp (disch := omega) only [go_sem, Nat.reduceBEq] at hf
  have le1 := szSl_le szTest szTest_le x.fTests (r - x.fName.length)
  unfold szStep
  ((refine vU ?_; with_reducible repeat' first | exact Le.l | refine Sw ?_ ?_ | intro h); all_goals simp only [thn, szStr, id]; all_goals refine congrArg (fun z => AV.v (.int .i64 z)) ?_; all_goals (repeat' split); all_goals omega)
instance szStepS_i (L : Nat → Nat) [hL : Lok L] (l : List Dt.GStep) (r : Int) : Ctr L Tryz.prog 255 [] [.sl false 2 (l.map (encStep false)), .v (.int .i64 r)] (.v (.int .i64 (szSl szStep l r))) [] (0 ≤ r ∧ r ≤ 1048576) := by
  refine Ctr.of_body en255 Tryz.func255 rfl rfl fun hp => (?_); rw [Tryz.ntmps255]
  refine AW.fact 0 fun hf => ?_
  simp (disch := omega) only [go_sem, Nat.reduceBEq] at hf
  have hf := Nat.le_trans hf (hL.le 2)
  (refine vU ?_; with_reducible repeat' first | exact Le.l | refine Sw ?_ ?_ | intro h)
  · rw [szSl_neg h]
  rw [szSl_pos h]
  refine AW.loopV [1, 5] [0] (fun m xs o => ∃ (k : Nat) (q : Int), xs = [.v (.int .i64 q), .v (.int .i64 k)] ∧ o = [] ∧ m = l.length - k ∧ k ≤ l.length ∧ 0 ≤ q ∧ q ≤ 1048576 ∧ szGo szStep (l.drop k) q = szGo szStep l (r - l.length)) l.length [] trivial ⟨0, _, ?_, rfl, rfl, ?_, ?_, ?_, rfl⟩ ?_
  · rfl
  · omega
  · omega
  · omega
  rintro m xs o ⟨k, q, rfl, rfl, rfl, hk, h0, h1, hR⟩
  have hle := szStep_le (at_ l k) q h0
  (refine vU ?_; with_reducible repeat' first | exact Le.l | refine Sw ?_ ?_ | intro h)
  · rw [szGo_at (by assumption), if_pos (by first | exact h | (rw [hsz]; exact h))] at hR; rw [hR]
  · rw [szGo_at (by assumption), if_neg (by omega)] at hR
    exact ⟨_, [_, _], [], by omega, ⟨k + 1, _, rfl, rfl, rfl, by omega, by omega, by omega, hR⟩, rfl, trivial⟩
  · rw [szGo_end h] at hR; rw [hR]
instance toStep_i (x : Dt.GStep) : Ctr lim Tryz.prog 287 [] [.agg [.str x.fName, .sl false 2 (x.fTests.map (encTest false))]] (.agg [.str x.fName, .sl true 2 (x.fTests.map (encTest true))]) [] True := by
  refine Ctr.of_body en287 Tryz.func287 rfl rfl fun hp => (?_); rw [Tryz.ntmps287]
  all_goals exact uU
instance toStepS_i (l : List Dt.GStep) : Ctr lim Tryz.prog 256 [] [.sl false 2 (l.map (encStep false))] (.sl true 2 (l.map (encStep true))) [] True := by
  refine Ctr.of_body en256 Tryz.func256 rfl rfl fun hp => (?_); rw [Tryz.ntmps256]
  refine AW.fact 0 fun hf => ?_
  simp (disch := omega) only [go_sem, Nat.reduceBEq] at hf
  (refine vU ?_; with_reducible repeat' first | exact Le.l | refine Sw ?_ ?_ | intro h)
  refine AW.loopV [4] [0, 3] (fun m xs o => ∃ k : Nat, xs = [.v (.int .i64 k)] ∧ o = [(h, some (mkC (encStep true) [.string ⟨#[]⟩, .slice none 0 0] l k))] ∧ m = l.length - k ∧ k ≤ l.length) l.length [(h, some (mkC (encStep true) [.string ⟨#[]⟩, .slice none 0 0] l 0))] (subO_one (mkC_zero _ _ _)) ⟨0, ?_, rfl, rfl, ?_⟩ ?_
  · rfl
  · omega
  rintro m xs o ⟨k, rfl, rfl, rfl, hk⟩
  have hml := mkC_len (encStep true) [.string ⟨#[]⟩, .slice none 0 0] 2 (fun _ => rfl) rfl l k hk
  (refine vX ?_; with_reducible repeat' first | exact Le.l | refine Sw ?_ ?_ | intro h)
  · exact ⟨_, [_], _, by omega, ⟨k + 1, rfl, rfl, rfl, by omega⟩, rfl, subO_one (by have := mkC_at (encStep true) [.string ⟨#[]⟩, .slice none 0 0] 2 (fun _ => rfl) rfl l k h; simp only [go_sem, Nat.mul_one] at this ⊢; exact this.symm)⟩
  · refine AW.made 2 rfl h hk (fun _ => rfl) ?_
    all_goals exact uU
instance eqPath_i (L : Nat → Nat) [hL : Lok L] (x : GPath) : Ctr L Tryz.prog 218 [] [.agg [.v (.bool x.fRoot), .v (.int .i64 x.fUps), .sl false 2 (x.fSteps.map (encStep false))], .agg [.v (.bool x.fRoot), .v (.int .i64 x.fUps), .sl false 2 (x.fSteps.map (encStep false))]] (.v (.bool true)) [] True := by
  refine Ctr.of_body en218 Tryz.func218 rfl rfl fun hp => (?_); rw [Tryz.ntmps218]
  all_goals exact uU
instance szPath_i (L : Nat → Nat) [hL : Lok L] (x : GPath) (r : Int) : Ctr L Tryz.prog 214 [] [.agg [.v (.bool x.fRoot), .v (.int .i64 x.fUps), .sl false 2 (x.fSteps.map (encStep false))], .v (.int .i64 r)] (.v (.int .i64 (szPath x r))) [] (0 ≤ r ∧ r ≤ 1048576) := by
  refine Ctr.of_body en214 Tryz.func214 rfl rfl fun hp => (?_); rw [Tryz.ntmps214]
  refine AW.fact 0 fun hf => ?_
  simp (disch := omega) only [go_sem, Nat.reduceBEq] at hf
  have le0 := szSl_le szStep szStep_le x.fSteps r
  unfold szPath
  ((refine vU ?_; with_reducible repeat' first | exact Le.l | refine Sw ?_ ?_ | intro h); all_goals simp only [thn, szStr, id]; all_goals refine congrArg (fun z => AV.v (.int .i64 z)) ?_; all_goals (repeat' split); all_goals omega)
instance toPath_i (x : GPath) : Ctr lim Tryz.prog 216 [] [.agg [.v (.bool x.fRoot), .v (.int .i64 x.fUps), .sl false 2 (x.fSteps.map (encStep false))]] (.agg [.v (.bool x.fRoot), .v (.int .i64 x.fUps), .sl true 2 (x.fSteps.map (encStep true))]) [] True := by
  refine Ctr.of_body en216 Tryz.func216 rfl rfl fun hp => (?_); rw [Tryz.ntmps216]
  all_goals exact uU
theorem GExpr.kids_lt {x : GExpr} {l : List GExpr} (h : x ∈ l) : SizeOf.sizeOf x.fKids < SizeOf.sizeOf l := by
  have := List.sizeOf_lt_of_mem h
  cases x; simp [GExpr.fKids] at *; omega
theorem eqExpr_n (L : Nat → Nat) [hL : Lok L] (n : Nat) (ih : ∀ l : List GExpr, Ctr L Tryz.prog 125 [] [.sl false 7 (l.map (encExpr false)), .sl false 7 (l.map (encExpr false))] (.v (.bool true)) [] (SizeOf.sizeOf l < n)) (x : GExpr) : Ctr L Tryz.prog 174 [] [.agg [.v (.int .i64 x.fOp), .v (.int .i64 x.fNum), .str x.fText, .v (.bool x.fPath.fRoot), .v (.int .i64 x.fPath.fUps), .sl false 2 (x.fPath.fSteps.map (encStep false)), .sl false 7 (x.fKids.map (encExpr false))], .agg [.v (.int .i64 x.fOp), .v (.int .i64 x.fNum), .str x.fText, .v (.bool x.fPath.fRoot), .v (.int .i64 x.fPath.fUps), .sl false 2 (x.fPath.fSteps.map (encStep false)), .sl false 7 (x.fKids.map (encExpr false))]] (.v (.bool true)) [] (SizeOf.sizeOf x.fKids < n) := by
  refine Ctr.of_body en174 Tryz.func174 rfl rfl fun hp => (?_); rw [Tryz.ntmps174]
  all_goals exact uU
theorem eqExprS_n (L : Nat → Nat) [hL : Lok L] : ∀ (n : Nat) (l : List GExpr), Ctr L Tryz.prog 125 [] [.sl false 7 (l.map (encExpr false)), .sl false 7 (l.map (encExpr false))] (.v (.bool true)) [] (SizeOf.sizeOf l < n)
  | 0, l => ⟨en125, fun h => absurd h (Nat.not_lt_zero _)⟩
  | n + 1, l => by
    have hx := eqExpr_n L n (eqExprS_n L n)
    refine Ctr.of_body en125 Tryz.func125 rfl rfl fun hp => (?_); rw [Tryz.ntmps125]
    refine AW.fact 0 fun hf => ?_
    simp (disch := omega) only [go_sem, Nat.reduceBEq] at hf
    have hf := Nat.le_trans hf (hL.le 7)
    (refine vU ?_; with_reducible repeat' first | exact Le.l | refine Sw ?_ ?_ | intro h)
    refine AW.loopV [5] [0, 1] (fun m xs o => ∃ k : Nat, xs = [.v (.int .i64 k)] ∧ o = [] ∧ m = l.length - k ∧ k ≤ l.length) l.length [] trivial ⟨0, ?_, rfl, rfl, ?_⟩ ?_
    · rfl
    · omega
    rintro m xs o ⟨k, rfl, rfl, rfl, hk⟩
    have hkk : k < l.length → SizeOf.sizeOf (at_ l k).fKids < n := fun h => by have := GExpr.kids_lt (at_mem h); omega
    (refine vU ?_; with_reducible repeat' first | exact Le.l | refine Sw ?_ ?_ | intro h)
    exact ⟨_, [_], [], by omega, ⟨k + 1, rfl, rfl, rfl, by omega⟩, rfl, trivial⟩
instance eqExprS_i (L : Nat → Nat) [hL : Lok L] (l : List GExpr) : Ctr L Tryz.prog 125 [] [.sl false 7 (l.map (encExpr false)), .sl false 7 (l.map (encExpr false))] (.v (.bool true)) [] True := ⟨en125, fun _ => (eqExprS_n L (SizeOf.sizeOf l + 1) l).out (Nat.lt_succ_self _)⟩
theorem szExpr_n (L : Nat → Nat) [hL : Lok L] (n : Nat) (ih : ∀ (l : List GExpr) (r : Int), Ctr L Tryz.prog 120 [] [.sl false 7 (l.map (encExpr false)), .v (.int .i64 r)] (.v (.int .i64 (szSl szExpr l r))) [] (SizeOf.sizeOf l < n ∧ 0 ≤ r ∧ r ≤ 1048576)) (x : GExpr) (r : Int) : Ctr L Tryz.prog 170 [] [.agg [.v (.int .i64 x.fOp), .v (.int .i64 x.fNum), .str x.fText, .v (.bool x.fPath.fRoot), .v (.int .i64 x.fPath.fUps), .sl false 2 (x.fPath.fSteps.map (encStep false)), .sl false 7 (x.fKids.map (encExpr false))], .v (.int .i64 r)] (.v (.int .i64 (szExpr x r))) [] (SizeOf.sizeOf x.fKids < n ∧ 0 ≤ r ∧ r ≤ 1048576) := by
  refine Ctr.of_body en170 Tryz.func170 rfl rfl fun hp => (?_); rw [Tryz.ntmps170]
  refine AW.fact 0 fun hf => ?_
  simp (disch := omega) only [go_sem, Nat.reduceBEq] at hf
  have le1 := szPath_le x.fPath (r - x.fText.length)
  have le2 := szSl_le szExpr szExpr_le x.fKids (szPath x.fPath (r - x.fText.length))
  rw [szExpr_eq]
  ((refine vU ?_; with_reducible repeat' first | exact Le.l | refine Sw ?_ ?_ | intro h); all_goals simp only [thn, szStr, id]; all_goals refine congrArg (fun z => AV.v (.int .i64 z)) ?_; all_goals (repeat' split); all_goals omega)
theorem szExprS_n (L : Nat → Nat) [hL : Lok L] : ∀ (n : Nat) (l : List GExpr) (r : Int), Ctr L Tryz.prog 120 [] [.sl false 7 (l.map (encExpr false)), .v (.int .i64 r)] (.v (.int .i64 (szSl szExpr l r))) [] (SizeOf.sizeOf l < n ∧ 0 ≤ r ∧ r ≤ 1048576)
  | 0, l, r => ⟨en120, fun h => absurd h.1 (Nat.not_lt_zero _)⟩
  | n + 1, l, r => by
    have hx := szExpr_n L n (szExprS_n L n)
    refine Ctr.of_body en120 Tryz.func120 rfl rfl fun hp => (?_); rw [Tryz.ntmps120]
    refine AW.fact 0 fun hf => ?_
    simp (disch := omega) only [go_sem, Nat.reduceBEq] at hf
    have hf := Nat.le_trans hf (hL.le 7)
    (refine vU ?_; with_reducible repeat' first | exact Le.l | refine Sw ?_ ?_ | intro h)
    · rw [szSl_neg h]
    rw [szSl_pos h]
    refine AW.loopV [1, 5] [0] (fun m xs o => ∃ (k : Nat) (q : Int), xs = [.v (.int .i64 q), .v (.int .i64 k)] ∧ o = [] ∧ m = l.length - k ∧ k ≤ l.length ∧ 0 ≤ q ∧ q ≤ 1048576 ∧ szGo szExpr (l.drop k) q = szGo szExpr l (r - l.length)) l.length [] trivial ⟨0, _, ?_, rfl, rfl, ?_, ?_, ?_, rfl⟩ ?_
    · rfl
    · omega
    · omega
    · omega
    rintro m xs o ⟨k, q, rfl, rfl, rfl, hk, h0, h1, hR⟩
    have hle := szExpr_le (at_ l k) q h0
    have hkk : k < l.length → SizeOf.sizeOf (at_ l k).fKids < n := fun h => by have := GExpr.kids_lt (at_mem h); omega
    (refine vU ?_; with_reducible repeat' first | exact Le.l | refine Sw ?_ ?_ | intro h)
    · rw [szGo_at (by assumption), if_pos (by first | exact h | (rw [hsz]; exact h))] at hR; rw [hR]
    · rw [szGo_at (by assumption), if_neg (by omega)] at hR
      exact ⟨_, [_, _], [], by omega, ⟨k + 1, _, rfl, rfl, rfl, by omega, by omega, by omega, hR⟩, rfl, trivial⟩
    · rw [szGo_end h] at hR; rw [hR]
instance szExprS_i (L : Nat → Nat) [hL : Lok L] (l : List GExpr) (r : Int) : Ctr L Tryz.prog 120 [] [.sl false 7 (l.map (encExpr false)), .v (.int .i64 r)] (.v (.int .i64 (szSl szExpr l r))) [] (0 ≤ r ∧ r ≤ 1048576) := ⟨en120, fun h => (szExprS_n L (SizeOf.sizeOf l + 1) l r).out ⟨Nat.lt_succ_self _, h⟩⟩
theorem toExpr_n (n : Nat) (ih : ∀ l : List GExpr, Ctr lim Tryz.prog 123 [] [.sl false 7 (l.map (encExpr false))] (.sl true 7 (l.map (encExpr true))) [] (SizeOf.sizeOf l < n)) (x : GExpr) : Ctr lim Tryz.prog 172 [] [.agg [.v (.int .i64 x.fOp), .v (.int .i64 x.fNum), .str x.fText, .v (.bool x.fPath.fRoot), .v (.int .i64 x.fPath.fUps), .sl false 2 (x.fPath.fSteps.map (encStep false)), .sl false 7 (x.fKids.map (encExpr false))]] (.agg [.v (.int .i64 x.fOp), .v (.int .i64 x.fNum), .str x.fText, .v (.bool x.fPath.fRoot), .v (.int .i64 x.fPath.fUps), .sl true 2 (x.fPath.fSteps.map (encStep true)), .sl true 7 (x.fKids.map (encExpr true))]) [] (SizeOf.sizeOf x.fKids < n) := by
  refine Ctr.of_body en172 Tryz.func172 rfl rfl fun hp => (?_); rw [Tryz.ntmps172]
  all_goals exact uU
theorem toExprS_n : ∀ (n : Nat) (l : List GExpr), Ctr lim Tryz.prog 123 [] [.sl false 7 (l.map (encExpr false))] (.sl true 7 (l.map (encExpr true))) [] (SizeOf.sizeOf l < n)
  | 0, l => ⟨en123, fun h => absurd h (Nat.not_lt_zero _)⟩
  | n + 1, l => by
    have hx := toExpr_n n (toExprS_n n)
    refine Ctr.of_body en123 Tryz.func123 rfl rfl fun hp => (?_); rw [Tryz.ntmps123]
    refine AW.fact 0 fun hf => ?_
    simp (disch := omega) only [go_sem, Nat.reduceBEq] at hf
    (refine vU ?_; with_reducible repeat' first | exact Le.l | refine Sw ?_ ?_ | intro h)
    refine AW.loopV [4] [0, 3] (fun m xs o => ∃ k : Nat, xs = [.v (.int .i64 k)] ∧ o = [(h, some (mkC (encExpr true) [.int .i64 0, .int .i64 0, .string ⟨#[]⟩, .bool false, .int .i64 0, .slice none 0 0, .slice none 0 0] l k))] ∧ m = l.length - k ∧ k ≤ l.length) l.length [(h, some (mkC (encExpr true) [.int .i64 0, .int .i64 0, .string ⟨#[]⟩, .bool false, .int .i64 0, .slice none 0 0, .slice none 0 0] l 0))] (subO_one (mkC_zero _ _ _)) ⟨0, ?_, rfl, rfl, ?_⟩ ?_
    · rfl
    · omega
    rintro m xs o ⟨k, rfl, rfl, rfl, hk⟩
    have hml := mkC_len (encExpr true) [.int .i64 0, .int .i64 0, .string ⟨#[]⟩, .bool false, .int .i64 0, .slice none 0 0, .slice none 0 0] 7 (fun x => by rw [encExpr_eq]; rfl) rfl l k hk
    have hkk : k < l.length → SizeOf.sizeOf (at_ l k).fKids < n := fun h => by have := GExpr.kids_lt (at_mem h); omega
    (refine vX ?_; with_reducible repeat' first | exact Le.l | refine Sw ?_ ?_ | intro h)
    · exact ⟨_, [_], _, by omega, ⟨k + 1, rfl, rfl, rfl, by omega⟩, rfl, subO_one (by have := mkC_at (encExpr true) [.int .i64 0, .int .i64 0, .string ⟨#[]⟩, .bool false, .int .i64 0, .slice none 0 0, .slice none 0 0] 7 (fun x => by rw [encExpr_eq]; rfl) rfl l k h; simp only [go_sem, Nat.mul_one] at this ⊢; exact this.symm)⟩
    · refine AW.made 2 rfl h hk (fun x => by rw [encExpr_eq]; rfl) ?_
      all_goals exact uU
instance toExprS_i (l : List GExpr) : Ctr lim Tryz.prog 123 [] [.sl false 7 (l.map (encExpr false))] (.sl true 7 (l.map (encExpr true))) [] True := ⟨en123, fun _ => (toExprS_n (SizeOf.sizeOf l + 1) l).out (Nat.lt_succ_self _)⟩
theorem GSchema.kids_lt {x : GSchema} {l : List GSchema} (h : x ∈ l) : SizeOf.sizeOf x.fKids < SizeOf.sizeOf l := by
  have := List.sizeOf_lt_of_mem h
  cases x; simp [GSchema.fKids] at *; omega
theorem eqSchema_n (L : Nat → Nat) [hL : Lok L] (n : Nat) (ih : ∀ l : List GSchema, Ctr L Tryz.prog 23 [] [.sl false 19 (l.map (encSchema false)), .sl false 19 (l.map (encSchema false))] (.v (.bool true)) [] (SizeOf.sizeOf l < n)) (x : GSchema) : Ctr L Tryz.prog 67 [] [.agg [.v (.int .i64 x.fKind), .str x.fName, .v (.int .i64 x.fType.fKind), .sl false 2 (x.fType.fRanges.map (encRange false)), .sl false 1 (x.fType.fNames.map AV.str), .str x.fType.fPattern, .str x.fType.fPath, .sl false 1 (x.fKeys.map AV.str), .sl false 1 (x.fUnique.map AV.str), .str x.fDefault, .v (.bool x.fGiven), .v (.bool x.fNeeded), .v (.bool x.fPresent), .v (.bool x.fFixed), .v (.int .i64 x.fMin), .v (.int .i64 x.fMax), .sl false 7 (x.fWhen.map (encExpr false)), .sl false 7 (x.fMust.map (encExpr false)), .sl false 19 (x.fKids.map (encSchema false))], .agg [.v (.int .i64 x.fKind), .str x.fName, .v (.int .i64 x.fType.fKind), .sl false 2 (x.fType.fRanges.map (encRange false)), .sl false 1 (x.fType.fNames.map AV.str), .str x.fType.fPattern, .str x.fType.fPath, .sl false 1 (x.fKeys.map AV.str), .sl false 1 (x.fUnique.map AV.str), .str x.fDefault, .v (.bool x.fGiven), .v (.bool x.fNeeded), .v (.bool x.fPresent), .v (.bool x.fFixed), .v (.int .i64 x.fMin), .v (.int .i64 x.fMax), .sl false 7 (x.fWhen.map (encExpr false)), .sl false 7 (x.fMust.map (encExpr false)), .sl false 19 (x.fKids.map (encSchema false))]] (.v (.bool true)) [] (SizeOf.sizeOf x.fKids < n) := by
  refine Ctr.of_body en67 Tryz.func67 rfl rfl fun hp => (?_); rw [Tryz.ntmps67]
  all_goals exact uU
theorem eqSchemaS_n (L : Nat → Nat) [hL : Lok L] : ∀ (n : Nat) (l : List GSchema), Ctr L Tryz.prog 23 [] [.sl false 19 (l.map (encSchema false)), .sl false 19 (l.map (encSchema false))] (.v (.bool true)) [] (SizeOf.sizeOf l < n)
  | 0, l => ⟨en23, fun h => absurd h (Nat.not_lt_zero _)⟩
  | n + 1, l => by
    have hx := eqSchema_n L n (eqSchemaS_n L n)
    refine Ctr.of_body en23 Tryz.func23 rfl rfl fun hp => (?_); rw [Tryz.ntmps23]
    refine AW.fact 0 fun hf => ?_
    simp (disch := omega) only [go_sem, Nat.reduceBEq] at hf
    have hf := Nat.le_trans hf (hL.le 19)
    (refine vU ?_; with_reducible repeat' first | exact Le.l | refine Sw ?_ ?_ | intro h)
    refine AW.loopV [5] [0, 1] (fun m xs o => ∃ k : Nat, xs = [.v (.int .i64 k)] ∧ o = [] ∧ m = l.length - k ∧ k ≤ l.length) l.length [] trivial ⟨0, ?_, rfl, rfl, ?_⟩ ?_
    · rfl
    · omega
    rintro m xs o ⟨k, rfl, rfl, rfl, hk⟩
    have hkk : k < l.length → SizeOf.sizeOf (at_ l k).fKids < n := fun h => by have := GSchema.kids_lt (at_mem h); omega
    (refine vU ?_; with_reducible repeat' first | exact Le.l | refine Sw ?_ ?_ | intro h)
    exact ⟨_, [_], [], by omega, ⟨k + 1, rfl, rfl, rfl, by omega⟩, rfl, trivial⟩
instance eqSchemaS_i (L : Nat → Nat) [hL : Lok L] (l : List GSchema) : Ctr L Tryz.prog 23 [] [.sl false 19 (l.map (encSchema false)), .sl false 19 (l.map (encSchema false))] (.v (.bool true)) [] True := ⟨en23, fun _ => (eqSchemaS_n L (SizeOf.sizeOf l + 1) l).out (Nat.lt_succ_self _)⟩
theorem szSchema_n (L : Nat → Nat) [hL : Lok L] (n : Nat) (ih : ∀ (l : List GSchema) (r : Int), Ctr L Tryz.prog 15 [] [.sl false 19 (l.map (encSchema false)), .v (.int .i64 r)] (.v (.int .i64 (szSl szSchema l r))) [] (SizeOf.sizeOf l < n ∧ 0 ≤ r ∧ r ≤ 1048576)) (x : GSchema) (r : Int) : Ctr L Tryz.prog 61 [] [.agg [.v (.int .i64 x.fKind), .str x.fName, .v (.int .i64 x.fType.fKind), .sl false 2 (x.fType.fRanges.map (encRange false)), .sl false 1 (x.fType.fNames.map AV.str), .str x.fType.fPattern, .str x.fType.fPath, .sl false 1 (x.fKeys.map AV.str), .sl false 1 (x.fUnique.map AV.str), .str x.fDefault, .v (.bool x.fGiven), .v (.bool x.fNeeded), .v (.bool x.fPresent), .v (.bool x.fFixed), .v (.int .i64 x.fMin), .v (.int .i64 x.fMax), .sl false 7 (x.fWhen.map (encExpr false)), .sl false 7 (x.fMust.map (encExpr false)), .sl false 19 (x.fKids.map (encSchema false))], .v (.int .i64 r)] (.v (.int .i64 (szSchema x r))) [] (SizeOf.sizeOf x.fKids < n ∧ 0 ≤ r ∧ r ≤ 1048576) := by
  refine Ctr.of_body en61 Tryz.func61 rfl rfl fun hp => (?_); rw [Tryz.ntmps61]
  refine AW.fact 0 fun hf => ?_
  simp (disch := omega) only [go_sem, Nat.reduceBEq] at hf
  have le1 := szType_le x.fType (r - x.fName.length)
  have le2 := szSl_le szStr szStr_le x.fKeys (szType x.fType (r - x.fName.length))
  have le3 := szSl_le szStr szStr_le x.fUnique (szSl szStr x.fKeys (szType x.fType (r - x.fName.length)))
  have le5 := szSl_le szExpr szExpr_le x.fWhen ((szSl szStr x.fUnique (szSl szStr x.fKeys (szType x.fType (r - x.fName.length)))) - x.fDefault.length)
  have le6 := szSl_le szExpr szExpr_le x.fMust (szSl szExpr x.fWhen ((szSl szStr x.fUnique (szSl szStr x.fKeys (szType x.fType (r - x.fName.length)))) - x.fDefault.length))
  have le7 := szSl_le szSchema szSchema_le x.fKids (szSl szExpr x.fMust (szSl szExpr x.fWhen ((szSl szStr x.fUnique (szSl szStr x.fKeys (szType x.fType (r - x.fName.length)))) - x.fDefault.length)))
  rw [szSchema_eq]
  ((refine vU ?_; with_reducible repeat' first | exact Le.l | refine Sw ?_ ?_ | intro h); all_goals simp only [thn, szStr, id]; all_goals refine congrArg (fun z => AV.v (.int .i64 z)) ?_; all_goals (repeat' split); all_goals omega)
theorem szSchemaS_n (L : Nat → Nat) [hL : Lok L] : ∀ (n : Nat) (l : List GSchema) (r : Int), Ctr L Tryz.prog 15 [] [.sl false 19 (l.map (encSchema false)), .v (.int .i64 r)] (.v (.int .i64 (szSl szSchema l r))) [] (SizeOf.sizeOf l < n ∧ 0 ≤ r ∧ r ≤ 1048576)
  | 0, l, r => ⟨en15, fun h => absurd h.1 (Nat.not_lt_zero _)⟩
  | n + 1, l, r => by
    have hx := szSchema_n L n (szSchemaS_n L n)
    refine Ctr.of_body en15 Tryz.func15 rfl rfl fun hp => (?_); rw [Tryz.ntmps15]
    refine AW.fact 0 fun hf => ?_
    simp (disch := omega) only [go_sem, Nat.reduceBEq] at hf
    have hf := Nat.le_trans hf (hL.le 19)
    (refine vU ?_; with_reducible repeat' first | exact Le.l | refine Sw ?_ ?_ | intro h)
    · rw [szSl_neg h]
    rw [szSl_pos h]
    refine AW.loopV [1, 5] [0] (fun m xs o => ∃ (k : Nat) (q : Int), xs = [.v (.int .i64 q), .v (.int .i64 k)] ∧ o = [] ∧ m = l.length - k ∧ k ≤ l.length ∧ 0 ≤ q ∧ q ≤ 1048576 ∧ szGo szSchema (l.drop k) q = szGo szSchema l (r - l.length)) l.length [] trivial ⟨0, _, ?_, rfl, rfl, ?_, ?_, ?_, rfl⟩ ?_
    · rfl
    · omega
    · omega
    · omega
    rintro m xs o ⟨k, q, rfl, rfl, rfl, hk, h0, h1, hR⟩
    have hle := szSchema_le (at_ l k) q h0
    have hkk : k < l.length → SizeOf.sizeOf (at_ l k).fKids < n := fun h => by have := GSchema.kids_lt (at_mem h); omega
    (refine vU ?_; with_reducible repeat' first | exact Le.l | refine Sw ?_ ?_ | intro h)
    · rw [szGo_at (by assumption), if_pos (by first | exact h | (rw [hsz]; exact h))] at hR; rw [hR]
    · rw [szGo_at (by assumption), if_neg (by omega)] at hR
      exact ⟨_, [_, _], [], by omega, ⟨k + 1, _, rfl, rfl, rfl, by omega, by omega, by omega, hR⟩, rfl, trivial⟩
    · rw [szGo_end h] at hR; rw [hR]
instance szSchemaS_i (L : Nat → Nat) [hL : Lok L] (l : List GSchema) (r : Int) : Ctr L Tryz.prog 15 [] [.sl false 19 (l.map (encSchema false)), .v (.int .i64 r)] (.v (.int .i64 (szSl szSchema l r))) [] (0 ≤ r ∧ r ≤ 1048576) := ⟨en15, fun h => (szSchemaS_n L (SizeOf.sizeOf l + 1) l r).out ⟨Nat.lt_succ_self _, h⟩⟩
theorem toSchema_n (n : Nat) (ih : ∀ l : List GSchema, Ctr lim Tryz.prog 19 [] [.sl false 19 (l.map (encSchema false))] (.sl true 19 (l.map (encSchema true))) [] (SizeOf.sizeOf l < n)) (x : GSchema) : Ctr lim Tryz.prog 64 [] [.agg [.v (.int .i64 x.fKind), .str x.fName, .v (.int .i64 x.fType.fKind), .sl false 2 (x.fType.fRanges.map (encRange false)), .sl false 1 (x.fType.fNames.map AV.str), .str x.fType.fPattern, .str x.fType.fPath, .sl false 1 (x.fKeys.map AV.str), .sl false 1 (x.fUnique.map AV.str), .str x.fDefault, .v (.bool x.fGiven), .v (.bool x.fNeeded), .v (.bool x.fPresent), .v (.bool x.fFixed), .v (.int .i64 x.fMin), .v (.int .i64 x.fMax), .sl false 7 (x.fWhen.map (encExpr false)), .sl false 7 (x.fMust.map (encExpr false)), .sl false 19 (x.fKids.map (encSchema false))]] (.agg [.v (.int .i64 x.fKind), .str x.fName, .v (.int .i64 x.fType.fKind), .sl true 2 (x.fType.fRanges.map (encRange true)), .sl true 1 (x.fType.fNames.map AV.str), .str x.fType.fPattern, .str x.fType.fPath, .sl true 1 (x.fKeys.map AV.str), .sl true 1 (x.fUnique.map AV.str), .str x.fDefault, .v (.bool x.fGiven), .v (.bool x.fNeeded), .v (.bool x.fPresent), .v (.bool x.fFixed), .v (.int .i64 x.fMin), .v (.int .i64 x.fMax), .sl true 7 (x.fWhen.map (encExpr true)), .sl true 7 (x.fMust.map (encExpr true)), .sl true 19 (x.fKids.map (encSchema true))]) [] (SizeOf.sizeOf x.fKids < n) := by
  refine Ctr.of_body en64 Tryz.func64 rfl rfl fun hp => (?_); rw [Tryz.ntmps64]
  all_goals exact uU
theorem toSchemaS_n : ∀ (n : Nat) (l : List GSchema), Ctr lim Tryz.prog 19 [] [.sl false 19 (l.map (encSchema false))] (.sl true 19 (l.map (encSchema true))) [] (SizeOf.sizeOf l < n)
  | 0, l => ⟨en19, fun h => absurd h (Nat.not_lt_zero _)⟩
  | n + 1, l => by
    have hx := toSchema_n n (toSchemaS_n n)
    refine Ctr.of_body en19 Tryz.func19 rfl rfl fun hp => (?_); rw [Tryz.ntmps19]
    refine AW.fact 0 fun hf => ?_
    simp (disch := omega) only [go_sem, Nat.reduceBEq] at hf
    (refine vU ?_; with_reducible repeat' first | exact Le.l | refine Sw ?_ ?_ | intro h)
    refine AW.loopV [4] [0, 3] (fun m xs o => ∃ k : Nat, xs = [.v (.int .i64 k)] ∧ o = [(h, some (mkC (encSchema true) [.int .i64 0, .string ⟨#[]⟩, .int .i64 0, .slice none 0 0, .slice none 0 0, .string ⟨#[]⟩, .string ⟨#[]⟩, .slice none 0 0, .slice none 0 0, .string ⟨#[]⟩, .bool false, .bool false, .bool false, .bool false, .int .i64 0, .int .i64 0, .slice none 0 0, .slice none 0 0, .slice none 0 0] l k))] ∧ m = l.length - k ∧ k ≤ l.length) l.length [(h, some (mkC (encSchema true) [.int .i64 0, .string ⟨#[]⟩, .int .i64 0, .slice none 0 0, .slice none 0 0, .string ⟨#[]⟩, .string ⟨#[]⟩, .slice none 0 0, .slice none 0 0, .string ⟨#[]⟩, .bool false, .bool false, .bool false, .bool false, .int .i64 0, .int .i64 0, .slice none 0 0, .slice none 0 0, .slice none 0 0] l 0))] (subO_one (mkC_zero _ _ _)) ⟨0, ?_, rfl, rfl, ?_⟩ ?_
    · rfl
    · omega
    rintro m xs o ⟨k, rfl, rfl, rfl, hk⟩
    have hml := mkC_len (encSchema true) [.int .i64 0, .string ⟨#[]⟩, .int .i64 0, .slice none 0 0, .slice none 0 0, .string ⟨#[]⟩, .string ⟨#[]⟩, .slice none 0 0, .slice none 0 0, .string ⟨#[]⟩, .bool false, .bool false, .bool false, .bool false, .int .i64 0, .int .i64 0, .slice none 0 0, .slice none 0 0, .slice none 0 0] 19 (fun x => by rw [encSchema_eq]; rfl) rfl l k hk
    have hkk : k < l.length → SizeOf.sizeOf (at_ l k).fKids < n := fun h => by have := GSchema.kids_lt (at_mem h); omega
    (refine vX ?_; with_reducible repeat' first | exact Le.l | refine Sw ?_ ?_ | intro h)
    · exact ⟨_, [_], _, by omega, ⟨k + 1, rfl, rfl, rfl, by omega⟩, rfl, subO_one (by have := mkC_at (encSchema true) [.int .i64 0, .string ⟨#[]⟩, .int .i64 0, .slice none 0 0, .slice none 0 0, .string ⟨#[]⟩, .string ⟨#[]⟩, .slice none 0 0, .slice none 0 0, .string ⟨#[]⟩, .bool false, .bool false, .bool false, .bool false, .int .i64 0, .int .i64 0, .slice none 0 0, .slice none 0 0, .slice none 0 0] 19 (fun x => by rw [encSchema_eq]; rfl) rfl l k h; simp only [go_sem, Nat.mul_one] at this ⊢; exact this.symm)⟩
    · refine AW.made 2 rfl h hk (fun x => by rw [encSchema_eq]; rfl) ?_
      all_goals exact uU
instance toSchemaS_i (l : List GSchema) : Ctr lim Tryz.prog 19 [] [.sl false 19 (l.map (encSchema false))] (.sl true 19 (l.map (encSchema true))) [] True := ⟨en19, fun _ => (toSchemaS_n (SizeOf.sizeOf l + 1) l).out (Nat.lt_succ_self _)⟩
instance eqVersion_i (L : Nat → Nat) [hL : Lok L] (x : GVersion) : Ctr L Tryz.prog 221 [] [.agg [.sl false 3 (x.fTree.map (encNode false)), .v (.int .i64 x.fBy), .v (.int .i64 x.fAt)], .agg [.sl false 3 (x.fTree.map (encNode false)), .v (.int .i64 x.fBy), .v (.int .i64 x.fAt)]] (.v (.bool true)) [] True := by
  refine Ctr.of_body en221 Tryz.func221 rfl rfl fun hp => (?_); rw [Tryz.ntmps221]
  all_goals exact uU
instance eqVersionS_i (L : Nat → Nat) [hL : Lok L] (l : List GVersion) : Ctr L Tryz.prog 181 [] [.sl false 3 (l.map (encVersion false)), .sl false 3 (l.map (encVersion false))] (.v (.bool true)) [] True := by
  refine Ctr.of_body en181 Tryz.func181 rfl rfl fun hp => (?_); rw [Tryz.ntmps181]
  refine AW.fact 0 fun hf => ?_
  simp (disch := omega) only [go_sem, Nat.reduceBEq] at hf
  have hf := Nat.le_trans hf (hL.le 3)
  (refine vU ?_; with_reducible repeat' first | exact Le.l | refine Sw ?_ ?_ | intro h)
  refine AW.loopV [5] [0, 1] (fun m xs o => ∃ k : Nat, xs = [.v (.int .i64 k)] ∧ o = [] ∧ m = l.length - k ∧ k ≤ l.length) l.length [] trivial ⟨0, ?_, rfl, rfl, ?_⟩ ?_
  · rfl
  · omega
  rintro m xs o ⟨k, rfl, rfl, rfl, hk⟩
  (refine vU ?_; with_reducible repeat' first | exact Le.l | refine Sw ?_ ?_ | intro h)
  exact ⟨_, [_], [], by omega, ⟨k + 1, rfl, rfl, rfl, by omega⟩, rfl, trivial⟩
instance szVersion_i (L : Nat → Nat) [hL : Lok L] (x : GVersion) (r : Int) : Ctr L Tryz.prog 219 [] [.agg [.sl false 3 (x.fTree.map (encNode false)), .v (.int .i64 x.fBy), .v (.int .i64 x.fAt)], .v (.int .i64 r)] (.v (.int .i64 (szVersion x r))) [] (0 ≤ r ∧ r ≤ 1048576) := by
  refine Ctr.of_body en219 Tryz.func219 rfl rfl fun hp => (?_); rw [Tryz.ntmps219]
  refine AW.fact 0 fun hf => ?_
  simp (disch := omega) only [go_sem, Nat.reduceBEq] at hf
  have le0 := szSl_le szNode szNode_le x.fTree r
  unfold szVersion
  ((refine vU ?_; with_reducible repeat' first | exact Le.l | refine Sw ?_ ?_ | intro h); all_goals simp only [thn, szStr, id]; all_goals refine congrArg (fun z => AV.v (.int .i64 z)) ?_; all_goals (repeat' split); all_goals omega)
instance szVersionS_i (L : Nat → Nat) [hL : Lok L] (l : List GVersion) (r : Int) : Ctr L Tryz.prog 177 [] [.sl false 3 (l.map (encVersion false)), .v (.int .i64 r)] (.v (.int .i64 (szSl szVersion l r))) [] (0 ≤ r ∧ r ≤ 1048576) := by
  refine Ctr.of_body en177 Tryz.func177 rfl rfl fun hp => (?_); rw [Tryz.ntmps177]
  refine AW.fact 0 fun hf => ?_
  simp (disch := omega) only [go_sem, Nat.reduceBEq] at hf
  have hf := Nat.le_trans hf (hL.le 3)
  (refine vU ?_; with_reducible repeat' first | exact Le.l | refine Sw ?_ ?_ | intro h)
  · rw [szSl_neg h]
  rw [szSl_pos h]
  refine AW.loopV [1, 5] [0] (fun m xs o => ∃ (k : Nat) (q : Int), xs = [.v (.int .i64 q), .v (.int .i64 k)] ∧ o = [] ∧ m = l.length - k ∧ k ≤ l.length ∧ 0 ≤ q ∧ q ≤ 1048576 ∧ szGo szVersion (l.drop k) q = szGo szVersion l (r - l.length)) l.length [] trivial ⟨0, _, ?_, rfl, rfl, ?_, ?_, ?_, rfl⟩ ?_
  · rfl
  · omega
  · omega
  · omega
  rintro m xs o ⟨k, q, rfl, rfl, rfl, hk, h0, h1, hR⟩
  have hle := szVersion_le (at_ l k) q h0
  (refine vU ?_; with_reducible repeat' first | exact Le.l | refine Sw ?_ ?_ | intro h)
  · rw [szGo_at (by assumption), if_pos (by first | exact h | (rw [hsz]; exact h))] at hR; rw [hR]
  · rw [szGo_at (by assumption), if_neg (by omega)] at hR
    exact ⟨_, [_, _], [], by omega, ⟨k + 1, _, rfl, rfl, rfl, by omega, by omega, by omega, hR⟩, rfl, trivial⟩
  · rw [szGo_end h] at hR; rw [hR]
instance toVersion_i (x : GVersion) : Ctr lim Tryz.prog 220 [] [.agg [.sl false 3 (x.fTree.map (encNode false)), .v (.int .i64 x.fBy), .v (.int .i64 x.fAt)]] (.agg [.sl true 3 (x.fTree.map (encNode true)), .v (.int .i64 x.fBy), .v (.int .i64 x.fAt)]) [] True := by
  refine Ctr.of_body en220 Tryz.func220 rfl rfl fun hp => (?_); rw [Tryz.ntmps220]
  all_goals exact uU
instance toVersionS_i (l : List GVersion) : Ctr lim Tryz.prog 179 [] [.sl false 3 (l.map (encVersion false))] (.sl true 3 (l.map (encVersion true))) [] True := by
  refine Ctr.of_body en179 Tryz.func179 rfl rfl fun hp => (?_); rw [Tryz.ntmps179]
  refine AW.fact 0 fun hf => ?_
  simp (disch := omega) only [go_sem, Nat.reduceBEq] at hf
  (refine vU ?_; with_reducible repeat' first | exact Le.l | refine Sw ?_ ?_ | intro h)
  refine AW.loopV [4] [0, 3] (fun m xs o => ∃ k : Nat, xs = [.v (.int .i64 k)] ∧ o = [(h, some (mkC (encVersion true) [.slice none 0 0, .int .i64 0, .int .i64 0] l k))] ∧ m = l.length - k ∧ k ≤ l.length) l.length [(h, some (mkC (encVersion true) [.slice none 0 0, .int .i64 0, .int .i64 0] l 0))] (subO_one (mkC_zero _ _ _)) ⟨0, ?_, rfl, rfl, ?_⟩ ?_
  · rfl
  · omega
  rintro m xs o ⟨k, rfl, rfl, rfl, hk⟩
  have hml := mkC_len (encVersion true) [.slice none 0 0, .int .i64 0, .int .i64 0] 3 (fun _ => rfl) rfl l k hk
  (refine vX ?_; with_reducible repeat' first | exact Le.l | refine Sw ?_ ?_ | intro h)
  · exact ⟨_, [_], _, by omega, ⟨k + 1, rfl, rfl, rfl, by omega⟩, rfl, subO_one (by have := mkC_at (encVersion true) [.slice none 0 0, .int .i64 0, .int .i64 0] 3 (fun _ => rfl) rfl l k h; simp only [go_sem, Nat.mul_one] at this ⊢; exact this.symm)⟩
  · refine AW.made 2 rfl h hk (fun _ => rfl) ?_
    all_goals exact uU
instance eqPending_i (L : Nat → Nat) [hL : Lok L] (x : GPending) : Ctr L Tryz.prog 182 [] [.agg [.v (.bool x.fOn), .v (.int .i64 x.fUntil), .v (.int .i64 x.fBy), .str x.fName, .sl false 3 (x.fBack.map (encNode false))], .agg [.v (.bool x.fOn), .v (.int .i64 x.fUntil), .v (.int .i64 x.fBy), .str x.fName, .sl false 3 (x.fBack.map (encNode false))]] (.v (.bool true)) [] True := by
  refine Ctr.of_body en182 Tryz.func182 rfl rfl fun hp => (?_); rw [Tryz.ntmps182]
  all_goals exact uU
instance szPending_i (L : Nat → Nat) [hL : Lok L] (x : GPending) (r : Int) : Ctr L Tryz.prog 178 [] [.agg [.v (.bool x.fOn), .v (.int .i64 x.fUntil), .v (.int .i64 x.fBy), .str x.fName, .sl false 3 (x.fBack.map (encNode false))], .v (.int .i64 r)] (.v (.int .i64 (szPending x r))) [] (0 ≤ r ∧ r ≤ 1048576) := by
  refine Ctr.of_body en178 Tryz.func178 rfl rfl fun hp => (?_); rw [Tryz.ntmps178]
  refine AW.fact 0 fun hf => ?_
  simp (disch := omega) only [go_sem, Nat.reduceBEq] at hf
  have le1 := szSl_le szNode szNode_le x.fBack (r - x.fName.length)
  unfold szPending
  ((refine vU ?_; with_reducible repeat' first | exact Le.l | refine Sw ?_ ?_ | intro h); all_goals simp only [thn, szStr, id]; all_goals refine congrArg (fun z => AV.v (.int .i64 z)) ?_; all_goals (repeat' split); all_goals omega)
instance toPending_i (x : GPending) : Ctr lim Tryz.prog 180 [] [.agg [.v (.bool x.fOn), .v (.int .i64 x.fUntil), .v (.int .i64 x.fBy), .str x.fName, .sl false 3 (x.fBack.map (encNode false))]] (.agg [.v (.bool x.fOn), .v (.int .i64 x.fUntil), .v (.int .i64 x.fBy), .str x.fName, .sl true 3 (x.fBack.map (encNode true))]) [] True := by
  refine Ctr.of_body en180 Tryz.func180 rfl rfl fun hp => (?_); rw [Tryz.ntmps180]
  all_goals exact uU
instance eqStore_i (L : Nat → Nat) [hL : Lok L] (x : GStore) : Ctr L Tryz.prog 136 [] [.agg [.sl false 19 (x.fSchema.map (encSchema false)), .sl false 3 (x.fRunning.map (encNode false)), .sl false 3 (x.fDraft.map (encNode false)), .v (.int .i64 x.fOwner), .sl false 3 (x.fPast.map (encVersion false)), .v (.bool x.fWait.fOn), .v (.int .i64 x.fWait.fUntil), .v (.int .i64 x.fWait.fBy), .str x.fWait.fName, .sl false 3 (x.fWait.fBack.map (encNode false))], .agg [.sl false 19 (x.fSchema.map (encSchema false)), .sl false 3 (x.fRunning.map (encNode false)), .sl false 3 (x.fDraft.map (encNode false)), .v (.int .i64 x.fOwner), .sl false 3 (x.fPast.map (encVersion false)), .v (.bool x.fWait.fOn), .v (.int .i64 x.fWait.fUntil), .v (.int .i64 x.fWait.fBy), .str x.fWait.fName, .sl false 3 (x.fWait.fBack.map (encNode false))]] (.v (.bool true)) [] True := by
  refine Ctr.of_body en136 Tryz.func136 rfl rfl fun hp => (?_); rw [Tryz.ntmps136]
  all_goals exact uU
instance szStore_i (L : Nat → Nat) [hL : Lok L] (x : GStore) (r : Int) : Ctr L Tryz.prog 130 [] [.agg [.sl false 19 (x.fSchema.map (encSchema false)), .sl false 3 (x.fRunning.map (encNode false)), .sl false 3 (x.fDraft.map (encNode false)), .v (.int .i64 x.fOwner), .sl false 3 (x.fPast.map (encVersion false)), .v (.bool x.fWait.fOn), .v (.int .i64 x.fWait.fUntil), .v (.int .i64 x.fWait.fBy), .str x.fWait.fName, .sl false 3 (x.fWait.fBack.map (encNode false))], .v (.int .i64 r)] (.v (.int .i64 (szStore x r))) [] (0 ≤ r ∧ r ≤ 1048576) := by
  refine Ctr.of_body en130 Tryz.func130 rfl rfl fun hp => (?_); rw [Tryz.ntmps130]
  refine AW.fact 0 fun hf => ?_
  simp (disch := omega) only [go_sem, Nat.reduceBEq] at hf
  have le0 := szSl_le szSchema szSchema_le x.fSchema r
  have le1 := szSl_le szNode szNode_le x.fRunning (szSl szSchema x.fSchema r)
  have le2 := szSl_le szNode szNode_le x.fDraft (szSl szNode x.fRunning (szSl szSchema x.fSchema r))
  have le3 := szSl_le szVersion szVersion_le x.fPast (szSl szNode x.fDraft (szSl szNode x.fRunning (szSl szSchema x.fSchema r)))
  have le4 := szPending_le x.fWait (szSl szVersion x.fPast (szSl szNode x.fDraft (szSl szNode x.fRunning (szSl szSchema x.fSchema r))))
  unfold szStore
  ((refine vU ?_; with_reducible repeat' first | exact Le.l | refine Sw ?_ ?_ | intro h); all_goals simp only [thn, szStr, id]; all_goals refine congrArg (fun z => AV.v (.int .i64 z)) ?_; all_goals (repeat' split); all_goals omega)
instance toStore_i (x : GStore) : Ctr lim Tryz.prog 132 [] [.agg [.sl false 19 (x.fSchema.map (encSchema false)), .sl false 3 (x.fRunning.map (encNode false)), .sl false 3 (x.fDraft.map (encNode false)), .v (.int .i64 x.fOwner), .sl false 3 (x.fPast.map (encVersion false)), .v (.bool x.fWait.fOn), .v (.int .i64 x.fWait.fUntil), .v (.int .i64 x.fWait.fBy), .str x.fWait.fName, .sl false 3 (x.fWait.fBack.map (encNode false))]] (.agg [.sl true 19 (x.fSchema.map (encSchema true)), .sl true 3 (x.fRunning.map (encNode true)), .sl true 3 (x.fDraft.map (encNode true)), .v (.int .i64 x.fOwner), .sl true 3 (x.fPast.map (encVersion true)), .v (.bool x.fWait.fOn), .v (.int .i64 x.fWait.fUntil), .v (.int .i64 x.fWait.fBy), .str x.fWait.fName, .sl true 3 (x.fWait.fBack.map (encNode true))]) [] True := by
  refine Ctr.of_body en132 Tryz.func132 rfl rfl fun hp => (?_); rw [Tryz.ntmps132]
  all_goals exact uU
instance eqDevice_i (L : Nat → Nat) [hL : Lok L] (x : GDevice) : Ctr L Tryz.prog 85 [] [.agg [.str x.fName, .sl false 19 (x.fStore.fSchema.map (encSchema false)), .sl false 3 (x.fStore.fRunning.map (encNode false)), .sl false 3 (x.fStore.fDraft.map (encNode false)), .v (.int .i64 x.fStore.fOwner), .sl false 3 (x.fStore.fPast.map (encVersion false)), .v (.bool x.fStore.fWait.fOn), .v (.int .i64 x.fStore.fWait.fUntil), .v (.int .i64 x.fStore.fWait.fBy), .str x.fStore.fWait.fName, .sl false 3 (x.fStore.fWait.fBack.map (encNode false)), .sl false 3 (x.fBase.map (encNode false)), .v (.bool x.fUp), .v (.int .i64 x.fWeak), .v (.bool x.fHeld)], .agg [.str x.fName, .sl false 19 (x.fStore.fSchema.map (encSchema false)), .sl false 3 (x.fStore.fRunning.map (encNode false)), .sl false 3 (x.fStore.fDraft.map (encNode false)), .v (.int .i64 x.fStore.fOwner), .sl false 3 (x.fStore.fPast.map (encVersion false)), .v (.bool x.fStore.fWait.fOn), .v (.int .i64 x.fStore.fWait.fUntil), .v (.int .i64 x.fStore.fWait.fBy), .str x.fStore.fWait.fName, .sl false 3 (x.fStore.fWait.fBack.map (encNode false)), .sl false 3 (x.fBase.map (encNode false)), .v (.bool x.fUp), .v (.int .i64 x.fWeak), .v (.bool x.fHeld)]] (.v (.bool true)) [] True := by
  refine Ctr.of_body en85 Tryz.func85 rfl rfl fun hp => (?_); rw [Tryz.ntmps85]
  all_goals exact uU
instance eqDeviceS_i (L : Nat → Nat) [hL : Lok L] (l : List GDevice) : Ctr L Tryz.prog 40 [] [.sl false 15 (l.map (encDevice false)), .sl false 15 (l.map (encDevice false))] (.v (.bool true)) [] True := by
  refine Ctr.of_body en40 Tryz.func40 rfl rfl fun hp => (?_); rw [Tryz.ntmps40]
  refine AW.fact 0 fun hf => ?_
  simp (disch := omega) only [go_sem, Nat.reduceBEq] at hf
  have hf := Nat.le_trans hf (hL.le 15)
  (refine vU ?_; with_reducible repeat' first | exact Le.l | refine Sw ?_ ?_ | intro h)
  refine AW.loopV [5] [0, 1] (fun m xs o => ∃ k : Nat, xs = [.v (.int .i64 k)] ∧ o = [] ∧ m = l.length - k ∧ k ≤ l.length) l.length [] trivial ⟨0, ?_, rfl, rfl, ?_⟩ ?_
  · rfl
  · omega
  rintro m xs o ⟨k, rfl, rfl, rfl, hk⟩
  (refine vU ?_; with_reducible repeat' first | exact Le.l | refine Sw ?_ ?_ | intro h)
  exact ⟨_, [_], [], by omega, ⟨k + 1, rfl, rfl, rfl, by omega⟩, rfl, trivial⟩
instance szDevice_i (L : Nat → Nat) [hL : Lok L] (x : GDevice) (r : Int) : Ctr L Tryz.prog 75 [] [.agg [.str x.fName, .sl false 19 (x.fStore.fSchema.map (encSchema false)), .sl false 3 (x.fStore.fRunning.map (encNode false)), .sl false 3 (x.fStore.fDraft.map (encNode false)), .v (.int .i64 x.fStore.fOwner), .sl false 3 (x.fStore.fPast.map (encVersion false)), .v (.bool x.fStore.fWait.fOn), .v (.int .i64 x.fStore.fWait.fUntil), .v (.int .i64 x.fStore.fWait.fBy), .str x.fStore.fWait.fName, .sl false 3 (x.fStore.fWait.fBack.map (encNode false)), .sl false 3 (x.fBase.map (encNode false)), .v (.bool x.fUp), .v (.int .i64 x.fWeak), .v (.bool x.fHeld)], .v (.int .i64 r)] (.v (.int .i64 (szDevice x r))) [] (0 ≤ r ∧ r ≤ 1048576) := by
  refine Ctr.of_body en75 Tryz.func75 rfl rfl fun hp => (?_); rw [Tryz.ntmps75]
  refine AW.fact 0 fun hf => ?_
  simp (disch := omega) only [go_sem, Nat.reduceBEq] at hf
  have le1 := szStore_le x.fStore (r - x.fName.length)
  have le2 := szSl_le szNode szNode_le x.fBase (szStore x.fStore (r - x.fName.length))
  unfold szDevice
  ((refine vU ?_; with_reducible repeat' first | exact Le.l | refine Sw ?_ ?_ | intro h); all_goals simp only [thn, szStr, id]; all_goals refine congrArg (fun z => AV.v (.int .i64 z)) ?_; all_goals (repeat' split); all_goals omega)
instance szDeviceS_i (L : Nat → Nat) [hL : Lok L] (l : List GDevice) (r : Int) : Ctr L Tryz.prog 34 [] [.sl false 15 (l.map (encDevice false)), .v (.int .i64 r)] (.v (.int .i64 (szSl szDevice l r))) [] (0 ≤ r ∧ r ≤ 1048576) := by
  refine Ctr.of_body en34 Tryz.func34 rfl rfl fun hp => (?_); rw [Tryz.ntmps34]
  refine AW.fact 0 fun hf => ?_
  simp (disch := omega) only [go_sem, Nat.reduceBEq] at hf
  have hf := Nat.le_trans hf (hL.le 15)
  (refine vU ?_; with_reducible repeat' first | exact Le.l | refine Sw ?_ ?_ | intro h)
  · rw [szSl_neg h]
  rw [szSl_pos h]
  refine AW.loopV [1, 5] [0] (fun m xs o => ∃ (k : Nat) (q : Int), xs = [.v (.int .i64 q), .v (.int .i64 k)] ∧ o = [] ∧ m = l.length - k ∧ k ≤ l.length ∧ 0 ≤ q ∧ q ≤ 1048576 ∧ szGo szDevice (l.drop k) q = szGo szDevice l (r - l.length)) l.length [] trivial ⟨0, _, ?_, rfl, rfl, ?_, ?_, ?_, rfl⟩ ?_
  · rfl
  · omega
  · omega
  · omega
  rintro m xs o ⟨k, q, rfl, rfl, rfl, hk, h0, h1, hR⟩
  have hle := szDevice_le (at_ l k) q h0
  (refine vU ?_; with_reducible repeat' first | exact Le.l | refine Sw ?_ ?_ | intro h)
  · rw [szGo_at (by assumption), if_pos (by first | exact h | (rw [hsz]; exact h))] at hR; rw [hR]
  · rw [szGo_at (by assumption), if_neg (by omega)] at hR
    exact ⟨_, [_, _], [], by omega, ⟨k + 1, _, rfl, rfl, rfl, by omega, by omega, by omega, hR⟩, rfl, trivial⟩
  · rw [szGo_end h] at hR; rw [hR]
instance toDevice_i (x : GDevice) : Ctr lim Tryz.prog 80 [] [.agg [.str x.fName, .sl false 19 (x.fStore.fSchema.map (encSchema false)), .sl false 3 (x.fStore.fRunning.map (encNode false)), .sl false 3 (x.fStore.fDraft.map (encNode false)), .v (.int .i64 x.fStore.fOwner), .sl false 3 (x.fStore.fPast.map (encVersion false)), .v (.bool x.fStore.fWait.fOn), .v (.int .i64 x.fStore.fWait.fUntil), .v (.int .i64 x.fStore.fWait.fBy), .str x.fStore.fWait.fName, .sl false 3 (x.fStore.fWait.fBack.map (encNode false)), .sl false 3 (x.fBase.map (encNode false)), .v (.bool x.fUp), .v (.int .i64 x.fWeak), .v (.bool x.fHeld)]] (.agg [.str x.fName, .sl true 19 (x.fStore.fSchema.map (encSchema true)), .sl true 3 (x.fStore.fRunning.map (encNode true)), .sl true 3 (x.fStore.fDraft.map (encNode true)), .v (.int .i64 x.fStore.fOwner), .sl true 3 (x.fStore.fPast.map (encVersion true)), .v (.bool x.fStore.fWait.fOn), .v (.int .i64 x.fStore.fWait.fUntil), .v (.int .i64 x.fStore.fWait.fBy), .str x.fStore.fWait.fName, .sl true 3 (x.fStore.fWait.fBack.map (encNode true)), .sl true 3 (x.fBase.map (encNode true)), .v (.bool x.fUp), .v (.int .i64 x.fWeak), .v (.bool x.fHeld)]) [] True := by
  refine Ctr.of_body en80 Tryz.func80 rfl rfl fun hp => (?_); rw [Tryz.ntmps80]
  all_goals exact uU
instance toDeviceS_i (l : List GDevice) : Ctr lim Tryz.prog 37 [] [.sl false 15 (l.map (encDevice false))] (.sl true 15 (l.map (encDevice true))) [] True := by
  refine Ctr.of_body en37 Tryz.func37 rfl rfl fun hp => (?_); rw [Tryz.ntmps37]
  refine AW.fact 0 fun hf => ?_
  simp (disch := omega) only [go_sem, Nat.reduceBEq] at hf
  (refine vU ?_; with_reducible repeat' first | exact Le.l | refine Sw ?_ ?_ | intro h)
  refine AW.loopV [4] [0, 3] (fun m xs o => ∃ k : Nat, xs = [.v (.int .i64 k)] ∧ o = [(h, some (mkC (encDevice true) [.string ⟨#[]⟩, .slice none 0 0, .slice none 0 0, .slice none 0 0, .int .i64 0, .slice none 0 0, .bool false, .int .i64 0, .int .i64 0, .string ⟨#[]⟩, .slice none 0 0, .slice none 0 0, .bool false, .int .i64 0, .bool false] l k))] ∧ m = l.length - k ∧ k ≤ l.length) l.length [(h, some (mkC (encDevice true) [.string ⟨#[]⟩, .slice none 0 0, .slice none 0 0, .slice none 0 0, .int .i64 0, .slice none 0 0, .bool false, .int .i64 0, .int .i64 0, .string ⟨#[]⟩, .slice none 0 0, .slice none 0 0, .bool false, .int .i64 0, .bool false] l 0))] (subO_one (mkC_zero _ _ _)) ⟨0, ?_, rfl, rfl, ?_⟩ ?_
  · rfl
  · omega
  rintro m xs o ⟨k, rfl, rfl, rfl, hk⟩
  have hml := mkC_len (encDevice true) [.string ⟨#[]⟩, .slice none 0 0, .slice none 0 0, .slice none 0 0, .int .i64 0, .slice none 0 0, .bool false, .int .i64 0, .int .i64 0, .string ⟨#[]⟩, .slice none 0 0, .slice none 0 0, .bool false, .int .i64 0, .bool false] 15 (fun _ => rfl) rfl l k hk
  (refine vX ?_; with_reducible repeat' first | exact Le.l | refine Sw ?_ ?_ | intro h)
  · exact ⟨_, [_], _, by omega, ⟨k + 1, rfl, rfl, rfl, by omega⟩, rfl, subO_one (by have := mkC_at (encDevice true) [.string ⟨#[]⟩, .slice none 0 0, .slice none 0 0, .slice none 0 0, .int .i64 0, .slice none 0 0, .bool false, .int .i64 0, .int .i64 0, .string ⟨#[]⟩, .slice none 0 0, .slice none 0 0, .bool false, .int .i64 0, .bool false] 15 (fun _ => rfl) rfl l k h; simp only [go_sem, Nat.mul_one] at this ⊢; exact this.symm)⟩
  · refine AW.made 2 rfl h hk (fun _ => rfl) ?_
    all_goals exact uU
instance eqTask_i (L : Nat → Nat) [hL : Lok L] (x : GTask) : Ctr L Tryz.prog 137 [] [.agg [.str x.fDevice, .sl false 3 (x.fTree.map (encNode false)), .v (.int .i64 x.fState)], .agg [.str x.fDevice, .sl false 3 (x.fTree.map (encNode false)), .v (.int .i64 x.fState)]] (.v (.bool true)) [] True := by
  refine Ctr.of_body en137 Tryz.func137 rfl rfl fun hp => (?_); rw [Tryz.ntmps137]
  all_goals exact uU
instance eqTaskS_i (L : Nat → Nat) [hL : Lok L] (l : List GTask) : Ctr L Tryz.prog 86 [] [.sl false 3 (l.map (encTask false)), .sl false 3 (l.map (encTask false))] (.v (.bool true)) [] True := by
  refine Ctr.of_body en86 Tryz.func86 rfl rfl fun hp => (?_); rw [Tryz.ntmps86]
  refine AW.fact 0 fun hf => ?_
  simp (disch := omega) only [go_sem, Nat.reduceBEq] at hf
  have hf := Nat.le_trans hf (hL.le 3)
  (refine vU ?_; with_reducible repeat' first | exact Le.l | refine Sw ?_ ?_ | intro h)
  refine AW.loopV [5] [0, 1] (fun m xs o => ∃ k : Nat, xs = [.v (.int .i64 k)] ∧ o = [] ∧ m = l.length - k ∧ k ≤ l.length) l.length [] trivial ⟨0, ?_, rfl, rfl, ?_⟩ ?_
  · rfl
  · omega
  rintro m xs o ⟨k, rfl, rfl, rfl, hk⟩
  (refine vU ?_; with_reducible repeat' first | exact Le.l | refine Sw ?_ ?_ | intro h)
  exact ⟨_, [_], [], by omega, ⟨k + 1, rfl, rfl, rfl, by omega⟩, rfl, trivial⟩
instance szTask_i (L : Nat → Nat) [hL : Lok L] (x : GTask) (r : Int) : Ctr L Tryz.prog 131 [] [.agg [.str x.fDevice, .sl false 3 (x.fTree.map (encNode false)), .v (.int .i64 x.fState)], .v (.int .i64 r)] (.v (.int .i64 (szTask x r))) [] (0 ≤ r ∧ r ≤ 1048576) := by
  refine Ctr.of_body en131 Tryz.func131 rfl rfl fun hp => (?_); rw [Tryz.ntmps131]
  refine AW.fact 0 fun hf => ?_
  simp (disch := omega) only [go_sem, Nat.reduceBEq] at hf
  have le1 := szSl_le szNode szNode_le x.fTree (r - x.fDevice.length)
  unfold szTask
  ((refine vU ?_; with_reducible repeat' first | exact Le.l | refine Sw ?_ ?_ | intro h); all_goals simp only [thn, szStr, id]; all_goals refine congrArg (fun z => AV.v (.int .i64 z)) ?_; all_goals (repeat' split); all_goals omega)
instance szTaskS_i (L : Nat → Nat) [hL : Lok L] (l : List GTask) (r : Int) : Ctr L Tryz.prog 76 [] [.sl false 3 (l.map (encTask false)), .v (.int .i64 r)] (.v (.int .i64 (szSl szTask l r))) [] (0 ≤ r ∧ r ≤ 1048576) := by
  refine Ctr.of_body en76 Tryz.func76 rfl rfl fun hp => (?_); rw [Tryz.ntmps76]
  refine AW.fact 0 fun hf => ?_
  simp (disch := omega) only [go_sem, Nat.reduceBEq] at hf
  have hf := Nat.le_trans hf (hL.le 3)
  (refine vU ?_; with_reducible repeat' first | exact Le.l | refine Sw ?_ ?_ | intro h)
  · rw [szSl_neg h]
  rw [szSl_pos h]
  refine AW.loopV [1, 5] [0] (fun m xs o => ∃ (k : Nat) (q : Int), xs = [.v (.int .i64 q), .v (.int .i64 k)] ∧ o = [] ∧ m = l.length - k ∧ k ≤ l.length ∧ 0 ≤ q ∧ q ≤ 1048576 ∧ szGo szTask (l.drop k) q = szGo szTask l (r - l.length)) l.length [] trivial ⟨0, _, ?_, rfl, rfl, ?_, ?_, ?_, rfl⟩ ?_
  · rfl
  · omega
  · omega
  · omega
  rintro m xs o ⟨k, q, rfl, rfl, rfl, hk, h0, h1, hR⟩
  have hle := szTask_le (at_ l k) q h0
  (refine vU ?_; with_reducible repeat' first | exact Le.l | refine Sw ?_ ?_ | intro h)
  · rw [szGo_at (by assumption), if_pos (by first | exact h | (rw [hsz]; exact h))] at hR; rw [hR]
  · rw [szGo_at (by assumption), if_neg (by omega)] at hR
    exact ⟨_, [_, _], [], by omega, ⟨k + 1, _, rfl, rfl, rfl, by omega, by omega, by omega, hR⟩, rfl, trivial⟩
  · rw [szGo_end h] at hR; rw [hR]
instance toTask_i (x : GTask) : Ctr lim Tryz.prog 133 [] [.agg [.str x.fDevice, .sl false 3 (x.fTree.map (encNode false)), .v (.int .i64 x.fState)]] (.agg [.str x.fDevice, .sl true 3 (x.fTree.map (encNode true)), .v (.int .i64 x.fState)]) [] True := by
  refine Ctr.of_body en133 Tryz.func133 rfl rfl fun hp => (?_); rw [Tryz.ntmps133]
  all_goals exact uU
instance toTaskS_i (l : List GTask) : Ctr lim Tryz.prog 81 [] [.sl false 3 (l.map (encTask false))] (.sl true 3 (l.map (encTask true))) [] True := by
  refine Ctr.of_body en81 Tryz.func81 rfl rfl fun hp => (?_); rw [Tryz.ntmps81]
  refine AW.fact 0 fun hf => ?_
  simp (disch := omega) only [go_sem, Nat.reduceBEq] at hf
  (refine vU ?_; with_reducible repeat' first | exact Le.l | refine Sw ?_ ?_ | intro h)
  refine AW.loopV [4] [0, 3] (fun m xs o => ∃ k : Nat, xs = [.v (.int .i64 k)] ∧ o = [(h, some (mkC (encTask true) [.string ⟨#[]⟩, .slice none 0 0, .int .i64 0] l k))] ∧ m = l.length - k ∧ k ≤ l.length) l.length [(h, some (mkC (encTask true) [.string ⟨#[]⟩, .slice none 0 0, .int .i64 0] l 0))] (subO_one (mkC_zero _ _ _)) ⟨0, ?_, rfl, rfl, ?_⟩ ?_
  · rfl
  · omega
  rintro m xs o ⟨k, rfl, rfl, rfl, hk⟩
  have hml := mkC_len (encTask true) [.string ⟨#[]⟩, .slice none 0 0, .int .i64 0] 3 (fun _ => rfl) rfl l k hk
  (refine vX ?_; with_reducible repeat' first | exact Le.l | refine Sw ?_ ?_ | intro h)
  · exact ⟨_, [_], _, by omega, ⟨k + 1, rfl, rfl, rfl, by omega⟩, rfl, subO_one (by have := mkC_at (encTask true) [.string ⟨#[]⟩, .slice none 0 0, .int .i64 0] 3 (fun _ => rfl) rfl l k h; simp only [go_sem, Nat.mul_one] at this ⊢; exact this.symm)⟩
  · refine AW.made 2 rfl h hk (fun _ => rfl) ?_
    all_goals exact uU
instance eqCampaign_i (L : Nat → Nat) [hL : Lok L] (x : GCampaign) : Ctr L Tryz.prog 41 [] [.agg [.v (.int .i64 x.fState), .sl false 3 (x.fTasks.map (encTask false))], .agg [.v (.int .i64 x.fState), .sl false 3 (x.fTasks.map (encTask false))]] (.v (.bool true)) [] True := by
  refine Ctr.of_body en41 Tryz.func41 rfl rfl fun hp => (?_); rw [Tryz.ntmps41]
  all_goals exact uU
instance szCampaign_i (L : Nat → Nat) [hL : Lok L] (x : GCampaign) (r : Int) : Ctr L Tryz.prog 35 [] [.agg [.v (.int .i64 x.fState), .sl false 3 (x.fTasks.map (encTask false))], .v (.int .i64 r)] (.v (.int .i64 (szCampaign x r))) [] (0 ≤ r ∧ r ≤ 1048576) := by
  refine Ctr.of_body en35 Tryz.func35 rfl rfl fun hp => (?_); rw [Tryz.ntmps35]
  refine AW.fact 0 fun hf => ?_
  simp (disch := omega) only [go_sem, Nat.reduceBEq] at hf
  have le0 := szSl_le szTask szTask_le x.fTasks r
  unfold szCampaign
  ((refine vU ?_; with_reducible repeat' first | exact Le.l | refine Sw ?_ ?_ | intro h); all_goals simp only [thn, szStr, id]; all_goals refine congrArg (fun z => AV.v (.int .i64 z)) ?_; all_goals (repeat' split); all_goals omega)
instance toCampaign_i (x : GCampaign) : Ctr lim Tryz.prog 38 [] [.agg [.v (.int .i64 x.fState), .sl false 3 (x.fTasks.map (encTask false))]] (.agg [.v (.int .i64 x.fState), .sl true 3 (x.fTasks.map (encTask true))]) [] True := by
  refine Ctr.of_body en38 Tryz.func38 rfl rfl fun hp => (?_); rw [Tryz.ntmps38]
  all_goals exact uU
end Go.Proofs.YtmdbmmmlccipdaaGreatDoor
