/-
  Part of a proof: Cu0, Fam7, FamA.
-/
import Derived.Test.YtmdbmmmlccipdaaGreatDoorG17
import Derived.Test.YtmdbmmmlccipdaaGreatDoorG18
import Derived.Test.YtmdbmmmlccipdaaGreatDoorG19
import Derived.Test.YtmdbmmmlccipdaaGreatDoorG32
import Derived.Test.YtmdbmmmlccipdaaGreatDoorG34
set_option linter.unusedSimpArgs false
set_option linter.unusedVariables false
namespace Go.Proofs.YtmdbmmmlccipdaaGreatDoor
open Go.Ab Go.Dt
set_option maxRecDepth 20000
set_option maxHeartbeats 4000000
attribute [local go_sem] frzL_str encSchemaM_frz schAll schOne nms_idx schF
attribute [-instance] iDataKids_i
instance iFind_i (s : List GSchema) (nm : Str) : Ctr lim Tryz.prog 109 [] [.sl false 19 (s.map (encSchema false)), .sl false 1 [.str nm]] (.tup [encSchema false (at_ (dk s) (idx (nmP nm) (dk s)).toNat), .v (.bool true)]) [] (0 ≤ idx (nmP nm) (dk s) ∧ cntS s ≤ 1048576) := by
  refine Ctr.of_body en109 Tryz.func109 rfl rfl fun hp => (?_); rw [Tryz.ntmps109]
  have gOn := GrOn.on
  obtain ⟨hi, hc⟩ := hp
  have hj := idx_lt (p := nmP nm) (dk s)
  refine AW.fact 0 fun hf => ?_
  simp (disch := omega) only [go_sem] at hf
  (refine bU ?_; with_reducible repeat' first | exact Le.l | refine Sw ?_ ?_ | intro h)
  rename_i a b
  refine AW.loopV [0, 14] [1, 4, 5, 6, 12, 13] (fun m xs o => (xs = [.sl false 19 (s.map (encSchema false)), .v (.int .i64 0)] ∧ o = [(b, some [.v (.int .i64 0), .str [], .v (.int .i64 0), .v (.slice none 0 0), .v (.slice none 0 0), .str [], .str [], .v (.slice none 0 0), .v (.slice none 0 0), .str [], .v (.bool false), .v (.bool false), .v (.bool false), .v (.bool false), .v (.int .i64 0), .v (.int .i64 0), .v (.slice none 0 0), .v (.slice none 0 0), .v (.slice none 0 0)]), (a, some [.v (.int .i64 0), .str [], .v (.int .i64 0), .v (.slice none 0 0), .v (.slice none 0 0), .str [], .str [], .v (.slice none 0 0), .v (.slice none 0 0), .str [], .v (.bool false), .v (.bool false), .v (.bool false), .v (.bool false), .v (.int .i64 0), .v (.int .i64 0), .v (.slice none 0 0), .v (.slice none 0 0), .v (.slice none 0 0)])] ∧ m = 1) ∨ (xs = [.sl false 19 ((at_ (dk s) (idx (nmP nm) (dk s)).toNat).fKids.map (encSchema false)), .v (.int .i64 1)] ∧ o = [(b, some [.v (.int .i64 (at_ (dk s) (idx (nmP nm) (dk s)).toNat).fKind), .str (at_ (dk s) (idx (nmP nm) (dk s)).toNat).fName, .v (.int .i64 (at_ (dk s) (idx (nmP nm) (dk s)).toNat).fType.fKind), .sl false 2 ((at_ (dk s) (idx (nmP nm) (dk s)).toNat).fType.fRanges.map (encRange false)), .sl false 1 ((at_ (dk s) (idx (nmP nm) (dk s)).toNat).fType.fNames.map AV.str), .str (at_ (dk s) (idx (nmP nm) (dk s)).toNat).fType.fPattern, .str (at_ (dk s) (idx (nmP nm) (dk s)).toNat).fType.fPath, .sl false 1 ((at_ (dk s) (idx (nmP nm) (dk s)).toNat).fKeys.map AV.str), .sl false 1 ((at_ (dk s) (idx (nmP nm) (dk s)).toNat).fUnique.map AV.str), .str (at_ (dk s) (idx (nmP nm) (dk s)).toNat).fDefault, .v (.bool (at_ (dk s) (idx (nmP nm) (dk s)).toNat).fGiven), .v (.bool (at_ (dk s) (idx (nmP nm) (dk s)).toNat).fNeeded), .v (.bool (at_ (dk s) (idx (nmP nm) (dk s)).toNat).fPresent), .v (.bool (at_ (dk s) (idx (nmP nm) (dk s)).toNat).fFixed), .v (.int .i64 (at_ (dk s) (idx (nmP nm) (dk s)).toNat).fMin), .v (.int .i64 (at_ (dk s) (idx (nmP nm) (dk s)).toNat).fMax), .sl false 7 ((at_ (dk s) (idx (nmP nm) (dk s)).toNat).fWhen.map (encExpr false)), .sl false 7 ((at_ (dk s) (idx (nmP nm) (dk s)).toNat).fMust.map (encExpr false)), .sl false 19 ((at_ (dk s) (idx (nmP nm) (dk s)).toNat).fKids.map (encSchema false))]), (a, some [.v (.int .i64 0), .str [], .v (.int .i64 0), .v (.slice none 0 0), .v (.slice none 0 0), .str [], .str [], .v (.slice none 0 0), .v (.slice none 0 0), .str [], .v (.bool false), .v (.bool false), .v (.bool false), .v (.bool false), .v (.int .i64 0), .v (.int .i64 0), .v (.slice none 0 0), .v (.slice none 0 0), .v (.slice none 0 0)])] ∧ m = 0)) 1 [(b, some [.v (.int .i64 0), .str [], .v (.int .i64 0), .v (.slice none 0 0), .v (.slice none 0 0), .str [], .str [], .v (.slice none 0 0), .v (.slice none 0 0), .str [], .v (.bool false), .v (.bool false), .v (.bool false), .v (.bool false), .v (.int .i64 0), .v (.int .i64 0), .v (.slice none 0 0), .v (.slice none 0 0), .v (.slice none 0 0)]), (a, some [.v (.int .i64 0), .str [], .v (.int .i64 0), .v (.slice none 0 0), .v (.slice none 0 0), .str [], .str [], .v (.slice none 0 0), .v (.slice none 0 0), .str [], .v (.bool false), .v (.bool false), .v (.bool false), .v (.bool false), .v (.int .i64 0), .v (.int .i64 0), .v (.slice none 0 0), .v (.slice none 0 0), .v (.slice none 0 0)])] gO (.inl ⟨rfl, rfl, rfl⟩) ?_
  rintro m xs o (⟨rfl, rfl, rfl⟩ | ⟨rfl, rfl, rfl⟩)
  · (refine vU ?_; with_reducible repeat' first | exact Le.l | refine Sw ?_ ?_ | intro h)
    refine ⟨.str nm, fun _ => ⟨by decide, rfl, rfl⟩, ?_⟩
    (refine vU ?_; with_reducible repeat' first | exact Le.l | refine Sw ?_ ?_ | intro h)
    refine h _ _ ?_
    (refine vU ?_; with_reducible repeat' first | exact Le.l | refine Sw ?_ ?_ | intro h)
    exact ⟨_, _, _, Nat.zero_lt_one, .inr ⟨rfl, rfl, rfl⟩, rfl, by simp (maxSteps := 2000000) (disch := omega) only [go_sem]⟩
  · (refine vU ?_; with_reducible repeat' first | exact Le.l | refine Sw ?_ ?_ | intro h)
    rfl

end Go.Proofs.YtmdbmmmlccipdaaGreatDoor
namespace Go.Proofs.YtmdbmmmlccipdaaGreatDoor
open Go.Ab Go.Dt
set_option maxRecDepth 20000
set_option maxHeartbeats 4000000
end Go.Proofs.YtmdbmmmlccipdaaGreatDoor
namespace Go.Proofs.YtmdbmmmlccipdaaGreatDoor
open Go.Ab Go.Dt
set_option maxRecDepth 20000
set_option maxHeartbeats 4000000
instance eqTest_i (L : Nat → Nat) [hL : Lok L] (x : GTest) : Ctr L Tryz.prog 331 [] [.agg [.str x.fName, .str x.fValue], .agg [.str x.fName, .str x.fValue]] (.v (.bool true)) [] True := by
  refine Ctr.of_body en331 Tryz.func331 rfl rfl fun hp => (?_); rw [Tryz.ntmps331]
  all_goals exact uU
instance eqTestS_i (L : Nat → Nat) [hL : Lok L] (l : List GTest) : Ctr L Tryz.prog 316 [] [.sl false 2 (l.map (encTest false)), .sl false 2 (l.map (encTest false))] (.v (.bool true)) [] True := by
  refine Ctr.of_body en316 Tryz.func316 rfl rfl fun hp => (?_); rw [Tryz.ntmps316]
  refine AW.fact 0 fun hf => ?_
  simp (disch := omega) only [go_sem, Nat.reduceBEq] at hf
  have hf := Nat.le_trans hf (hL.le 2)
  (refine vU ?_; with_reducible repeat' first | exact Le.l | refine Sw ?_ ?_ | intro h)
  refine AW.loopV [5] [0, 1] (fun m xs o => ∃ k : Nat, xs = [.v (.int .i64 k)] ∧ o = [] ∧ m = l.length - k ∧ k ≤ l.length) l.length [] trivial ⟨0, ?_, rfl, rfl, ?_⟩ ?_
  · rfl
  · omega
  rintro m xs o ⟨k, rfl, rfl, rfl, hk⟩
  (refine vU ?_; with_reducible repeat' first | exact Le.l | refine Sw ?_ ?_ | intro h)
  exact ⟨_, [_], [], by omega, ⟨k + 1, rfl, rfl, rfl, by omega⟩, rfl, trivial⟩
instance szTest_i (L : Nat → Nat) [hL : Lok L] (x : GTest) (r : Int) : Ctr L Tryz.prog 329 [] [.agg [.str x.fName, .str x.fValue], .v (.int .i64 r)] (.v (.int .i64 (szTest x r))) [] (0 ≤ r ∧ r ≤ 1048576) := by
  refine Ctr.of_body en329 Tryz.func329 rfl rfl fun hp => (?_); rw [Tryz.ntmps329]
  refine AW.fact 0 fun hf => ?_
  simp (disch := omega) only [go_sem, Nat.reduceBEq] at hf
  unfold szTest
  ((refine vU ?_; with_reducible repeat' first | exact Le.l | refine Sw ?_ ?_ | intro h); all_goals simp only [thn, szStr, id]; all_goals refine congrArg (fun z => AV.v (.int .i64 z)) ?_; all_goals (repeat' split); all_goals omega)
instance szTestS_i (L : Nat → Nat) [hL : Lok L] (l : List GTest) (r : Int) : Ctr L Tryz.prog 314 [] [.sl false 2 (l.map (encTest false)), .v (.int .i64 r)] (.v (.int .i64 (szSl szTest l r))) [] (0 ≤ r ∧ r ≤ 1048576) := by
  refine Ctr.of_body en314 Tryz.func314 rfl rfl fun hp => (?_); rw [Tryz.ntmps314]
  refine AW.fact 0 fun hf => ?_
  simp (disch := omega) only [go_sem, Nat.reduceBEq] at hf
  have hf := Nat.le_trans hf (hL.le 2)
  (refine vU ?_; with_reducible repeat' first | exact Le.l | refine Sw ?_ ?_ | intro h)
  · rw [szSl_neg h]
  rw [szSl_pos h]
  refine AW.loopV [1, 5] [0] (fun m xs o => ∃ (k : Nat) (q : Int), xs = [.v (.int .i64 q), .v (.int .i64 k)] ∧ o = [] ∧ m = l.length - k ∧ k ≤ l.length ∧ 0 ≤ q ∧ q ≤ 1048576 ∧ szGo szTest (l.drop k) q = szGo szTest l (r - l.length)) l.length [] trivial ⟨0, _, ?_, rfl, rfl, ?_, ?_, ?_, rfl⟩ ?_
  · rfl
  · omega
  · omega
  · omega
  rintro m xs o ⟨k, q, rfl, rfl, rfl, hk, h0, h1, hR⟩
  have hle := szTest_le (at_ l k) q h0
  (refine vU ?_; with_reducible repeat' first | exact Le.l | refine Sw ?_ ?_ | intro h)
  · rw [szGo_at (by assumption), if_pos (by first | exact h | (rw [hsz]; exact h))] at hR; rw [hR]
  · rw [szGo_at (by assumption), if_neg (by omega)] at hR
    exact ⟨_, [_, _], [], by omega, ⟨k + 1, _, rfl, rfl, rfl, by omega, by omega, by omega, hR⟩, rfl, trivial⟩
  · rw [szGo_end h] at hR; rw [hR]
instance toTest_i (x : GTest) : Ctr lim Tryz.prog 330 [] [.agg [.str x.fName, .str x.fValue]] (.agg [.str x.fName, .str x.fValue]) [] True := by
  refine Ctr.of_body en330 Tryz.func330 rfl rfl fun hp => (?_); rw [Tryz.ntmps330]
  all_goals exact uU
instance toTestS_i (l : List GTest) : Ctr lim Tryz.prog 315 [] [.sl false 2 (l.map (encTest false))] (.sl true 2 (l.map (encTest true))) [] True := by
  refine Ctr.of_body en315 Tryz.func315 rfl rfl fun hp => (?_); rw [Tryz.ntmps315]
  refine AW.fact 0 fun hf => ?_
  simp (disch := omega) only [go_sem, Nat.reduceBEq] at hf
  (refine vU ?_; with_reducible repeat' first | exact Le.l | refine Sw ?_ ?_ | intro h)
  refine AW.loopV [4] [0, 3] (fun m xs o => ∃ k : Nat, xs = [.v (.int .i64 k)] ∧ o = [(h, some (mkC (encTest true) [.string ⟨#[]⟩, .string ⟨#[]⟩] l k))] ∧ m = l.length - k ∧ k ≤ l.length) l.length [(h, some (mkC (encTest true) [.string ⟨#[]⟩, .string ⟨#[]⟩] l 0))] (subO_one (mkC_zero _ _ _)) ⟨0, ?_, rfl, rfl, ?_⟩ ?_
  · rfl
  · omega
  rintro m xs o ⟨k, rfl, rfl, rfl, hk⟩
  have hml := mkC_len (encTest true) [.string ⟨#[]⟩, .string ⟨#[]⟩] 2 (fun _ => rfl) rfl l k hk
  (refine vX ?_; with_reducible repeat' first | exact Le.l | refine Sw ?_ ?_ | intro h)
  · exact ⟨_, [_], _, by omega, ⟨k + 1, rfl, rfl, rfl, by omega⟩, rfl, subO_one (by have := mkC_at (encTest true) [.string ⟨#[]⟩, .string ⟨#[]⟩] 2 (fun _ => rfl) rfl l k h; simp only [go_sem, Nat.mul_one] at this ⊢; exact this.symm)⟩
  · refine AW.made 2 rfl h hk (fun _ => rfl) ?_
    all_goals exact uU
instance eqStep_i (L : Nat → Nat) [hL : Lok L] (x : Dt.GStep) : Ctr L Tryz.prog 288 [] [.agg [.str x.fName, .sl false 2 (x.fTests.map (encTest false))], .agg [.str x.fName, .sl false 2 (x.fTests.map (encTest false))]] (.v (.bool true)) [] True := by
  refine Ctr.of_body en288 Tryz.func288 rfl rfl fun hp => (?_); rw [Tryz.ntmps288]
  all_goals exact uU
instance eqStepS_i (L : Nat → Nat) [hL : Lok L] (l : List Dt.GStep) : Ctr L Tryz.prog 257 [] [.sl false 2 (l.map (encStep false)), .sl false 2 (l.map (encStep false))] (.v (.bool true)) [] True := by
  refine Ctr.of_body en257 Tryz.func257 rfl rfl fun hp => (?_); rw [Tryz.ntmps257]
  refine AW.fact 0 fun hf => ?_
  simp (disch := omega) only [go_sem, Nat.reduceBEq] at hf
  have hf := Nat.le_trans hf (hL.le 2)
  (refine vU ?_; with_reducible repeat' first | exact Le.l | refine Sw ?_ ?_ | intro h)
  refine AW.loopV [5] [0, 1] (fun m xs o => ∃ k : Nat, xs = [.v (.int .i64 k)] ∧ o = [] ∧ m = l.length - k ∧ k ≤ l.length) l.length [] trivial ⟨0, ?_, rfl, rfl, ?_⟩ ?_
  · rfl
  · omega
  rintro m xs o ⟨k, rfl, rfl, rfl, hk⟩
  (refine vU ?_; with_reducible repeat' first | exact Le.l | refine Sw ?_ ?_ | intro h)
  exact ⟨_, [_], [], by omega, ⟨k + 1, rfl, rfl, rfl, by omega⟩, rfl, trivial⟩
instance szStep_i (L : Nat → Nat) [hL : Lok L] (x : Dt.GStep) (r : Int) : Ctr L Tryz.prog 286 [] [.agg [.str x.fName, .sl false 2 (x.fTests.map (encTest false))], .v (.int .i64 r)] (.v (.int .i64 (szStep x r))) [] (0 ≤ r ∧ r ≤ 1048576) := by
  refine Ctr.of_body en286 Tryz.func286 rfl rfl fun hp => (?_); rw [Tryz.ntmps286]
  refine AW.fact 0 fun hf => ?_
  simp (disch := omega) only [go_sem, Nat.reduceBEq] at hf
  have le1 := szSl_le szTest szTest_le x.fTests (r - x.fName.length)
  unfold szStep
  ((refine vU ?_; with_reducible repeat' first | exact Le.l | refine Sw ?_ ?_ | intro h); all_goals simp only [thn, szStr, id]; all_goals refine congrArg (fun z => AV.v (.int .i64 z)) ?_; all_goals (repeat' split); all_goals omega)
instance szStepS_i (L : Nat → Nat) [hL : Lok L] (l : List Dt.GStep) (r : Int) : Ctr L Tryz.prog 255 [] [.sl false 2 (l.map (encStep false)), .v (.int .i64 r)] (.v (.int .i64 (szSl szStep l r))) [] (0 ≤ r ∧ r ≤ 1048576) := by
  refine Ctr.of_body en255 Tryz.func255 rfl rfl fun hp => (?_); rw [Tryz.ntmps255]
  refine AW.fact 0 fun hf => ?_
  simp (disch := omega) only [go_sem, Nat.reduceBEq] at hf
  have hf := Nat.le_trans hf (hL.le 2)
  (refine vU ?_; with_reducible repeat' first | exact Le.l | refine Sw ?_ ?_ | intro h)
  · rw [szSl_neg h]
  rw [szSl_pos h]
  refine AW.loopV [1, 5] [0] (fun m xs o => ∃ (k : Nat) (q : Int), xs = [.v (.int .i64 q), .v (.int .i64 k)] ∧ o = [] ∧ m = l.length - k ∧ k ≤ l.length ∧ 0 ≤ q ∧ q ≤ 1048576 ∧ szGo szStep (l.drop k) q = szGo szStep l (r - l.length)) l.length [] trivial ⟨0, _, ?_, rfl, rfl, ?_, ?_, ?_, rfl⟩ ?_
  · rfl
  · omega
  · omega
  · omega
  rintro m xs o ⟨k, q, rfl, rfl, rfl, hk, h0, h1, hR⟩
  have hle := szStep_le (at_ l k) q h0
  (refine vU ?_; with_reducible repeat' first | exact Le.l | refine Sw ?_ ?_ | intro h)
  · rw [szGo_at (by assumption), if_pos (by first | exact h | (rw [hsz]; exact h))] at hR; rw [hR]
  · rw [szGo_at (by assumption), if_neg (by omega)] at hR
    exact ⟨_, [_, _], [], by omega, ⟨k + 1, _, rfl, rfl, rfl, by omega, by omega, by omega, hR⟩, rfl, trivial⟩
  · rw [szGo_end h] at hR; rw [hR]
instance toStep_i (x : Dt.GStep) : Ctr lim Tryz.prog 287 [] [.agg [.str x.fName, .sl false 2 (x.fTests.map (encTest false))]] (.agg [.str x.fName, .sl true 2 (x.fTests.map (encTest true))]) [] True := by
  refine Ctr.of_body en287 Tryz.func287 rfl rfl fun hp => (?_); rw [Tryz.ntmps287]
  all_goals exact uU
instance toStepS_i (l : List Dt.GStep) : Ctr lim Tryz.prog 256 [] [.sl false 2 (l.map (encStep false))] (.sl true 2 (l.map (encStep true))) [] True := by
  refine Ctr.of_body en256 Tryz.func256 rfl rfl fun hp => (?_); rw [Tryz.ntmps256]
  refine AW.fact 0 fun hf => ?_
  simp (disch := omega) only [go_sem, Nat.reduceBEq] at hf
  (refine vU ?_; with_reducible repeat' first | exact Le.l | refine Sw ?_ ?_ | intro h)
  refine AW.loopV [4] [0, 3] (fun m xs o => ∃ k : Nat, xs = [.v (.int .i64 k)] ∧ o = [(h, some (mkC (encStep true) [.string ⟨#[]⟩, .slice none 0 0] l k))] ∧ m = l.length - k ∧ k ≤ l.length) l.length [(h, some (mkC (encStep true) [.string ⟨#[]⟩, .slice none 0 0] l 0))] (subO_one (mkC_zero _ _ _)) ⟨0, ?_, rfl, rfl, ?_⟩ ?_
  · rfl
  · omega
  rintro m xs o ⟨k, rfl, rfl, rfl, hk⟩
  have hml := mkC_len (encStep true) [.string ⟨#[]⟩, .slice none 0 0] 2 (fun _ => rfl) rfl l k hk
  (refine vX ?_; with_reducible repeat' first | exact Le.l | refine Sw ?_ ?_ | intro h)
  · exact ⟨_, [_], _, by omega, ⟨k + 1, rfl, rfl, rfl, by omega⟩, rfl, subO_one (by have := mkC_at (encStep true) [.string ⟨#[]⟩, .slice none 0 0] 2 (fun _ => rfl) rfl l k h; simp only [go_sem, Nat.mul_one] at this ⊢; exact this.symm)⟩
  · refine AW.made 2 rfl h hk (fun _ => rfl) ?_
    all_goals exact uU
instance eqPath_i (L : Nat → Nat) [hL : Lok L] (x : GPath) : Ctr L Tryz.prog 218 [] [.agg [.v (.bool x.fRoot), .v (.int .i64 x.fUps), .sl false 2 (x.fSteps.map (encStep false))], .agg [.v (.bool x.fRoot), .v (.int .i64 x.fUps), .sl false 2 (x.fSteps.map (encStep false))]] (.v (.bool true)) [] True := by
  refine Ctr.of_body en218 Tryz.func218 rfl rfl fun hp => (?_); rw [Tryz.ntmps218]
  all_goals exact uU
instance szPath_i (L : Nat → Nat) [hL : Lok L] (x : GPath) (r : Int) : Ctr L Tryz.prog 214 [] [.agg [.v (.bool x.fRoot), .v (.int .i64 x.fUps), .sl false 2 (x.fSteps.map (encStep false))], .v (.int .i64 r)] (.v (.int .i64 (szPath x r))) [] (0 ≤ r ∧ r ≤ 1048576) := by
  refine Ctr.of_body en214 Tryz.func214 rfl rfl fun hp => (?_); rw [Tryz.ntmps214]
  refine AW.fact 0 fun hf => ?_
  simp (disch := omega) only [go_sem, Nat.reduceBEq] at hf
  have le0 := szSl_le szStep szStep_le x.fSteps r
  unfold szPath
  ((refine vU ?_; with_reducible repeat' first | exact Le.l | refine Sw ?_ ?_ | intro h); all_goals simp only [thn, szStr, id]; all_goals refine congrArg (fun z => AV.v (.int .i64 z)) ?_; all_goals (repeat' split); all_goals omega)
instance toPath_i (x : GPath) : Ctr lim Tryz.prog 216 [] [.agg [.v (.bool x.fRoot), .v (.int .i64 x.fUps), .sl false 2 (x.fSteps.map (encStep false))]] (.agg [.v (.bool x.fRoot), .v (.int .i64 x.fUps), .sl true 2 (x.fSteps.map (encStep true))]) [] True := by
  refine Ctr.of_body en216 Tryz.func216 rfl rfl fun hp => (?_); rw [Tryz.ntmps216]
  all_goals exact uU
theorem GExpr.kids_lt {x : GExpr} {l : List GExpr} (h : x ∈ l) : SizeOf.sizeOf x.fKids < SizeOf.sizeOf l := by
  have := List.sizeOf_lt_of_mem h
  cases x; simp [GExpr.fKids] at *; omega
theorem eqExpr_n (L : Nat → Nat) [hL : Lok L] (n : Nat) (ih : ∀ l : List GExpr, Ctr L Tryz.prog 125 [] [.sl false 7 (l.map (encExpr false)), .sl false 7 (l.map (encExpr false))] (.v (.bool true)) [] (SizeOf.sizeOf l < n)) (x : GExpr) : Ctr L Tryz.prog 174 [] [.agg [.v (.int .i64 x.fOp), .v (.int .i64 x.fNum), .str x.fText, .v (.bool x.fPath.fRoot), .v (.int .i64 x.fPath.fUps), .sl false 2 (x.fPath.fSteps.map (encStep false)), .sl false 7 (x.fKids.map (encExpr false))], .agg [.v (.int .i64 x.fOp), .v (.int .i64 x.fNum), .str x.fText, .v (.bool x.fPath.fRoot), .v (.int .i64 x.fPath.fUps), .sl false 2 (x.fPath.fSteps.map (encStep false)), .sl false 7 (x.fKids.map (encExpr false))]] (.v (.bool true)) [] (SizeOf.sizeOf x.fKids < n) := by
  refine Ctr.of_body en174 Tryz.func174 rfl rfl fun hp => (?_); rw [Tryz.ntmps174]
  all_goals exact uU
theorem eqExprS_n (L : Nat → Nat) [hL : Lok L] : ∀ (n : Nat) (l : List GExpr), Ctr L Tryz.prog 125 [] [.sl false 7 (l.map (encExpr false)), .sl false 7 (l.map (encExpr false))] (.v (.bool true)) [] (SizeOf.sizeOf l < n)
  | 0, l => ⟨en125, fun h => absurd h (Nat.not_lt_zero _)⟩
  | n + 1, l => by
    have hx := eqExpr_n L n (eqExprS_n L n)
    refine Ctr.of_body en125 Tryz.func125 rfl rfl fun hp => (?_); rw [Tryz.ntmps125]
    refine AW.fact 0 fun hf => ?_
    simp (disch := omega) only [go_sem, Nat.reduceBEq] at hf
    have hf := Nat.le_trans hf (hL.le 7)
    (refine vU ?_; with_reducible repeat' first | exact Le.l | refine Sw ?_ ?_ | intro h)
    refine AW.loopV [5] [0, 1] (fun m xs o => ∃ k : Nat, xs = [.v (.int .i64 k)] ∧ o = [] ∧ m = l.length - k ∧ k ≤ l.length) l.length [] trivial ⟨0, ?_, rfl, rfl, ?_⟩ ?_
    · rfl
    · omega
    rintro m xs o ⟨k, rfl, rfl, rfl, hk⟩
    have hkk : k < l.length → SizeOf.sizeOf (at_ l k).fKids < n := fun h => by have := GExpr.kids_lt (at_mem h); omega
    (refine vU ?_; with_reducible repeat' first | exact Le.l | refine Sw ?_ ?_ | intro h)
    exact ⟨_, [_], [], by omega, ⟨k + 1, rfl, rfl, rfl, by omega⟩, rfl, trivial⟩
instance eqExprS_i (L : Nat → Nat) [hL : Lok L] (l : List GExpr) : Ctr L Tryz.prog 125 [] [.sl false 7 (l.map (encExpr false)), .sl false 7 (l.map (encExpr false))] (.v (.bool true)) [] True := ⟨en125, fun _ => (eqExprS_n L (SizeOf.sizeOf l + 1) l).out (Nat.lt_succ_self _)⟩
theorem szExpr_n (L : Nat → Nat) [hL : Lok L] (n : Nat) (ih : ∀ (l : List GExpr) (r : Int), Ctr L Tryz.prog 120 [] [.sl false 7 (l.map (encExpr false)), .v (.int .i64 r)] (.v (.int .i64 (szSl szExpr l r))) [] (SizeOf.sizeOf l < n ∧ 0 ≤ r ∧ r ≤ 1048576)) (x : GExpr) (r : Int) : Ctr L Tryz.prog 170 [] [.agg [.v (.int .i64 x.fOp), .v (.int .i64 x.fNum), .str x.fText, .v (.bool x.fPath.fRoot), .v (.int .i64 x.fPath.fUps), .sl false 2 (x.fPath.fSteps.map (encStep false)), .sl false 7 (x.fKids.map (encExpr false))], .v (.int .i64 r)] (.v (.int .i64 (szExpr x r))) [] (SizeOf.sizeOf x.fKids < n ∧ 0 ≤ r ∧ r ≤ 1048576) := by
  refine Ctr.of_body en170 Tryz.func170 rfl rfl fun hp => (?_); rw [Tryz.ntmps170]
  refine AW.fact 0 fun hf => ?_
  simp (disch := omega) only [go_sem, Nat.reduceBEq] at hf
  have le1 := szPath_le x.fPath (r - x.fText.length)
  have le2 := szSl_le szExpr szExpr_le x.fKids (szPath x.fPath (r - x.fText.length))
  rw [szExpr_eq]
  ((refine vU ?_; with_reducible repeat' first | exact Le.l | refine Sw ?_ ?_ | intro h); all_goals simp only [thn, szStr, id]; all_goals refine congrArg (fun z => AV.v (.int .i64 z)) ?_; all_goals (repeat' split); all_goals omega)
theorem szExprS_n (L : Nat → Nat) [hL : Lok L] : ∀ (n : Nat) (l : List GExpr) (r : Int), Ctr L Tryz.prog 120 [] [.sl false 7 (l.map (encExpr false)), .v (.int .i64 r)] (.v (.int .i64 (szSl szExpr l r))) [] (SizeOf.sizeOf l < n ∧ 0 ≤ r ∧ r ≤ 1048576)
  | 0, l, r => ⟨en120, fun h => absurd h.1 (Nat.not_lt_zero _)⟩
  | n + 1, l, r => by
    have hx := szExpr_n L n (szExprS_n L n)
    refine Ctr.of_body en120 Tryz.func120 rfl rfl fun hp => (?_); rw [Tryz.ntmps120]
    refine AW.fact 0 fun hf => ?_
    simp (disch := omega) only [go_sem, Nat.reduceBEq] at hf
    have hf := Nat.le_trans hf (hL.le 7)
    (refine vU ?_; with_reducible repeat' first | exact Le.l | refine Sw ?_ ?_ | intro h)
    · rw [szSl_neg h]
    rw [szSl_pos h]
    refine AW.loopV [1, 5] [0] (fun m xs o => ∃ (k : Nat) (q : Int), xs = [.v (.int .i64 q), .v (.int .i64 k)] ∧ o = [] ∧ m = l.length - k ∧ k ≤ l.length ∧ 0 ≤ q ∧ q ≤ 1048576 ∧ szGo szExpr (l.drop k) q = szGo szExpr l (r - l.length)) l.length [] trivial ⟨0, _, ?_, rfl, rfl, ?_, ?_, ?_, rfl⟩ ?_
    · rfl
    · omega
    · omega
    · omega
    rintro m xs o ⟨k, q, rfl, rfl, rfl, hk, h0, h1, hR⟩
    have hle := szExpr_le (at_ l k) q h0
    have hkk : k < l.length → SizeOf.sizeOf (at_ l k).fKids < n := fun h => by have := GExpr.kids_lt (at_mem h); omega
    (refine vU ?_; with_reducible repeat' first | exact Le.l | refine Sw ?_ ?_ | intro h)
    · rw [szGo_at (by assumption), if_pos (by first | exact h | (rw [hsz]; exact h))] at hR; rw [hR]
    · rw [szGo_at (by assumption), if_neg (by omega)] at hR
      exact ⟨_, [_, _], [], by omega, ⟨k + 1, _, rfl, rfl, rfl, by omega, by omega, by omega, hR⟩, rfl, trivial⟩
    · rw [szGo_end h] at hR; rw [hR]
instance szExprS_i (L : Nat → Nat) [hL : Lok L] (l : List GExpr) (r : Int) : Ctr L Tryz.prog 120 [] [.sl false 7 (l.map (encExpr false)), .v (.int .i64 r)] (.v (.int .i64 (szSl szExpr l r))) [] (0 ≤ r ∧ r ≤ 1048576) := ⟨en120, fun h => (szExprS_n L (SizeOf.sizeOf l + 1) l r).out ⟨Nat.lt_succ_self _, h⟩⟩
theorem toExpr_n (n : Nat) (ih : ∀ l : List GExpr, Ctr lim Tryz.prog 123 [] [.sl false 7 (l.map (encExpr false))] (.sl true 7 (l.map (encExpr true))) [] (SizeOf.sizeOf l < n)) (x : GExpr) : Ctr lim Tryz.prog 172 [] [.agg [.v (.int .i64 x.fOp), .v (.int .i64 x.fNum), .str x.fText, .v (.bool x.fPath.fRoot), .v (.int .i64 x.fPath.fUps), .sl false 2 (x.fPath.fSteps.map (encStep false)), .sl false 7 (x.fKids.map (encExpr false))]] (.agg [.v (.int .i64 x.fOp), .v (.int .i64 x.fNum), .str x.fText, .v (.bool x.fPath.fRoot), .v (.int .i64 x.fPath.fUps), .sl true 2 (x.fPath.fSteps.map (encStep true)), .sl true 7 (x.fKids.map (encExpr true))]) [] (SizeOf.sizeOf x.fKids < n) := by
  refine Ctr.of_body en172 Tryz.func172 rfl rfl fun hp => (?_); rw [Tryz.ntmps172]
  all_goals exact uU
theorem toExprS_n : ∀ (n : Nat) (l : List GExpr), Ctr lim Tryz.prog 123 [] [.sl false 7 (l.map (encExpr false))] (.sl true 7 (l.map (encExpr true))) [] (SizeOf.sizeOf l < n)
  | 0, l => ⟨en123, fun h => absurd h (Nat.not_lt_zero _)⟩
  | n + 1, l => by
    have hx := toExpr_n n (toExprS_n n)
    refine Ctr.of_body en123 Tryz.func123 rfl rfl fun hp => (?_); rw [Tryz.ntmps123]
    refine AW.fact 0 fun hf => ?_
    simp (disch := omega) only [go_sem, Nat.reduceBEq] at hf
    (refine vU ?_; with_reducible repeat' first | exact Le.l | refine Sw ?_ ?_ | intro h)
    refine AW.loopV [4] [0, 3] (fun m xs o => ∃ k : Nat, xs = [.v (.int .i64 k)] ∧ o = [(h, some (mkC (encExpr true) [.int .i64 0, .int .i64 0, .string ⟨#[]⟩, .bool false, .int .i64 0, .slice none 0 0, .slice none 0 0] l k))] ∧ m = l.length - k ∧ k ≤ l.length) l.length [(h, some (mkC (encExpr true) [.int .i64 0, .int .i64 0, .string ⟨#[]⟩, .bool false, .int .i64 0, .slice none 0 0, .slice none 0 0] l 0))] (subO_one (mkC_zero _ _ _)) ⟨0, ?_, rfl, rfl, ?_⟩ ?_
    · rfl
    · omega
    rintro m xs o ⟨k, rfl, rfl, rfl, hk⟩
    have hml := mkC_len (encExpr true) [.int .i64 0, .int .i64 0, .string ⟨#[]⟩, .bool false, .int .i64 0, .slice none 0 0, .slice none 0 0] 7 (fun x => by rw [encExpr_eq]; rfl) rfl l k hk
    have hkk : k < l.length → SizeOf.sizeOf (at_ l k).fKids < n := fun h => by have := GExpr.kids_lt (at_mem h); omega
    (refine vX ?_; with_reducible repeat' first | exact Le.l | refine Sw ?_ ?_ | intro h)
    · exact ⟨_, [_], _, by omega, ⟨k + 1, rfl, rfl, rfl, by omega⟩, rfl, subO_one (by have := mkC_at (encExpr true) [.int .i64 0, .int .i64 0, .string ⟨#[]⟩, .bool false, .int .i64 0, .slice none 0 0, .slice none 0 0] 7 (fun x => by rw [encExpr_eq]; rfl) rfl l k h; simp only [go_sem, Nat.mul_one] at this ⊢; exact this.symm)⟩
    · refine AW.made 2 rfl h hk (fun x => by rw [encExpr_eq]; rfl) ?_
      all_goals exact uU
instance toExprS_i (l : List GExpr) : Ctr lim Tryz.prog 123 [] [.sl false 7 (l.map (encExpr false))] (.sl true 7 (l.map (encExpr true))) [] True := ⟨en123, fun _ => (toExprS_n (SizeOf.sizeOf l + 1) l).out (Nat.lt_succ_self _)⟩
theorem GSchema.kids_lt {x : GSchema} {l : List GSchema} (h : x ∈ l) : SizeOf.sizeOf x.fKids < SizeOf.sizeOf l := by
  have := List.sizeOf_lt_of_mem h
  cases x; simp [GSchema.fKids] at *; omega
theorem eqSchema_n (L : Nat → Nat) [hL : Lok L] (n : Nat) (ih : ∀ l : List GSchema, Ctr L Tryz.prog 23 [] [.sl false 19 (l.map (encSchema false)), .sl false 19 (l.map (encSchema false))] (.v (.bool true)) [] (SizeOf.sizeOf l < n)) (x : GSchema) : Ctr L Tryz.prog 67 [] [.agg [.v (.int .i64 x.fKind), .str x.fName, .v (.int .i64 x.fType.fKind), .sl false 2 (x.fType.fRanges.map (encRange false)), .sl false 1 (x.fType.fNames.map AV.str), .str x.fType.fPattern, .str x.fType.fPath, .sl false 1 (x.fKeys.map AV.str), .sl false 1 (x.fUnique.map AV.str), .str x.fDefault, .v (.bool x.fGiven), .v (.bool x.fNeeded), .v (.bool x.fPresent), .v (.bool x.fFixed), .v (.int .i64 x.fMin), .v (.int .i64 x.fMax), .sl false 7 (x.fWhen.map (encExpr false)), .sl false 7 (x.fMust.map (encExpr false)), .sl false 19 (x.fKids.map (encSchema false))], .agg [.v (.int .i64 x.fKind), .str x.fName, .v (.int .i64 x.fType.fKind), .sl false 2 (x.fType.fRanges.map (encRange false)), .sl false 1 (x.fType.fNames.map AV.str), .str x.fType.fPattern, .str x.fType.fPath, .sl false 1 (x.fKeys.map AV.str), .sl false 1 (x.fUnique.map AV.str), .str x.fDefault, .v (.bool x.fGiven), .v (.bool x.fNeeded), .v (.bool x.fPresent), .v (.bool x.fFixed), .v (.int .i64 x.fMin), .v (.int .i64 x.fMax), .sl false 7 (x.fWhen.map (encExpr false)), .sl false 7 (x.fMust.map (encExpr false)), .sl false 19 (x.fKids.map (encSchema false))]] (.v (.bool true)) [] (SizeOf.sizeOf x.fKids < n) := by
  refine Ctr.of_body en67 Tryz.func67 rfl rfl fun hp => (?_); rw [Tryz.ntmps67]
  all_goals exact uU
theorem eqSchemaS_n (L : Nat → Nat) [hL : Lok L] : ∀ (n : Nat) (l : List GSchema), Ctr L Tryz.prog 23 [] [.sl false 19 (l.map (encSchema false)), .sl false 19 (l.map (encSchema false))] (.v (.bool true)) [] (SizeOf.sizeOf l < n)
  | 0, l => ⟨en23, fun h => absurd h (Nat.not_lt_zero _)⟩
  | n + 1, l => by
    have hx := eqSchema_n L n (eqSchemaS_n L n)
    refine Ctr.of_body en23 Tryz.func23 rfl rfl fun hp => (?_); rw [Tryz.ntmps23]
    refine AW.fact 0 fun hf => ?_
    simp (disch := omega) only [go_sem, Nat.reduceBEq] at hf
    have hf := Nat.le_trans hf (hL.le 19)
    (refine vU ?_; with_reducible repeat' first | exact Le.l | refine Sw ?_ ?_ | intro h)
    refine AW.loopV [5] [0, 1] (fun m xs o => ∃ k : Nat, xs = [.v (.int .i64 k)] ∧ o = [] ∧ m = l.length - k ∧ k ≤ l.length) l.length [] trivial ⟨0, ?_, rfl, rfl, ?_⟩ ?_
    · rfl
    · omega
    rintro m xs o ⟨k, rfl, rfl, rfl, hk⟩
    have hkk : k < l.length → SizeOf.sizeOf (at_ l k).fKids < n := fun h => by have := GSchema.kids_lt (at_mem h); omega
    (refine vU ?_; with_reducible repeat' first | exact Le.l | refine Sw ?_ ?_ | intro h)
    exact ⟨_, [_], [], by omega, ⟨k + 1, rfl, rfl, rfl, by omega⟩, rfl, trivial⟩
instance eqSchemaS_i (L : Nat → Nat) [hL : Lok L] (l : List GSchema) : Ctr L Tryz.prog 23 [] [.sl false 19 (l.map (encSchema false)), .sl false 19 (l.map (encSchema false))] (.v (.bool true)) [] True := ⟨en23, fun _ => (eqSchemaS_n L (SizeOf.sizeOf l + 1) l).out (Nat.lt_succ_self _)⟩
theorem szSchema_n (L : Nat → Nat) [hL : Lok L] (n : Nat) (ih : ∀ (l : List GSchema) (r : Int), Ctr L Tryz.prog 15 [] [.sl false 19 (l.map (encSchema false)), .v (.int .i64 r)] (.v (.int .i64 (szSl szSchema l r))) [] (SizeOf.sizeOf l < n ∧ 0 ≤ r ∧ r ≤ 1048576)) (x : GSchema) (r : Int) : Ctr L Tryz.prog 61 [] [.agg [.v (.int .i64 x.fKind), .str x.fName, .v (.int .i64 x.fType.fKind), .sl false 2 (x.fType.fRanges.map (encRange false)), .sl false 1 (x.fType.fNames.map AV.str), .str x.fType.fPattern, .str x.fType.fPath, .sl false 1 (x.fKeys.map AV.str), .sl false 1 (x.fUnique.map AV.str), .str x.fDefault, .v (.bool x.fGiven), .v (.bool x.fNeeded), .v (.bool x.fPresent), .v (.bool x.fFixed), .v (.int .i64 x.fMin), .v (.int .i64 x.fMax), .sl false 7 (x.fWhen.map (encExpr false)), .sl false 7 (x.fMust.map (encExpr false)), .sl false 19 (x.fKids.map (encSchema false))], .v (.int .i64 r)] (.v (.int .i64 (szSchema x r))) [] (SizeOf.sizeOf x.fKids < n ∧ 0 ≤ r ∧ r ≤ 1048576) := by
  refine Ctr.of_body en61 Tryz.func61 rfl rfl fun hp => (?_); rw [Tryz.ntmps61]
  refine AW.fact 0 fun hf => ?_
  simp (disch := omega) only [go_sem, Nat.reduceBEq] at hf
  have le1 := szType_le x.fType (r - x.fName.length)
  have le2 := szSl_le szStr szStr_le x.fKeys (szType x.fType (r - x.fName.length))
  have le3 := szSl_le szStr szStr_le x.fUnique (szSl szStr x.fKeys (szType x.fType (r - x.fName.length)))
  have le5 := szSl_le szExpr szExpr_le x.fWhen ((szSl szStr x.fUnique (szSl szStr x.fKeys (szType x.fType (r - x.fName.length)))) - x.fDefault.length)
  have le6 := szSl_le szExpr szExpr_le x.fMust (szSl szExpr x.fWhen ((szSl szStr x.fUnique (szSl szStr x.fKeys (szType x.fType (r - x.fName.length)))) - x.fDefault.length))
  have le7 := szSl_le szSchema szSchema_le x.fKids (szSl szExpr x.fMust (szSl szExpr x.fWhen ((szSl szStr x.fUnique (szSl szStr x.fKeys (szType x.fType (r - x.fName.length)))) - x.fDefault.length)))
  rw [szSchema_eq]
  ((refine vU ?_; with_reducible repeat' first | exact Le.l | refine Sw ?_ ?_ | intro h); all_goals simp only [thn, szStr, id]; all_goals refine congrArg (fun z => AV.v (.int .i64 z)) ?_; all_goals (repeat' split); all_goals omega)
theorem szSchemaS_n (L : Nat → Nat) [hL : Lok L] : ∀ (n : Nat) (l : List GSchema) (r : Int), Ctr L Tryz.prog 15 [] [.sl false 19 (l.map (encSchema false)), .v (.int .i64 r)] (.v (.int .i64 (szSl szSchema l r))) [] (SizeOf.sizeOf l < n ∧ 0 ≤ r ∧ r ≤ 1048576)
  | 0, l, r => ⟨en15, fun h => absurd h.1 (Nat.not_lt_zero _)⟩
  | n + 1, l, r => by
    have hx := szSchema_n L n (szSchemaS_n L n)
    refine Ctr.of_body en15 Tryz.func15 rfl rfl fun hp => (?_); rw [Tryz.ntmps15]
    refine AW.fact 0 fun hf => ?_
    simp (disch := omega) only [go_sem, Nat.reduceBEq] at hf
    have hf := Nat.le_trans hf (hL.le 19)
    (refine vU ?_; with_reducible repeat' first | exact Le.l | refine Sw ?_ ?_ | intro h)
    · rw [szSl_neg h]
    rw [szSl_pos h]
    refine AW.loopV [1, 5] [0] (fun m xs o => ∃ (k : Nat) (q : Int), xs = [.v (.int .i64 q), .v (.int .i64 k)] ∧ o = [] ∧ m = l.length - k ∧ k ≤ l.length ∧ 0 ≤ q ∧ q ≤ 1048576 ∧ szGo szSchema (l.drop k) q = szGo szSchema l (r - l.length)) l.length [] trivial ⟨0, _, ?_, rfl, rfl, ?_, ?_, ?_, rfl⟩ ?_
    · rfl
    · omega
    · omega
    · omega
    rintro m xs o ⟨k, q, rfl, rfl, rfl, hk, h0, h1, hR⟩
    have hle := szSchema_le (at_ l k) q h0
    have hkk : k < l.length → SizeOf.sizeOf (at_ l k).fKids < n := fun h => by have := GSchema.kids_lt (at_mem h); omega
    (refine vU ?_; with_reducible repeat' first | exact Le.l | refine Sw ?_ ?_ | intro h)
    · rw [szGo_at (by assumption), if_pos (by first | exact h | (rw [hsz]; exact h))] at hR; rw [hR]
    · rw [szGo_at (by assumption), if_neg (by omega)] at hR
      exact ⟨_, [_, _], [], by omega, ⟨k + 1, _, rfl, rfl, rfl, by omega, by omega, by omega, hR⟩, rfl, trivial⟩
    · rw [szGo_end h] at hR; rw [hR]
instance szSchemaS_i (L : Nat → Nat) [hL : Lok L] (l : List GSchema) (r : Int) : Ctr L Tryz.prog 15 [] [.sl false 19 (l.map (encSchema false)), .v (.int .i64 r)] (.v (.int .i64 (szSl szSchema l r))) [] (0 ≤ r ∧ r ≤ 1048576) := ⟨en15, fun h => (szSchemaS_n L (SizeOf.sizeOf l + 1) l r).out ⟨Nat.lt_succ_self _, h⟩⟩
theorem toSchema_n (n : Nat) (ih : ∀ l : List GSchema, Ctr lim Tryz.prog 19 [] [.sl false 19 (l.map (encSchema false))] (.sl true 19 (l.map (encSchema true))) [] (SizeOf.sizeOf l < n)) (x : GSchema) : Ctr lim Tryz.prog 64 [] [.agg [.v (.int .i64 x.fKind), .str x.fName, .v (.int .i64 x.fType.fKind), .sl false 2 (x.fType.fRanges.map (encRange false)), .sl false 1 (x.fType.fNames.map AV.str), .str x.fType.fPattern, .str x.fType.fPath, .sl false 1 (x.fKeys.map AV.str), .sl false 1 (x.fUnique.map AV.str), .str x.fDefault, .v (.bool x.fGiven), .v (.bool x.fNeeded), .v (.bool x.fPresent), .v (.bool x.fFixed), .v (.int .i64 x.fMin), .v (.int .i64 x.fMax), .sl false 7 (x.fWhen.map (encExpr false)), .sl false 7 (x.fMust.map (encExpr false)), .sl false 19 (x.fKids.map (encSchema false))]] (.agg [.v (.int .i64 x.fKind), .str x.fName, .v (.int .i64 x.fType.fKind), .sl true 2 (x.fType.fRanges.map (encRange true)), .sl true 1 (x.fType.fNames.map AV.str), .str x.fType.fPattern, .str x.fType.fPath, .sl true 1 (x.fKeys.map AV.str), .sl true 1 (x.fUnique.map AV.str), .str x.fDefault, .v (.bool x.fGiven), .v (.bool x.fNeeded), .v (.bool x.fPresent), .v (.bool x.fFixed), .v (.int .i64 x.fMin), .v (.int .i64 x.fMax), .sl true 7 (x.fWhen.map (encExpr true)), .sl true 7 (x.fMust.map (encExpr true)), .sl true 19 (x.fKids.map (encSchema true))]) [] (SizeOf.sizeOf x.fKids < n) := by
  refine Ctr.of_body en64 Tryz.func64 rfl rfl fun hp => (?_); rw [Tryz.ntmps64]
  all_goals exact uU
theorem toSchemaS_n : ∀ (n : Nat) (l : List GSchema), Ctr lim Tryz.prog 19 [] [.sl false 19 (l.map (encSchema false))] (.sl true 19 (l.map (encSchema true))) [] (SizeOf.sizeOf l < n)
  | 0, l => ⟨en19, fun h => absurd h (Nat.not_lt_zero _)⟩
  | n + 1, l => by
    have hx := toSchema_n n (toSchemaS_n n)
    refine Ctr.of_body en19 Tryz.func19 rfl rfl fun hp => (?_); rw [Tryz.ntmps19]
    refine AW.fact 0 fun hf => ?_
    simp (disch := omega) only [go_sem, Nat.reduceBEq] at hf
    (refine vU ?_; with_reducible repeat' first | exact Le.l | refine Sw ?_ ?_ | intro h)
    refine AW.loopV [4] [0, 3] (fun m xs o => ∃ k : Nat, xs = [.v (.int .i64 k)] ∧ o = [(h, some (mkC (encSchema true) [.int .i64 0, .string ⟨#[]⟩, .int .i64 0, .slice none 0 0, .slice none 0 0, .string ⟨#[]⟩, .string ⟨#[]⟩, .slice none 0 0, .slice none 0 0, .string ⟨#[]⟩, .bool false, .bool false, .bool false, .bool false, .int .i64 0, .int .i64 0, .slice none 0 0, .slice none 0 0, .slice none 0 0] l k))] ∧ m = l.length - k ∧ k ≤ l.length) l.length [(h, some (mkC (encSchema true) [.int .i64 0, .string ⟨#[]⟩, .int .i64 0, .slice none 0 0, .slice none 0 0, .string ⟨#[]⟩, .string ⟨#[]⟩, .slice none 0 0, .slice none 0 0, .string ⟨#[]⟩, .bool false, .bool false, .bool false, .bool false, .int .i64 0, .int .i64 0, .slice none 0 0, .slice none 0 0, .slice none 0 0] l 0))] (subO_one (mkC_zero _ _ _)) ⟨0, ?_, rfl, rfl, ?_⟩ ?_
    · rfl
    · omega
    rintro m xs o ⟨k, rfl, rfl, rfl, hk⟩
    have hml := mkC_len (encSchema true) [.int .i64 0, .string ⟨#[]⟩, .int .i64 0, .slice none 0 0, .slice none 0 0, .string ⟨#[]⟩, .string ⟨#[]⟩, .slice none 0 0, .slice none 0 0, .string ⟨#[]⟩, .bool false, .bool false, .bool false, .bool false, .int .i64 0, .int .i64 0, .slice none 0 0, .slice none 0 0, .slice none 0 0] 19 (fun x => by rw [encSchema_eq]; rfl) rfl l k hk
    have hkk : k < l.length → SizeOf.sizeOf (at_ l k).fKids < n := fun h => by have := GSchema.kids_lt (at_mem h); omega
    (refine vX ?_; with_reducible repeat' first | exact Le.l | refine Sw ?_ ?_ | intro h)
    · exact ⟨_, [_], _, by omega, ⟨k + 1, rfl, rfl, rfl, by omega⟩, rfl, subO_one (by have := mkC_at (encSchema true) [.int .i64 0, .string ⟨#[]⟩, .int .i64 0, .slice none 0 0, .slice none 0 0, .string ⟨#[]⟩, .string ⟨#[]⟩, .slice none 0 0, .slice none 0 0, .string ⟨#[]⟩, .bool false, .bool false, .bool false, .bool false, .int .i64 0, .int .i64 0, .slice none 0 0, .slice none 0 0, .slice none 0 0] 19 (fun x => by rw [encSchema_eq]; rfl) rfl l k h; simp only [go_sem, Nat.mul_one] at this ⊢; exact this.symm)⟩
    · refine AW.made 2 rfl h hk (fun x => by rw [encSchema_eq]; rfl) ?_
      all_goals exact uU
instance toSchemaS_i (l : List GSchema) : Ctr lim Tryz.prog 19 [] [.sl false 19 (l.map (encSchema false))] (.sl true 19 (l.map (encSchema true))) [] True := ⟨en19, fun _ => (toSchemaS_n (SizeOf.sizeOf l + 1) l).out (Nat.lt_succ_self _)⟩
end Go.Proofs.YtmdbmmmlccipdaaGreatDoor
