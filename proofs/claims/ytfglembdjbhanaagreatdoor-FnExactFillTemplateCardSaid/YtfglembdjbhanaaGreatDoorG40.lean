/-
  Part of a proof: Fam7.
-/
import Derived.Test.YtfglembdjbhanaaGreatDoorG38
set_option linter.unusedSimpArgs false
set_option linter.unusedVariables false
namespace Go.Proofs.YtfglembdjbhanaaGreatDoor
open Go.Ab Go.Dt
set_option maxRecDepth 20000
set_option maxHeartbeats 4000000
instance eqArg_i (L : Nat → Nat) [hL : Lok L] (x : GArg) : Ctr L Tryz.prog 67 [] [.agg [.str x.fName, .str x.fValue], .agg [.str x.fName, .str x.fValue]] (.v (.bool true)) [] True := by
  refine Ctr.of_body en67 Tryz.func67 rfl rfl fun hp => (?_); rw [Tryz.ntmps67]
  all_goals exact uU
instance eqArgS_i (L : Nat → Nat) [hL : Lok L] (l : List GArg) : Ctr L Tryz.prog 21 [] [.sl false 2 (l.map (encArg false)), .sl false 2 (l.map (encArg false))] (.v (.bool true)) [] True := by
  refine Ctr.of_body en21 Tryz.func21 rfl rfl fun hp => (?_); rw [Tryz.ntmps21]
  refine AW.fact 0 fun hf => ?_
  simp (disch := omega) only [go_sem, Nat.reduceBEq] at hf
  have hf := Nat.le_trans hf (hL.le 2)
  (refine vU ?_; with_reducible repeat' first | exact Le.l | refine Sw ?_ ?_ | intro h)
  refine AW.loopV [5] [0, 1] (fun m xs o => ∃ k : Nat, xs = [.v (.int .i64 k)] ∧ o = [] ∧ m = l.length - k ∧ k ≤ l.length) l.length [] trivial ⟨0, ?_, rfl, rfl, ?_⟩ ?_
  · rfl
  · omega
  rintro m xs o ⟨k, rfl, rfl, rfl, hk⟩
  (refine vU ?_; with_reducible repeat' first | exact Le.l | refine Sw ?_ ?_ | intro h)
  exact ⟨_, [_], [], by omega, ⟨k + 1, rfl, rfl, rfl, by omega⟩, rfl, trivial⟩
instance szArg_i (L : Nat → Nat) [hL : Lok L] (x : GArg) (r : Int) : Ctr L Tryz.prog 59 [] [.agg [.str x.fName, .str x.fValue], .v (.int .i64 r)] (.v (.int .i64 (szArg x r))) [] (0 ≤ r ∧ r ≤ 1048576) := by
  refine Ctr.of_body en59 Tryz.func59 rfl rfl fun hp => (?_); rw [Tryz.ntmps59]
  refine AW.fact 0 fun hf => ?_
  simp (disch := omega) only [go_sem, Nat.reduceBEq] at hf
  unfold szArg
  ((refine vU ?_; with_reducible repeat' first | exact Le.l | refine Sw ?_ ?_ | intro h); all_goals simp only [thn, szStr, id]; all_goals refine congrArg (fun z => AV.v (.int .i64 z)) ?_; all_goals (repeat' split); all_goals omega)
instance szArgS_i (L : Nat → Nat) [hL : Lok L] (l : List GArg) (r : Int) : Ctr L Tryz.prog 15 [] [.sl false 2 (l.map (encArg false)), .v (.int .i64 r)] (.v (.int .i64 (szSl szArg l r))) [] (0 ≤ r ∧ r ≤ 1048576) := by
  refine Ctr.of_body en15 Tryz.func15 rfl rfl fun hp => (?_); rw [Tryz.ntmps15]
  refine AW.fact 0 fun hf => ?_
  simp (disch := omega) only [go_sem, Nat.reduceBEq] at hf
  have hf := Nat.le_trans hf (hL.le 2)
  (refine vU ?_; with_reducible repeat' first | exact Le.l | refine Sw ?_ ?_ | intro h)
  · rw [szSl_neg h]
  rw [szSl_pos h]
  refine AW.loopV [1, 5] [0] (fun m xs o => ∃ (k : Nat) (q : Int), xs = [.v (.int .i64 q), .v (.int .i64 k)] ∧ o = [] ∧ m = l.length - k ∧ k ≤ l.length ∧ 0 ≤ q ∧ q ≤ 1048576 ∧ szGo szArg (l.drop k) q = szGo szArg l (r - l.length)) l.length [] trivial ⟨0, _, ?_, rfl, rfl, ?_, ?_, ?_, rfl⟩ ?_
  · rfl
  · omega
  · omega
  · omega
  rintro m xs o ⟨k, q, rfl, rfl, rfl, hk, h0, h1, hR⟩
  have hle := szArg_le (at_ l k) q h0
  (refine vU ?_; with_reducible repeat' first | exact Le.l | refine Sw ?_ ?_ | intro h)
  · rw [szGo_at (by assumption), if_pos (by first | exact h | (rw [hsz]; exact h))] at hR; rw [hR]
  · rw [szGo_at (by assumption), if_neg (by omega)] at hR
    exact ⟨_, [_, _], [], by omega, ⟨k + 1, _, rfl, rfl, rfl, by omega, by omega, by omega, hR⟩, rfl, trivial⟩
  · rw [szGo_end h] at hR; rw [hR]
instance toArg_i (x : GArg) : Ctr lim Tryz.prog 64 [] [.agg [.str x.fName, .str x.fValue]] (.agg [.str x.fName, .str x.fValue]) [] True := by
  refine Ctr.of_body en64 Tryz.func64 rfl rfl fun hp => (?_); rw [Tryz.ntmps64]
  all_goals exact uU
instance toArgS_i (l : List GArg) : Ctr lim Tryz.prog 18 [] [.sl false 2 (l.map (encArg false))] (.sl true 2 (l.map (encArg true))) [] True := by
  refine Ctr.of_body en18 Tryz.func18 rfl rfl fun hp => (?_); rw [Tryz.ntmps18]
  refine AW.fact 0 fun hf => ?_
  simp (disch := omega) only [go_sem, Nat.reduceBEq] at hf
  (refine vU ?_; with_reducible repeat' first | exact Le.l | refine Sw ?_ ?_ | intro h)
  refine AW.loopV [4] [0, 3] (fun m xs o => ∃ k : Nat, xs = [.v (.int .i64 k)] ∧ o = [(h, some (mkC (encArg true) [.string ⟨#[]⟩, .string ⟨#[]⟩] l k))] ∧ m = l.length - k ∧ k ≤ l.length) l.length [(h, some (mkC (encArg true) [.string ⟨#[]⟩, .string ⟨#[]⟩] l 0))] (subO_one (mkC_zero _ _ _)) ⟨0, ?_, rfl, rfl, ?_⟩ ?_
  · rfl
  · omega
  rintro m xs o ⟨k, rfl, rfl, rfl, hk⟩
  have hml := mkC_len (encArg true) [.string ⟨#[]⟩, .string ⟨#[]⟩] 2 (fun _ => rfl) rfl l k hk
  (refine vX ?_; with_reducible repeat' first | exact Le.l | refine Sw ?_ ?_ | intro h)
  · exact ⟨_, [_], _, by omega, ⟨k + 1, rfl, rfl, rfl, by omega⟩, rfl, subO_one (by have := mkC_at (encArg true) [.string ⟨#[]⟩, .string ⟨#[]⟩] 2 (fun _ => rfl) rfl l k h; simp only [go_sem, Nat.mul_one] at this ⊢; exact this.symm)⟩
  · refine AW.made 2 rfl h hk (fun _ => rfl) ?_
    all_goals exact uU
end Go.Proofs.YtfglembdjbhanaaGreatDoor
