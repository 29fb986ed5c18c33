/-
  Part of a proof: Fam7, FamA.
-/
import Derived.Test.YtkdchlggdcmkbaaGreatG15
set_option linter.unusedSimpArgs false
set_option linter.unusedVariables false
namespace Go.Proofs.YtkdchlggdcmkbaaGreat
open Go.Ab Go.Dt
set_option maxRecDepth 20000
set_option maxHeartbeats 4000000
instance eqArg_i (L : Nat → Nat) [hL : Lok L] (x : GArg) : Ctr L Tryz.prog 141 [] [.agg [.str x.fName, .str x.fValue], .agg [.str x.fName, .str x.fValue]] (.v (.bool true)) [] True := by
  refine Ctr.of_body en141 Tryz.func141 rfl rfl fun hp => (?_); rw [Tryz.ntmps141]
  all_goals exact uU
instance eqArgS_i (L : Nat → Nat) [hL : Lok L] (l : List GArg) : Ctr L Tryz.prog 84 [] [.sl false 2 (l.map (encArg false)), .sl false 2 (l.map (encArg false))] (.v (.bool true)) [] True := by
  refine Ctr.of_body en84 Tryz.func84 rfl rfl fun hp => (?_); rw [Tryz.ntmps84]
  refine AW.fact 0 fun hf => ?_
  simp (disch := omega) only [go_sem, Nat.reduceBEq] at hf
  have hf := Nat.le_trans hf (hL.le 2)
  (repeat' first | (with_reducible first | refine Z ?_ | refine Y ?_ | (refine hK _ _ ?_; clear hK K) | refine And.intro ?_ ?_ | exact Ct | intro (K : _ → _ → Prop) hK | (refine gI fun hg => ?_; try simp only [hC, reduceCtorEq] at hg; try simp only [hg])) | (refine AW.i rfl (fun h => ?_) (fun h => ?_) <;> try simp only [hC, reduceCtorEq] at h) | ((with_reducible refine E ?_; repeat refine Y ?_); refine eF rfl ?_) | simp (disch := omega) only [go_sem] | (with_reducible intro hg; try simp only [hC, reduceCtorEq] at hg) | exact Cl | fail)
  refine AW.loopV [5] [0, 1] (fun m xs o => ∃ k : Nat, xs = [.v (.int .i64 k)] ∧ o = [] ∧ m = l.length - k ∧ k ≤ l.length) l.length [] trivial ⟨0, ?_, rfl, rfl, ?_⟩ ?_
  · rfl
  · omega
  rintro m xs o ⟨k, rfl, rfl, rfl, hk⟩
  (repeat' first | (with_reducible first | refine Z ?_ | refine Y ?_ | (refine hK _ _ ?_; clear hK K) | refine And.intro ?_ ?_ | exact Ct | intro (K : _ → _ → Prop) hK | (refine gI fun hg => ?_; try simp only [hC, reduceCtorEq] at hg; try simp only [hg])) | (refine AW.i rfl (fun h => ?_) (fun h => ?_) <;> try simp only [hC, reduceCtorEq] at h) | ((with_reducible refine E ?_; repeat refine Y ?_); refine eF rfl ?_) | simp (disch := omega) only [go_sem] | (with_reducible intro hg; try simp only [hC, reduceCtorEq] at hg) | exact Cl | fail)
  exact ⟨_, [_], [], by omega, ⟨k + 1, rfl, rfl, rfl, by omega⟩, rfl, trivial⟩
instance szArg_i (L : Nat → Nat) [hL : Lok L] (x : GArg) (r : Int) : Ctr L Tryz.prog 135 [] [.agg [.str x.fName, .str x.fValue], .v (.int .i64 r)] (.v (.int .i64 (szArg x r))) [] (0 ≤ r ∧ r ≤ 1048576) := by
  refine Ctr.of_body en135 Tryz.func135 rfl rfl fun hp => (?_); rw [Tryz.ntmps135]
  refine AW.fact 0 fun hf => ?_
  simp (disch := omega) only [go_sem, Nat.reduceBEq] at hf
  unfold szArg
  ((repeat' first | (with_reducible first | refine Z ?_ | refine Y ?_ | (refine hK _ _ ?_; clear hK K) | refine And.intro ?_ ?_ | exact Ct | intro (K : _ → _ → Prop) hK | (refine gI fun hg => ?_; try simp only [hC, reduceCtorEq] at hg; try simp only [hg])) | (refine AW.i rfl (fun h => ?_) (fun h => ?_) <;> try simp only [hC, reduceCtorEq] at h) | ((with_reducible refine E ?_; repeat refine Y ?_); refine eF rfl ?_) | simp (disch := omega) only [go_sem] | (with_reducible intro hg; try simp only [hC, reduceCtorEq] at hg) | exact Cl | fail); all_goals simp only [thn, szStr, id]; all_goals refine congrArg (fun z => AV.v (.int .i64 z)) ?_; all_goals (repeat' split); all_goals omega)
instance szArgS_i (L : Nat → Nat) [hL : Lok L] (l : List GArg) (r : Int) : Ctr L Tryz.prog 73 [] [.sl false 2 (l.map (encArg false)), .v (.int .i64 r)] (.v (.int .i64 (szSl szArg l r))) [] (0 ≤ r ∧ r ≤ 1048576) := by
  refine Ctr.of_body en73 Tryz.func73 rfl rfl fun hp => (?_); rw [Tryz.ntmps73]
  refine AW.fact 0 fun hf => ?_
  simp (disch := omega) only [go_sem, Nat.reduceBEq] at hf
  have hf := Nat.le_trans hf (hL.le 2)
  (repeat' first | (with_reducible first | refine Z ?_ | refine Y ?_ | (refine hK _ _ ?_; clear hK K) | refine And.intro ?_ ?_ | exact Ct | intro (K : _ → _ → Prop) hK | (refine gI fun hg => ?_; try simp only [hC, reduceCtorEq] at hg; try simp only [hg])) | (refine AW.i rfl (fun h => ?_) (fun h => ?_) <;> try simp only [hC, reduceCtorEq] at h) | ((with_reducible refine E ?_; repeat refine Y ?_); refine eF rfl ?_) | simp (disch := omega) only [go_sem] | (with_reducible intro hg; try simp only [hC, reduceCtorEq] at hg) | exact Cl | fail)
  · rw [szSl_neg h]
  rw [szSl_pos h]
  refine AW.loopV [1, 5] [0] (fun m xs o => ∃ (k : Nat) (q : Int), xs = [.v (.int .i64 q), .v (.int .i64 k)] ∧ o = [] ∧ m = l.length - k ∧ k ≤ l.length ∧ 0 ≤ q ∧ q ≤ 1048576 ∧ szGo szArg (l.drop k) q = szGo szArg l (r - l.length)) l.length [] trivial ⟨0, _, ?_, rfl, rfl, ?_, ?_, ?_, rfl⟩ ?_
  · rfl
  · omega
  · omega
  · omega
  rintro m xs o ⟨k, q, rfl, rfl, rfl, hk, h0, h1, hR⟩
  have hle := szArg_le (at_ l k) q h0
  (repeat' first | (with_reducible first | refine Z ?_ | refine Y ?_ | (refine hK _ _ ?_; clear hK K) | refine And.intro ?_ ?_ | exact Ct | intro (K : _ → _ → Prop) hK | (refine gI fun hg => ?_; try simp only [hC, reduceCtorEq] at hg; try simp only [hg])) | (refine AW.i rfl (fun h => ?_) (fun h => ?_) <;> try simp only [hC, reduceCtorEq] at h) | ((with_reducible refine E ?_; repeat refine Y ?_); refine eF rfl ?_) | simp (disch := omega) only [go_sem] | (with_reducible intro hg; try simp only [hC, reduceCtorEq] at hg) | exact Cl | fail)
  · rw [szGo_at (by assumption), if_pos (by first | exact h | (rw [hsz]; exact h))] at hR; rw [hR]
  · rw [szGo_at (by assumption), if_neg (by omega)] at hR
    exact ⟨_, [_, _], [], by omega, ⟨k + 1, _, rfl, rfl, rfl, by omega, by omega, by omega, hR⟩, rfl, trivial⟩
  · rw [szGo_end h] at hR; rw [hR]
instance toArg_i (x : GArg) : Ctr lim Tryz.prog 137 [] [.agg [.str x.fName, .str x.fValue]] (.agg [.str x.fName, .str x.fValue]) [] True := by
  refine Ctr.of_body en137 Tryz.func137 rfl rfl fun hp => (?_); rw [Tryz.ntmps137]
  all_goals exact uU
instance toArgS_i (l : List GArg) : Ctr lim Tryz.prog 77 [] [.sl false 2 (l.map (encArg false))] (.sl true 2 (l.map (encArg true))) [] True := by
  refine Ctr.of_body en77 Tryz.func77 rfl rfl fun hp => (?_); rw [Tryz.ntmps77]
  refine AW.fact 0 fun hf => ?_
  simp (disch := omega) only [go_sem, Nat.reduceBEq] at hf
  (repeat' first | (with_reducible first | refine Z ?_ | refine Y ?_ | (refine hK _ _ ?_; clear hK K) | refine And.intro ?_ ?_ | exact Ct | intro (K : _ → _ → Prop) hK | (refine gI fun hg => ?_; try simp only [hC, reduceCtorEq] at hg; try simp only [hg])) | (refine AW.i rfl (fun h => ?_) (fun h => ?_) <;> try simp only [hC, reduceCtorEq] at h) | ((with_reducible refine E ?_; repeat refine Y ?_); refine eF rfl ?_) | simp (disch := omega) only [go_sem] | (with_reducible intro hg; try simp only [hC, reduceCtorEq] at hg) | exact Cl | fail)
  refine AW.loopV [4] [0, 3] (fun m xs o => ∃ k : Nat, xs = [.v (.int .i64 k)] ∧ o = [(hg, some (mkC (encArg true) [.string ⟨#[]⟩, .string ⟨#[]⟩] l k))] ∧ m = l.length - k ∧ k ≤ l.length) l.length [(hg, some (mkC (encArg true) [.string ⟨#[]⟩, .string ⟨#[]⟩] l 0))] (subO_one (mkC_zero _ _ _)) ⟨0, ?_, rfl, rfl, ?_⟩ ?_
  · rfl
  · omega
  rintro m xs o ⟨k, rfl, rfl, rfl, hk⟩
  have hml := mkC_len (encArg true) [.string ⟨#[]⟩, .string ⟨#[]⟩] 2 (fun _ => rfl) rfl l k hk
  (repeat' first | (with_reducible first | refine Z ?_ | refine Y ?_ | (refine hK _ _ ?_; clear hK K) | refine And.intro ?_ ?_ | exact Ct | intro (K : _ → _ → Prop) hK | (refine gI fun hg => ?_; try simp only [hC, reduceCtorEq] at hg; try simp only [hg])) | (refine AW.i rfl (fun h => ?_) (fun h => ?_) <;> try simp only [hC, reduceCtorEq] at h) | simp (disch := omega) only [go_sem] | (with_reducible intro hg; try simp only [hC, reduceCtorEq] at hg) | exact Cl | fail)
  · exact ⟨_, [_], _, by omega, ⟨k + 1, rfl, rfl, rfl, by omega⟩, rfl, subO_one (by have := mkC_at (encArg true) [.string ⟨#[]⟩, .string ⟨#[]⟩] 2 (fun _ => rfl) rfl l k h; simp only [go_sem, Nat.mul_one] at this ⊢; exact this.symm)⟩
  · refine AW.made 2 rfl h hk (fun _ => rfl) ?_
    all_goals exact uU
instance eqService_i (L : Nat → Nat) [hL : Lok L] (x : GService) : Ctr L Tryz.prog 32 [] [.agg [.str x.fName, .str x.fTemplate, .sl false 2 (x.fArgs.map (encArg false)), .sl false 1 (x.fTargets.map AV.str)], .agg [.str x.fName, .str x.fTemplate, .sl false 2 (x.fArgs.map (encArg false)), .sl false 1 (x.fTargets.map AV.str)]] (.v (.bool true)) [] True := by
  refine Ctr.of_body en32 Tryz.func32 rfl rfl fun hp => (?_); rw [Tryz.ntmps32]
  all_goals exact uU
instance eqServiceS_i (L : Nat → Nat) [hL : Lok L] (l : List GService) : Ctr L Tryz.prog 49 [] [.sl false 4 (l.map (encService false)), .sl false 4 (l.map (encService false))] (.v (.bool true)) [] True := by
  refine Ctr.of_body en49 Tryz.func49 rfl rfl fun hp => (?_); rw [Tryz.ntmps49]
  refine AW.fact 0 fun hf => ?_
  simp (disch := omega) only [go_sem, Nat.reduceBEq] at hf
  have hf := Nat.le_trans hf (hL.le 4)
  (repeat' first | (with_reducible first | refine Z ?_ | refine Y ?_ | (refine hK _ _ ?_; clear hK K) | refine And.intro ?_ ?_ | exact Ct | intro (K : _ → _ → Prop) hK | (refine gI fun hg => ?_; try simp only [hC, reduceCtorEq] at hg; try simp only [hg])) | (refine AW.i rfl (fun h => ?_) (fun h => ?_) <;> try simp only [hC, reduceCtorEq] at h) | ((with_reducible refine E ?_; repeat refine Y ?_); refine eF rfl ?_) | simp (disch := omega) only [go_sem] | (with_reducible intro hg; try simp only [hC, reduceCtorEq] at hg) | exact Cl | fail)
  refine AW.loopV [5] [0, 1] (fun m xs o => ∃ k : Nat, xs = [.v (.int .i64 k)] ∧ o = [] ∧ m = l.length - k ∧ k ≤ l.length) l.length [] trivial ⟨0, ?_, rfl, rfl, ?_⟩ ?_
  · rfl
  · omega
  rintro m xs o ⟨k, rfl, rfl, rfl, hk⟩
  (repeat' first | (with_reducible first | refine Z ?_ | refine Y ?_ | (refine hK _ _ ?_; clear hK K) | refine And.intro ?_ ?_ | exact Ct | intro (K : _ → _ → Prop) hK | (refine gI fun hg => ?_; try simp only [hC, reduceCtorEq] at hg; try simp only [hg])) | (refine AW.i rfl (fun h => ?_) (fun h => ?_) <;> try simp only [hC, reduceCtorEq] at h) | ((with_reducible refine E ?_; repeat refine Y ?_); refine eF rfl ?_) | simp (disch := omega) only [go_sem] | (with_reducible intro hg; try simp only [hC, reduceCtorEq] at hg) | exact Cl | fail)
  exact ⟨_, [_], [], by omega, ⟨k + 1, rfl, rfl, rfl, by omega⟩, rfl, trivial⟩
instance szService_i (L : Nat → Nat) [hL : Lok L] (x : GService) (r : Int) : Ctr L Tryz.prog 28 [] [.agg [.str x.fName, .str x.fTemplate, .sl false 2 (x.fArgs.map (encArg false)), .sl false 1 (x.fTargets.map AV.str)], .v (.int .i64 r)] (.v (.int .i64 (szService x r))) [] (0 ≤ r ∧ r ≤ 1048576) := by
  refine Ctr.of_body en28 Tryz.func28 rfl rfl fun hp => (?_); rw [Tryz.ntmps28]
  refine AW.fact 0 fun hf => ?_
  simp (disch := omega) only [go_sem, Nat.reduceBEq] at hf
  have le2 := szSl_le szArg szArg_le x.fArgs ((r - x.fName.length) - x.fTemplate.length)
  have le3 := szSl_le szStr szStr_le x.fTargets (szSl szArg x.fArgs ((r - x.fName.length) - x.fTemplate.length))
  unfold szService
  ((repeat' first | (with_reducible first | refine Z ?_ | refine Y ?_ | (refine hK _ _ ?_; clear hK K) | refine And.intro ?_ ?_ | exact Ct | intro (K : _ → _ → Prop) hK | (refine gI fun hg => ?_; try simp only [hC, reduceCtorEq] at hg; try simp only [hg])) | (refine AW.i rfl (fun h => ?_) (fun h => ?_) <;> try simp only [hC, reduceCtorEq] at h) | ((with_reducible refine E ?_; repeat refine Y ?_); refine eF rfl ?_) | simp (disch := omega) only [go_sem] | (with_reducible intro hg; try simp only [hC, reduceCtorEq] at hg) | exact Cl | fail); all_goals simp only [thn, szStr, id]; all_goals refine congrArg (fun z => AV.v (.int .i64 z)) ?_; all_goals (repeat' split); all_goals omega)
instance szServiceS_i (L : Nat → Nat) [hL : Lok L] (l : List GService) (r : Int) : Ctr L Tryz.prog 37 [] [.sl false 4 (l.map (encService false)), .v (.int .i64 r)] (.v (.int .i64 (szSl szService l r))) [] (0 ≤ r ∧ r ≤ 1048576) := by
  refine Ctr.of_body en37 Tryz.func37 rfl rfl fun hp => (?_); rw [Tryz.ntmps37]
  refine AW.fact 0 fun hf => ?_
  simp (disch := omega) only [go_sem, Nat.reduceBEq] at hf
  have hf := Nat.le_trans hf (hL.le 4)
  (repeat' first | (with_reducible first | refine Z ?_ | refine Y ?_ | (refine hK _ _ ?_; clear hK K) | refine And.intro ?_ ?_ | exact Ct | intro (K : _ → _ → Prop) hK | (refine gI fun hg => ?_; try simp only [hC, reduceCtorEq] at hg; try simp only [hg])) | (refine AW.i rfl (fun h => ?_) (fun h => ?_) <;> try simp only [hC, reduceCtorEq] at h) | ((with_reducible refine E ?_; repeat refine Y ?_); refine eF rfl ?_) | simp (disch := omega) only [go_sem] | (with_reducible intro hg; try simp only [hC, reduceCtorEq] at hg) | exact Cl | fail)
  · rw [szSl_neg h]
  rw [szSl_pos h]
  refine AW.loopV [1, 5] [0] (fun m xs o => ∃ (k : Nat) (q : Int), xs = [.v (.int .i64 q), .v (.int .i64 k)] ∧ o = [] ∧ m = l.length - k ∧ k ≤ l.length ∧ 0 ≤ q ∧ q ≤ 1048576 ∧ szGo szService (l.drop k) q = szGo szService l (r - l.length)) l.length [] trivial ⟨0, _, ?_, rfl, rfl, ?_, ?_, ?_, rfl⟩ ?_
  · rfl
  · omega
  · omega
  · omega
  rintro m xs o ⟨k, q, rfl, rfl, rfl, hk, h0, h1, hR⟩
  have hle := szService_le (at_ l k) q h0
  (repeat' first | (with_reducible first | refine Z ?_ | refine Y ?_ | (refine hK _ _ ?_; clear hK K) | refine And.intro ?_ ?_ | exact Ct | intro (K : _ → _ → Prop) hK | (refine gI fun hg => ?_; try simp only [hC, reduceCtorEq] at hg; try simp only [hg])) | (refine AW.i rfl (fun h => ?_) (fun h => ?_) <;> try simp only [hC, reduceCtorEq] at h) | ((with_reducible refine E ?_; repeat refine Y ?_); refine eF rfl ?_) | simp (disch := omega) only [go_sem] | (with_reducible intro hg; try simp only [hC, reduceCtorEq] at hg) | exact Cl | fail)
  · rw [szGo_at (by assumption), if_pos (by first | exact h | (rw [hsz]; exact h))] at hR; rw [hR]
  · rw [szGo_at (by assumption), if_neg (by omega)] at hR
    exact ⟨_, [_, _], [], by omega, ⟨k + 1, _, rfl, rfl, rfl, by omega, by omega, by omega, hR⟩, rfl, trivial⟩
  · rw [szGo_end h] at hR; rw [hR]
instance toService_i (x : GService) : Ctr lim Tryz.prog 30 [] [.agg [.str x.fName, .str x.fTemplate, .sl false 2 (x.fArgs.map (encArg false)), .sl false 1 (x.fTargets.map AV.str)]] (.agg [.str x.fName, .str x.fTemplate, .sl true 2 (x.fArgs.map (encArg true)), .sl true 1 (x.fTargets.map AV.str)]) [] True := by
  refine Ctr.of_body en30 Tryz.func30 rfl rfl fun hp => (?_); rw [Tryz.ntmps30]
  all_goals exact uU
instance toServiceS_i (l : List GService) : Ctr lim Tryz.prog 42 [] [.sl false 4 (l.map (encService false))] (.sl true 4 (l.map (encService true))) [] True := by
  refine Ctr.of_body en42 Tryz.func42 rfl rfl fun hp => (?_); rw [Tryz.ntmps42]
  refine AW.fact 0 fun hf => ?_
  simp (disch := omega) only [go_sem, Nat.reduceBEq] at hf
  (repeat' first | (with_reducible first | refine Z ?_ | refine Y ?_ | (refine hK _ _ ?_; clear hK K) | refine And.intro ?_ ?_ | exact Ct | intro (K : _ → _ → Prop) hK | (refine gI fun hg => ?_; try simp only [hC, reduceCtorEq] at hg; try simp only [hg])) | (refine AW.i rfl (fun h => ?_) (fun h => ?_) <;> try simp only [hC, reduceCtorEq] at h) | ((with_reducible refine E ?_; repeat refine Y ?_); refine eF rfl ?_) | simp (disch := omega) only [go_sem] | (with_reducible intro hg; try simp only [hC, reduceCtorEq] at hg) | exact Cl | fail)
  refine AW.loopV [4] [0, 3] (fun m xs o => ∃ k : Nat, xs = [.v (.int .i64 k)] ∧ o = [(hg, some (mkC (encService true) [.string ⟨#[]⟩, .string ⟨#[]⟩, .slice none 0 0, .slice none 0 0] l k))] ∧ m = l.length - k ∧ k ≤ l.length) l.length [(hg, some (mkC (encService true) [.string ⟨#[]⟩, .string ⟨#[]⟩, .slice none 0 0, .slice none 0 0] l 0))] (subO_one (mkC_zero _ _ _)) ⟨0, ?_, rfl, rfl, ?_⟩ ?_
  · rfl
  · omega
  rintro m xs o ⟨k, rfl, rfl, rfl, hk⟩
  have hml := mkC_len (encService true) [.string ⟨#[]⟩, .string ⟨#[]⟩, .slice none 0 0, .slice none 0 0] 4 (fun _ => rfl) rfl l k hk
  (repeat' first | (with_reducible first | refine Z ?_ | refine Y ?_ | (refine hK _ _ ?_; clear hK K) | refine And.intro ?_ ?_ | exact Ct | intro (K : _ → _ → Prop) hK | (refine gI fun hg => ?_; try simp only [hC, reduceCtorEq] at hg; try simp only [hg])) | (refine AW.i rfl (fun h => ?_) (fun h => ?_) <;> try simp only [hC, reduceCtorEq] at h) | simp (disch := omega) only [go_sem] | (with_reducible intro hg; try simp only [hC, reduceCtorEq] at hg) | exact Cl | fail)
  · exact ⟨_, [_], _, by omega, ⟨k + 1, rfl, rfl, rfl, by omega⟩, rfl, subO_one (by have := mkC_at (encService true) [.string ⟨#[]⟩, .string ⟨#[]⟩, .slice none 0 0, .slice none 0 0] 4 (fun _ => rfl) rfl l k h; simp only [go_sem, Nat.mul_one] at this ⊢; exact this.symm)⟩
  · refine AW.made 2 rfl h hk (fun _ => rfl) ?_
    all_goals exact uU
instance eqPlan_i (L : Nat → Nat) [hL : Lok L] (x : GPlan) : Ctr L Tryz.prog 11 [] [.agg [.sl false 3 (x.fTemplates.map (encTemplate false)), .sl false 4 (x.fServices.map (encService false))], .agg [.sl false 3 (x.fTemplates.map (encTemplate false)), .sl false 4 (x.fServices.map (encService false))]] (.v (.bool true)) [] True := by
  refine Ctr.of_body en11 Tryz.func11 rfl rfl fun hp => (?_); rw [Tryz.ntmps11]
  all_goals exact uU
instance szPlan_i (L : Nat → Nat) [hL : Lok L] (x : GPlan) (r : Int) : Ctr L Tryz.prog 7 [] [.agg [.sl false 3 (x.fTemplates.map (encTemplate false)), .sl false 4 (x.fServices.map (encService false))], .v (.int .i64 r)] (.v (.int .i64 (szPlan x r))) [] (0 ≤ r ∧ r ≤ 1048576) := by
  refine Ctr.of_body en7 Tryz.func7 rfl rfl fun hp => (?_); rw [Tryz.ntmps7]
  refine AW.fact 0 fun hf => ?_
  simp (disch := omega) only [go_sem, Nat.reduceBEq] at hf
  have le0 := szSl_le szTemplate szTemplate_le x.fTemplates r
  have le1 := szSl_le szService szService_le x.fServices (szSl szTemplate x.fTemplates r)
  unfold szPlan
  ((repeat' first | (with_reducible first | refine Z ?_ | refine Y ?_ | (refine hK _ _ ?_; clear hK K) | refine And.intro ?_ ?_ | exact Ct | intro (K : _ → _ → Prop) hK | (refine gI fun hg => ?_; try simp only [hC, reduceCtorEq] at hg; try simp only [hg])) | (refine AW.i rfl (fun h => ?_) (fun h => ?_) <;> try simp only [hC, reduceCtorEq] at h) | ((with_reducible refine E ?_; repeat refine Y ?_); refine eF rfl ?_) | simp (disch := omega) only [go_sem] | (with_reducible intro hg; try simp only [hC, reduceCtorEq] at hg) | exact Cl | fail); all_goals simp only [thn, szStr, id]; all_goals refine congrArg (fun z => AV.v (.int .i64 z)) ?_; all_goals (repeat' split); all_goals omega)
instance toPlan_i (x : GPlan) : Ctr lim Tryz.prog 9 [] [.agg [.sl false 3 (x.fTemplates.map (encTemplate false)), .sl false 4 (x.fServices.map (encService false))]] (.agg [.sl true 3 (x.fTemplates.map (encTemplate true)), .sl true 4 (x.fServices.map (encService true))]) [] True := by
  refine Ctr.of_body en9 Tryz.func9 rfl rfl fun hp => (?_); rw [Tryz.ntmps9]
  all_goals exact uU
end Go.Proofs.YtkdchlggdcmkbaaGreat
namespace Go.Proofs.YtkdchlggdcmkbaaGreat
open Go.Ab Go.Dt
set_option maxRecDepth 20000
set_option maxHeartbeats 4000000
theorem GExpr.kids_lt {x : GExpr} {l : List GExpr} (h : x ∈ l) : SizeOf.sizeOf x.fKids < SizeOf.sizeOf l := by
  have := List.sizeOf_lt_of_mem h
  cases x; simp [GExpr.fKids] at *; omega
theorem GSchema.kids_lt {x : GSchema} {l : List GSchema} (h : x ∈ l) : SizeOf.sizeOf x.fKids < SizeOf.sizeOf l := by
  have := List.sizeOf_lt_of_mem h
  cases x; simp [GSchema.fKids] at *; omega
end Go.Proofs.YtkdchlggdcmkbaaGreat
