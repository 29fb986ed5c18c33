/-
  Part of a proof: As1.
-/
import Derived.Test.YtkdchlggdcmkbaaGreatG0
import Derived.Test.YtkdchlggdcmkbaaGreatG8
import Derived.Test.YtkdchlggdcmkbaaGreatG23
import Derived.Test.YtkdchlggdcmkbaaGreatG24
import Derived.Test.YtkdchlggdcmkbaaGreatG25
import Derived.Test.YtkdchlggdcmkbaaGreatG33
set_option linter.unusedSimpArgs false
set_option linter.unusedVariables false
namespace Go.Proofs.YtkdchlggdcmkbaaGreat
open Go.Ab Go.Dt
set_option maxRecDepth 20000
set_option maxHeartbeats 4000000
instance aSvc1_i (L : Nat → Nat) (y x : GService) : Ctr L Tryz.prog 81 [] [.agg [.str y.fName, .str y.fTemplate, .sl false 2 (y.fArgs.map (encArg false)), .sl false 1 (y.fTargets.map AV.str)], .vp [.str x.fName, .str x.fTemplate, .sl false 2 (x.fArgs.map (encArg false)), .sl false 1 (x.fTargets.map AV.str)]] (.v (.bool (Op.bytesLess x.fName y.fName))) [] True := by
  refine Ctr.of_body en81 Tryz.func81 rfl rfl fun hp => (?_); rw [Tryz.ntmps81]
  (repeat' first | (with_reducible first | refine Z ?_ | refine Y ?_ | (refine hK _ _ ?_; clear hK K) | refine And.intro ?_ ?_ | exact Ct | intro (K : _ → _ → Prop) hK | (refine gI fun hg => ?_; try simp only [hC, reduceCtorEq] at hg; try simp only [hg])) | (refine AW.i rfl (fun h => ?_) (fun h => ?_) <;> try simp only [hC, reduceCtorEq] at h) | ((with_reducible refine E ?_; repeat refine Y ?_); refine eF rfl ?_) | simp (disch := omega) only [go_sem, bl_geq, Bool.not_not] | (with_reducible intro hg; try simp only [hC, reduceCtorEq] at hg) | exact Cl | fail)
instance ixServiceA_i (L : Nat → Nat) [hL : Lok L] (l : List GService) (x : GService) : Ctr L Tryz.prog 80 [] [.sl false 4 (l.map (encService false)), .fn 81 [.vp [.str x.fName, .str x.fTemplate, .sl false 2 (x.fArgs.map (encArg false)), .sl false 1 (x.fTargets.map AV.str)]]] (.v (.int .i64 (svJ l x))) [] True := by
  refine Ctr.of_body en80 Tryz.func80 rfl rfl fun hp => (?_); rw [Tryz.ntmps80]
  refine AW.fact 0 fun hf => ?_
  simp (disch := omega) only [go_sem] at hf
  have hf := Nat.le_trans hf (hL.le 4)
  (repeat' first | (with_reducible first | refine Z ?_ | refine Y ?_ | (refine hK _ _ ?_; clear hK K) | refine And.intro ?_ ?_ | exact Ct | intro (K : _ → _ → Prop) hK | (refine gI fun hg => ?_; try simp only [hC, reduceCtorEq] at hg; try simp only [hg])) | (refine AW.i rfl (fun h => ?_) (fun h => ?_) <;> try simp only [hC, reduceCtorEq] at h) | ((with_reducible refine E ?_; repeat refine Y ?_); refine eF rfl ?_) | simp (disch := omega) only [go_sem] | (with_reducible intro hg; try simp only [hC, reduceCtorEq] at hg) | exact Cl | fail)
  refine AW.loopV [8] [0, 1, 7] (fun m xs o => ∃ k : Nat, xs = [.v (.int .i64 k)] ∧ o = [] ∧ m = l.length - k ∧ k ≤ l.length ∧ ∀ y ∈ l.take k, Op.bytesLess x.fName y.fName = false) l.length [] trivial ⟨0, ?_, rfl, rfl, ?_, ?_⟩ ?_
  · rfl
  · omega
  · simp
  rintro m xs o ⟨k, rfl, rfl, rfl, hk, hR⟩
  (repeat' first | (with_reducible first | refine Z ?_ | refine Y ?_ | (refine hK _ _ ?_; clear hK K) | refine And.intro ?_ ?_ | exact Ct | intro (K : _ → _ → Prop) hK | (refine gI fun hg => ?_; try simp only [hC, reduceCtorEq] at hg; try simp only [hg])) | (refine AW.i rfl (fun h => ?_) (fun h => ?_) <;> try simp only [hC, reduceCtorEq] at h) | ((with_reducible refine E ?_; repeat refine Y ?_); refine eF rfl ?_) | simp (disch := omega) only [go_sem] | (with_reducible intro hg; try simp only [hC, reduceCtorEq] at hg) | exact Cl | fail)
  · rw [svJ, idx_at' (p := fun y : GService => Op.bytesLess x.fName y.fName) (by assumption) hR (by simpa using h)]
  · exact ⟨_, [_], [], by omega, ⟨k + 1, rfl, rfl, rfl, by omega, take_step' (p := fun y : GService => Op.bytesLess x.fName y.fName) (by assumption) hR (by simpa using h)⟩, rfl, trivial⟩
  · rw [svJ, idx_end (p := fun y : GService => Op.bytesLess x.fName y.fName) h hR]
theorem svcT_elem (l : List GService) : ∀ x, x ∈ l.map (encService true) → x.elem 4 = true := map_elem (fun _ => rfl) _
theorem svcT_one : ∀ l : List GService, ((l.map (encService true)).flatMap AV.cells).all AV.one = true
  | [] => rfl
  | x :: l => by rw [List.map_cons, List.flatMap_cons, List.all_append, svcT_one l]; rfl
theorem insS (l : List GService) (x : GService) {k : Nat} (hk : addK l x = k) (hl : l.length ≤ 1048576) : ConC lim Tryz.prog 82 [.sl true 4 (l.map (encService true)), .v (.int .i64 k), .sl true 4 [encService true x]] (.sl true 4 ((addS l x).map (encService true))) := by
  have hk2 := addK_le l x
  have h := InsW.con (L := lim) (i := k) (l := l.map (encService true)) (x := encService true x) ins4 (svcT_elem l) (svcT_one l) rfl rfl (by rw [List.length_map]; omega) (by rw [List.length_map]; omega) (by rw [List.length_map]; show _ ≤ 2147483648; omega)
  rw [← List.map_take, ← List.map_drop, ← List.map_cons, ← List.map_append] at h
  unfold addS; rw [hk]
  exact h
instance iAddService_i (x : GPlan) (y : GService) : Ctr lim Tryz.prog 31 [] [.agg [.sl false 3 (x.fTemplates.map (encTemplate false)), .sl false 4 (x.fServices.map (encService false))], .agg [.str y.fName, .str y.fTemplate, .sl false 2 (y.fArgs.map (encArg false)), .sl false 1 (y.fTargets.map AV.str)]] (.tup [.agg [.sl true 3 ((addP isPat x y).fTemplates.map (encTemplate true)), .sl true 4 ((addP isPat x y).fServices.map (encService true))], .v (.bool (addB isPat x y))]) [] (tmsOk x.fTemplates ∧ x.fServices.length ≤ 1048576) := by
  refine Ctr.of_body en31 Tryz.func31 rfl rfl fun hp => (?_); rw [Tryz.ntmps31]
  obtain ⟨hp1, hp2⟩ := hp
  (repeat' first | (with_reducible first | refine Z ?_ | refine Y ?_ | (refine hK _ _ ?_; clear hK K) | refine And.intro ?_ ?_ | exact Ct | intro (K : _ → _ → Prop) hK | (refine gI fun hg => ?_; try simp only [hC, reduceCtorEq] at hg; try simp only [hg])) | ((with_reducible refine E ?_; repeat refine Y ?_); refine eF rfl ?_) | simp (disch := omega) only [go_sem] | (with_reducible intro hg; try simp only [hC, reduceCtorEq] at hg) | exact Cl | fail)
  rename_i b1 b2
  refine AW.cut [2, 3, 4, 5, 6, 7] [(2, .vp [.sl false 3 (x.fTemplates.map (encTemplate false)), .sl false 4 (x.fServices.map (encService false))]), (3, .vp [.str y.fName, .str y.fTemplate, .sl false 2 (y.fArgs.map (encArg false)), .sl false 1 (y.fTargets.map AV.str)]), (4, .ptr b1 0), (5, .v (.bool false)), (6, .ptr b2 0), (7, .v (.int .i64 (addK x.fServices y)))] [(b2, some [.sl true 3 (x.fTemplates.map (encTemplate true)), .sl true 4 (x.fServices.map (encService true))]), (b1, some [.v (.slice none 0 0), .v (.slice none 0 0)])] ?_ ?_
  · (refine AW.i rfl (fun h => ?_) (fun h => ?_) <;> try simp only [hC, reduceCtorEq] at h)
    · rw [addK_neg h]
      all_goals exact uU
    · obtain ⟨k, hsv⟩ : ∃ k : Nat, svJ x.fServices y = k := ⟨(svJ x.fServices y).toNat, by omega⟩
      rw [addK_at hsv]
      simp only [hsv]
      all_goals exact uU
  · refine thenQ.n ?_
    refine AW.seq ?_
    refine AW.anyT [(2, .vp [.sl false 3 (x.fTemplates.map (encTemplate false)), .sl false 4 (x.fServices.map (encService false))]), (4, .ptr b1 0), (5, .v (.bool false)), (6, .ptr b2 0)] [(b2, some [.sl true 3 (x.fTemplates.map (encTemplate true)), .sl true 4 ((addS x.fServices y).map (encService true))]), (b1, some [.v (.slice none 0 0), .v (.slice none 0 0)])] (by kernel_rfl) (fun K hK => ?_) ?_
    · change AnyW lim Tryz.prog _ 9 #[false, false, false, false, false, false, false, false, false] _ _
      refine AnyW.fix (fuel := 8) 0 (by kernel_rfl) (by kernel_rfl) (by kernel_rfl) ?_
      simp (maxSteps := 2000000) (disch := omega) only [go_sem, fixV]
      refine AnyW.fix (fuel := 7) 2 (by kernel_rfl) (by kernel_rfl) (by kernel_rfl) ?_
      simp (maxSteps := 2000000) (disch := omega) only [go_sem, fixV]
      refine AnyW.step [1, 3] (by kernel_rfl) (by simp) ?_
      simp only [allR]
      (repeat' first | (with_reducible first | refine Y ?_ | (refine hK _ _ ?_; clear hK K) | refine And.intro ?_ ?_ | exact Ct | intro (K : _ → _ → Prop) hK | (refine gI fun hg => ?_; try simp only [hC, reduceCtorEq] at hg; try simp only [hg])) | ((with_reducible refine E ?_; repeat refine Y ?_); refine eF rfl ?_) | simp (disch := omega) only [go_sem] | (with_reducible intro hg; try simp only [hC, reduceCtorEq] at hg) | exact Cl | fail)
      · refine AnyW.step [3] (by kernel_rfl) (by simp) ?_
        simp only [allR]
        (repeat' first | (with_reducible first | refine Y ?_ | (refine hK _ _ ?_; clear hK K) | refine And.intro ?_ ?_ | exact Ct | intro (K : _ → _ → Prop) hK | (refine gI fun hg => ?_; try simp only [hC, reduceCtorEq] at hg; try simp only [hg])) | ((with_reducible refine E ?_; repeat refine Y ?_); refine eF rfl ?_) | simp (disch := omega) only [go_sem] | (with_reducible intro hg; try simp only [hC, reduceCtorEq] at hg) | exact Cl | fail)
        refine AnyW.step [4] (by kernel_rfl) (by simp) ?_
        simp only [allR]
        (repeat' first | (with_reducible first | refine Y ?_ | (refine hK _ _ ?_; clear hK K) | refine And.intro ?_ ?_ | exact Ct | intro (K : _ → _ → Prop) hK | (refine gI fun hg => ?_; try simp only [hC, reduceCtorEq] at hg; try simp only [hg])) | ((with_reducible refine E ?_; repeat refine Y ?_); refine eF rfl ?_) | simp (disch := omega) only [go_sem] | (with_reducible intro hg; try simp only [hC, reduceCtorEq] at hg) | exact Cl | fail)
        refine AnyW.step [5] (by kernel_rfl) (by simp) ?_
        simp only [allR]
        (repeat' first | (with_reducible first | refine Y ?_ | (refine hK _ _ ?_; clear hK K) | refine And.intro ?_ ?_ | exact Ct | intro (K : _ → _ → Prop) hK | (refine gI fun hg => ?_; try simp only [hC, reduceCtorEq] at hg; try simp only [hg])) | ((with_reducible refine E ?_; repeat refine Y ?_); refine eF rfl ?_) | simp (disch := omega) only [go_sem] | (with_reducible intro hg; try simp only [hC, reduceCtorEq] at hg) | exact Cl | fail)
        refine AnyW.conR 6 (by kernel_rfl) ?_
        simp (maxSteps := 2000000) (disch := omega) only [go_sem]
        refine ⟨by first | trivial | decide, en82, _, insS x.fServices y rfl hp2, ?_⟩
        refine AnyW.step [7] (by kernel_rfl) (by simp) ?_
        simp only [allR]
        (repeat' first | (with_reducible first | refine Y ?_ | (refine hK _ _ ?_; clear hK K) | refine And.intro ?_ ?_ | exact Ct | intro (K : _ → _ → Prop) hK | (refine gI fun hg => ?_; try simp only [hC, reduceCtorEq] at hg; try simp only [hg])) | ((with_reducible refine E ?_; repeat refine Y ?_); refine eF rfl ?_) | simp (disch := omega) only [go_sem] | (with_reducible intro hg; try simp only [hC, reduceCtorEq] at hg) | exact Cl | fail)
        refine AnyW.step [8] (by kernel_rfl) (by simp) ?_
        simp only [allR]
        (repeat' first | (with_reducible first | refine Y ?_ | (refine hK _ _ ?_; clear hK K) | refine And.intro ?_ ?_ | exact Ct | intro (K : _ → _ → Prop) hK | (refine gI fun hg => ?_; try simp only [hC, reduceCtorEq] at hg; try simp only [hg])) | ((with_reducible refine E ?_; repeat refine Y ?_); refine eF rfl ?_) | simp (disch := omega) only [go_sem] | (with_reducible intro hg; try simp only [hC, reduceCtorEq] at hg) | exact Cl | fail)
        exact AnyW.doneK [2, 4, 5, 6] [(b2, some [.sl true 3 (x.fTemplates.map (encTemplate true)), .sl true 4 ((addS x.fServices y).map (encService true))]), (b1, some [.v (.slice none 0 0), .v (.slice none 0 0)])] (by kernel_rfl) gO (by simp (maxSteps := 2000000) (disch := omega) only [go_sem]; exact hK)
      · refine AnyW.step [1, 4] (by kernel_rfl) (by simp) ?_
        simp only [allR]
        (repeat' first | (with_reducible first | refine Y ?_ | (refine hK _ _ ?_; clear hK K) | refine And.intro ?_ ?_ | exact Ct | intro (K : _ → _ → Prop) hK | (refine gI fun hg => ?_; try simp only [hC, reduceCtorEq] at hg; try simp only [hg])) | ((with_reducible refine E ?_; repeat refine Y ?_); refine eF rfl ?_) | simp (disch := omega) only [go_sem] | (with_reducible intro hg; try simp only [hC, reduceCtorEq] at hg) | exact Cl | fail)
        · refine AnyW.step [4] (by kernel_rfl) (by simp) ?_
          simp only [allR]
          (repeat' first | (with_reducible first | refine Y ?_ | (refine hK _ _ ?_; clear hK K) | refine And.intro ?_ ?_ | exact Ct | intro (K : _ → _ → Prop) hK | (refine gI fun hg => ?_; try simp only [hC, reduceCtorEq] at hg; try simp only [hg])) | ((with_reducible refine E ?_; repeat refine Y ?_); refine eF rfl ?_) | simp (disch := omega) only [go_sem] | (with_reducible intro hg; try simp only [hC, reduceCtorEq] at hg) | exact Cl | fail)
          refine AnyW.step [5] (by kernel_rfl) (by simp) ?_
          simp only [allR]
          (repeat' first | (with_reducible first | refine Y ?_ | (refine hK _ _ ?_; clear hK K) | refine And.intro ?_ ?_ | exact Ct | intro (K : _ → _ → Prop) hK | (refine gI fun hg => ?_; try simp only [hC, reduceCtorEq] at hg; try simp only [hg])) | ((with_reducible refine E ?_; repeat refine Y ?_); refine eF rfl ?_) | simp (disch := omega) only [go_sem] | (with_reducible intro hg; try simp only [hC, reduceCtorEq] at hg) | exact Cl | fail)
          refine AnyW.conR 6 (by kernel_rfl) ?_
          simp (maxSteps := 2000000) (disch := omega) only [go_sem]
          refine ⟨by first | trivial | decide, en82, _, insS x.fServices y rfl hp2, ?_⟩
          refine AnyW.step [7] (by kernel_rfl) (by simp) ?_
          simp only [allR]
          (repeat' first | (with_reducible first | refine Y ?_ | (refine hK _ _ ?_; clear hK K) | refine And.intro ?_ ?_ | exact Ct | intro (K : _ → _ → Prop) hK | (refine gI fun hg => ?_; try simp only [hC, reduceCtorEq] at hg; try simp only [hg])) | ((with_reducible refine E ?_; repeat refine Y ?_); refine eF rfl ?_) | simp (disch := omega) only [go_sem] | (with_reducible intro hg; try simp only [hC, reduceCtorEq] at hg) | exact Cl | fail)
          refine AnyW.step [8] (by kernel_rfl) (by simp) ?_
          simp only [allR]
          (repeat' first | (with_reducible first | refine Y ?_ | (refine hK _ _ ?_; clear hK K) | refine And.intro ?_ ?_ | exact Ct | intro (K : _ → _ → Prop) hK | (refine gI fun hg => ?_; try simp only [hC, reduceCtorEq] at hg; try simp only [hg])) | ((with_reducible refine E ?_; repeat refine Y ?_); refine eF rfl ?_) | simp (disch := omega) only [go_sem] | (with_reducible intro hg; try simp only [hC, reduceCtorEq] at hg) | exact Cl | fail)
          exact AnyW.doneK [2, 4, 5, 6] [(b2, some [.sl true 3 (x.fTemplates.map (encTemplate true)), .sl true 4 ((addS x.fServices y).map (encService true))]), (b1, some [.v (.slice none 0 0), .v (.slice none 0 0)])] (by kernel_rfl) gO (by simp (maxSteps := 2000000) (disch := omega) only [go_sem]; exact hK)
        · refine AnyW.step [1, 5] (by kernel_rfl) (by simp) ?_
          simp only [allR]
          (repeat' first | (with_reducible first | refine Y ?_ | (refine hK _ _ ?_; clear hK K) | refine And.intro ?_ ?_ | exact Ct | intro (K : _ → _ → Prop) hK | (refine gI fun hg => ?_; try simp only [hC, reduceCtorEq] at hg; try simp only [hg])) | ((with_reducible refine E ?_; repeat refine Y ?_); refine eF rfl ?_) | simp (disch := omega) only [go_sem] | (with_reducible intro hg; try simp only [hC, reduceCtorEq] at hg) | exact Cl | fail)
          · refine AnyW.step [5] (by kernel_rfl) (by simp) ?_
            simp only [allR]
            (repeat' first | (with_reducible first | refine Y ?_ | (refine hK _ _ ?_; clear hK K) | refine And.intro ?_ ?_ | exact Ct | intro (K : _ → _ → Prop) hK | (refine gI fun hg => ?_; try simp only [hC, reduceCtorEq] at hg; try simp only [hg])) | ((with_reducible refine E ?_; repeat refine Y ?_); refine eF rfl ?_) | simp (disch := omega) only [go_sem] | (with_reducible intro hg; try simp only [hC, reduceCtorEq] at hg) | exact Cl | fail)
            refine AnyW.conR 6 (by kernel_rfl) ?_
            simp (maxSteps := 2000000) (disch := omega) only [go_sem]
            refine ⟨by first | trivial | decide, en82, _, insS x.fServices y rfl hp2, ?_⟩
            refine AnyW.step [7] (by kernel_rfl) (by simp) ?_
            simp only [allR]
            (repeat' first | (with_reducible first | refine Y ?_ | (refine hK _ _ ?_; clear hK K) | refine And.intro ?_ ?_ | exact Ct | intro (K : _ → _ → Prop) hK | (refine gI fun hg => ?_; try simp only [hC, reduceCtorEq] at hg; try simp only [hg])) | ((with_reducible refine E ?_; repeat refine Y ?_); refine eF rfl ?_) | simp (disch := omega) only [go_sem] | (with_reducible intro hg; try simp only [hC, reduceCtorEq] at hg) | exact Cl | fail)
            refine AnyW.step [8] (by kernel_rfl) (by simp) ?_
            simp only [allR]
            (repeat' first | (with_reducible first | refine Y ?_ | (refine hK _ _ ?_; clear hK K) | refine And.intro ?_ ?_ | exact Ct | intro (K : _ → _ → Prop) hK | (refine gI fun hg => ?_; try simp only [hC, reduceCtorEq] at hg; try simp only [hg])) | ((with_reducible refine E ?_; repeat refine Y ?_); refine eF rfl ?_) | simp (disch := omega) only [go_sem] | (with_reducible intro hg; try simp only [hC, reduceCtorEq] at hg) | exact Cl | fail)
            exact AnyW.doneK [2, 4, 5, 6] [(b2, some [.sl true 3 (x.fTemplates.map (encTemplate true)), .sl true 4 ((addS x.fServices y).map (encService true))]), (b1, some [.v (.slice none 0 0), .v (.slice none 0 0)])] (by kernel_rfl) gO (by simp (maxSteps := 2000000) (disch := omega) only [go_sem]; exact hK)
          · refine AnyW.step [1] (by kernel_rfl) (by simp) ?_
            simp only [allR]
            (repeat' first | (with_reducible first | refine Y ?_ | (refine hK _ _ ?_; clear hK K) | refine And.intro ?_ ?_ | exact Ct | intro (K : _ → _ → Prop) hK | (refine gI fun hg => ?_; try simp only [hC, reduceCtorEq] at hg; try simp only [hg])) | ((with_reducible refine E ?_; repeat refine Y ?_); refine eF rfl ?_) | simp (disch := omega) only [go_sem] | (with_reducible intro hg; try simp only [hC, reduceCtorEq] at hg) | exact Cl | fail)
            refine AnyW.conR 6 (by kernel_rfl) ?_
            simp (maxSteps := 2000000) (disch := omega) only [go_sem]
            refine ⟨by first | trivial | decide, en82, _, insS x.fServices y rfl hp2, ?_⟩
            refine AnyW.step [7] (by kernel_rfl) (by simp) ?_
            simp only [allR]
            (repeat' first | (with_reducible first | refine Y ?_ | (refine hK _ _ ?_; clear hK K) | refine And.intro ?_ ?_ | exact Ct | intro (K : _ → _ → Prop) hK | (refine gI fun hg => ?_; try simp only [hC, reduceCtorEq] at hg; try simp only [hg])) | ((with_reducible refine E ?_; repeat refine Y ?_); refine eF rfl ?_) | simp (disch := omega) only [go_sem] | (with_reducible intro hg; try simp only [hC, reduceCtorEq] at hg) | exact Cl | fail)
            refine AnyW.step [8] (by kernel_rfl) (by simp) ?_
            simp only [allR]
            (repeat' first | (with_reducible first | refine Y ?_ | (refine hK _ _ ?_; clear hK K) | refine And.intro ?_ ?_ | exact Ct | intro (K : _ → _ → Prop) hK | (refine gI fun hg => ?_; try simp only [hC, reduceCtorEq] at hg; try simp only [hg])) | ((with_reducible refine E ?_; repeat refine Y ?_); refine eF rfl ?_) | simp (disch := omega) only [go_sem] | (with_reducible intro hg; try simp only [hC, reduceCtorEq] at hg) | exact Cl | fail)
            exact AnyW.doneK [2, 4, 5, 6] [(b2, some [.sl true 3 (x.fTemplates.map (encTemplate true)), .sl true 4 ((addS x.fServices y).map (encService true))]), (b1, some [.v (.slice none 0 0), .v (.slice none 0 0)])] (by kernel_rfl) gO (by simp (maxSteps := 2000000) (disch := omega) only [go_sem]; exact hK)
    · refine thenQ.n ?_
      refine AW.imp (Imp.pinE (b := b2) [] [.sl true 3 (x.fTemplates.map (encTemplate true)), .sl true 4 ((addS x.fServices y).map (encService true))] [] (O_eq _ _ _) fun hs => ?_)
      simp (maxSteps := 2000000) (disch := omega) only [go_sem]
      (repeat' first | (with_reducible first | refine Z ?_ | refine Y ?_ | (refine hK _ _ ?_; clear hK K) | refine And.intro ?_ ?_ | exact Ct | intro (K : _ → _ → Prop) hK | (refine gI fun hg => ?_; try simp only [hC, reduceCtorEq] at hg; try simp only [hg])) | ((with_reducible refine E ?_; repeat refine Y ?_); refine eF rfl ?_) | simp (disch := omega) only [go_sem, encTemplateM_frz, encServiceM_frz] | (with_reducible intro hg; try simp only [hC, reduceCtorEq] at hg) | exact Cl | fail)
      (refine AW.i rfl (fun h => ?_) (fun h => ?_) <;> try simp only [hC, reduceCtorEq] at h)
      · have e : addB isPat x y = false := by unfold addB; rcases h with h | h <;> simp [h]
        (repeat' first | (with_reducible first | refine Z ?_ | refine Y ?_ | (refine hK _ _ ?_; clear hK K) | refine And.intro ?_ ?_ | exact Ct | intro (K : _ → _ → Prop) hK | (refine gI fun hg => ?_; try simp only [hC, reduceCtorEq] at hg; try simp only [hg])) | (refine AW.i rfl (fun h => ?_) (fun h => ?_) <;> try simp only [hC, reduceCtorEq] at h) | ((with_reducible refine E ?_; repeat refine Y ?_); refine eF rfl ?_) | simp (disch := omega) only [go_sem] | (with_reducible intro hg; try simp only [hC, reduceCtorEq] at hg) | exact Cl | fail)
        simp only [addP, e, cond_false]
      · have e : addB isPat x y = true := by unfold addB; simp [h.1, h.2]
        refine AW.imp (Imp.unpE (b := b2) [] [_, _] [] (O_eq _ _ _) ?_)
        simp (maxSteps := 2000000) (disch := omega) only [go_sem]
        (repeat' first | (with_reducible first | refine Z ?_ | refine Y ?_ | (refine hK _ _ ?_; clear hK K) | refine And.intro ?_ ?_ | exact Ct | intro (K : _ → _ → Prop) hK | (refine gI fun hg => ?_; try simp only [hC, reduceCtorEq] at hg; try simp only [hg])) | (refine AW.i rfl (fun h => ?_) (fun h => ?_) <;> try simp only [hC, reduceCtorEq] at h) | ((with_reducible refine E ?_; repeat refine Y ?_); refine eF rfl ?_) | simp (disch := omega) only [go_sem] | (with_reducible intro hg; try simp only [hC, reduceCtorEq] at hg) | exact Cl | fail)
        simp only [addP, e, cond_true]
end Go.Proofs.YtkdchlggdcmkbaaGreat
