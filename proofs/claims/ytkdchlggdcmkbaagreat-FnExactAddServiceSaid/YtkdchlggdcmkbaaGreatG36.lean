/-
  Part of a proof: Mk1.
-/
import Derived.Test.YtkdchlggdcmkbaaGreatG15
import Derived.Test.YtkdchlggdcmkbaaGreatG19
import Derived.Test.YtkdchlggdcmkbaaGreatG20
import Derived.Test.YtkdchlggdcmkbaaGreatG21
set_option linter.unusedSimpArgs false
set_option linter.unusedVariables false
namespace Go.Proofs.YtkdchlggdcmkbaaGreat
open Go.Ab Go.Dt
set_option maxRecDepth 20000
set_option maxHeartbeats 4000000
instance markRangeS_i (l : List GRange) (k : Int) : BCtr lim Tryz.prog 173 2 (l.map (encRange true)) [.v (.int .i64 k)] (.v (.int .i64 (mkL stRange l k).2)) ((mkL stRange l k).1.map (encRange true)) (0 ≤ k ∧ (mkL stRange l k).2 ≤ 1099511627776) := by
  refine BCtr.of en173 (fun b => ?_) (fun e => ?_) (by simp [mkL_len]) (map_elem (fun _ => rfl) _) (map_elem (fun _ => rfl) _)
  · simp only [List.length_map]
    refine Ctr.of_body en173 Tryz.func173 rfl rfl fun hp => (?_); rw [Tryz.ntmps173]
    have hup := mkL_up stRange_ge l k
    (repeat' first | (with_reducible first | refine Z ?_ | refine Y ?_ | (refine hK _ _ ?_; clear hK K) | refine And.intro ?_ ?_ | exact Ct | intro (K : _ → _ → Prop) hK | (refine gI fun hg => ?_; try simp only [hC, reduceCtorEq] at hg; try simp only [hg])) | (refine AW.i rfl (fun h => ?_) (fun h => ?_) <;> try simp only [hC, reduceCtorEq] at h) | ((with_reducible refine E ?_; repeat refine Y ?_); refine eF rfl ?_) | simp (disch := omega) only [go_sem] | (with_reducible intro hg; try simp only [hC, reduceCtorEq] at hg) | exact Cl | fail)
    refine AW.loopV [1, 5] [0] (fun m xs o => ∃ i : Nat, xs = [.v (.int .i64 (mkc stRange l k i)), .v (.int .i64 i)] ∧ o = [(b, some (((mkp stRange l k i).map (encRange true)).flatMap AV.cells))] ∧ m = l.length - i ∧ i ≤ l.length) l.length [(b, some ((l.map (encRange true)).flatMap AV.cells))] (subO_one rfl) ⟨0, rfl, ?_, rfl, ?_⟩ ?_
    · rw [mkp_zero]
    · omega
    rintro m xs o ⟨i, rfl, rfl, rfl, hi⟩
    have h1 := mkc_ge (up_ge stRange_ge) l k i
    have h2 := mkc_le (up_ge stRange_ge) l k i
    (repeat' first | (with_reducible first | refine Z ?_ | refine Y ?_ | (refine hK _ _ ?_; clear hK K) | refine And.intro ?_ ?_ | exact Ct | intro (K : _ → _ → Prop) hK | (refine gI fun hg => ?_; try simp only [hC, reduceCtorEq] at hg; try simp only [hg])) | ((with_reducible refine E ?_; repeat refine Y ?_); refine eF rfl ?_) | simp (disch := omega) only [go_sem] | (with_reducible intro hg; try simp only [hC, reduceCtorEq] at hg) | exact Cl | fail)
    (refine AW.i rfl (fun h => ?_) (fun h => ?_) <;> try simp only [hC, reduceCtorEq] at h)
    · have h3 := mkc_le (up_ge stRange_ge) l k (i + 1)
      rw [mkd_at h]
      rw [mkc_step h] at h3
      have hpre := mkb_len (e := encRange true) (f := stRange) (sz := 2) (k := k) (fun _ => rfl) hi
      have hpost : (((l.drop (i + 1)).map (encRange true)).flatMap AV.cells).length = (l.length - (i + 1)) * 2 := by
        rw [fm_len (e := encRange true) (sz := 2) (fun _ => rfl), List.length_drop]
      have hnx := mkd_next (e := encRange true) (f := stRange) (k := k) h
      generalize mkb (encRange true) stRange l k i = pre at hpre hnx ⊢
      generalize ((l.drop (i + 1)).map (encRange true)).flatMap AV.cells = post at hnx hpost ⊢
      generalize e1 : at_ l i = x at *
      generalize e2 : mkc stRange l k i = c at *
      simp only [stRange] at h3
      (repeat' first | (with_reducible first | refine Z ?_ | refine Y ?_ | (refine hK _ _ ?_; clear hK K) | refine And.intro ?_ ?_ | exact Ct | intro (K : _ → _ → Prop) hK | (refine gI fun hg => ?_; try simp only [hC, reduceCtorEq] at hg; try simp only [hg])) | ((with_reducible refine E ?_; repeat refine Y ?_); refine eF rfl ?_) | simp (disch := omega) only [go_sem] | (with_reducible intro hg; try simp only [hC, reduceCtorEq] at hg) | exact Cl | fail)
      exact ⟨_, [_, _], _, by omega, ⟨i + 1, by rw [mkc_step h, e1, e2]; rfl, rfl, rfl, by omega⟩, rfl, subO_one hnx⟩
    · rw [mkc_end h, mkp_end h]
      all_goals exact uU
  · have : l = [] := by simpa using e
    subst this
    refine ⟨?_, rfl⟩
    refine Ctr.of_body en173 Tryz.func173 rfl rfl fun hp => (?_); rw [Tryz.ntmps173]
    (repeat' first | (with_reducible first | refine Z ?_ | refine Y ?_ | (refine hK _ _ ?_; clear hK K) | refine And.intro ?_ ?_ | exact Ct | intro (K : _ → _ → Prop) hK | (refine gI fun hg => ?_; try simp only [hC, reduceCtorEq] at hg; try simp only [hg])) | (refine AW.i rfl (fun h => ?_) (fun h => ?_) <;> try simp only [hC, reduceCtorEq] at h) | ((with_reducible refine E ?_; repeat refine Y ?_); refine eF rfl ?_) | simp (disch := omega) only [go_sem] | (with_reducible intro hg; try simp only [hC, reduceCtorEq] at hg) | exact Cl | fail)
    refine AW.loopV [] [0, 1, 5] (fun m xs o => xs = [] ∧ o = []) 0 [] trivial ⟨rfl, rfl⟩ ?_
    rintro m xs o ⟨rfl, rfl⟩
    (repeat' first | (with_reducible first | refine Z ?_ | refine Y ?_ | (refine hK _ _ ?_; clear hK K) | refine And.intro ?_ ?_ | exact Ct | intro (K : _ → _ → Prop) hK | (refine gI fun hg => ?_; try simp only [hC, reduceCtorEq] at hg; try simp only [hg])) | (refine AW.i rfl (fun h => ?_) (fun h => ?_) <;> try simp only [hC, reduceCtorEq] at h) | ((with_reducible refine E ?_; repeat refine Y ?_); refine eF rfl ?_) | simp (disch := omega) only [go_sem] | (with_reducible intro hg; try simp only [hC, reduceCtorEq] at hg) | exact Cl | fail)
    rfl
instance heldRangeS_i (l : List GRange) (k : Int) : Ctr lim Tryz.prog 175 [] [.sl false 2 ((mkL stRange l k).1.map (encRange false)), .v (.int .i64 k)] (.v (.int .i64 (mkL stRange l k).2)) [] (0 ≤ k ∧ (mkL stRange l k).2 ≤ 1099511627776) := by
  refine Ctr.of_body en175 Tryz.func175 rfl rfl fun hp => (?_); rw [Tryz.ntmps175]
  have hup := mkL_up stRange_ge l k
  have hml := mkL_len (f := stRange) l k
  (repeat' first | (with_reducible first | refine Z ?_ | refine Y ?_ | (refine hK _ _ ?_; clear hK K) | refine And.intro ?_ ?_ | exact Ct | intro (K : _ → _ → Prop) hK | (refine gI fun hg => ?_; try simp only [hC, reduceCtorEq] at hg; try simp only [hg])) | (refine AW.i rfl (fun h => ?_) (fun h => ?_) <;> try simp only [hC, reduceCtorEq] at h) | ((with_reducible refine E ?_; repeat refine Y ?_); refine eF rfl ?_) | simp (disch := omega) only [go_sem] | (with_reducible intro hg; try simp only [hC, reduceCtorEq] at hg) | exact Cl | fail)
  refine AW.loopV [1, 5] [0] (fun m xs o => ∃ i : Nat, xs = [.v (.int .i64 (mkc stRange l k i)), .v (.int .i64 i)] ∧ o = [] ∧ m = l.length - i ∧ i ≤ l.length) l.length [] trivial ⟨0, rfl, rfl, rfl, ?_⟩ ?_
  · omega
  rintro m xs o ⟨i, rfl, rfl, rfl, hi⟩
  have h1 := mkc_ge (up_ge stRange_ge) l k i
  have h2 := mkc_le (up_ge stRange_ge) l k i
  (repeat' first | (with_reducible first | refine Z ?_ | refine Y ?_ | (refine hK _ _ ?_; clear hK K) | refine And.intro ?_ ?_ | exact Ct | intro (K : _ → _ → Prop) hK | (refine gI fun hg => ?_; try simp only [hC, reduceCtorEq] at hg; try simp only [hg])) | ((with_reducible refine E ?_; repeat refine Y ?_); refine eF rfl ?_) | simp (disch := omega) only [go_sem] | (with_reducible intro hg; try simp only [hC, reduceCtorEq] at hg) | exact Cl | fail)
  (refine AW.i rfl (fun h => ?_) (fun h => ?_) <;> try simp only [hC, reduceCtorEq] at h)
  · rw [hml] at h
    have h3 := mkc_le (up_ge stRange_ge) l k (i + 1)
    have hat := mkL_at (f := stRange) (k := k) h
    rw [mkc_step h] at h3
    have hlt := h
    simp only [stRange] at h3 hat
    (repeat' first | (with_reducible first | refine Z ?_ | refine Y ?_ | (refine hK _ _ ?_; clear hK K) | refine And.intro ?_ ?_ | exact Ct | intro (K : _ → _ → Prop) hK | (refine gI fun hg => ?_; try simp only [hC, reduceCtorEq] at hg; try simp only [hg])) | (refine AW.i rfl (fun h => ?_) (fun h => ?_) <;> try simp only [hC, reduceCtorEq] at h) | ((with_reducible refine E ?_; repeat refine Y ?_); refine eF rfl ?_) | simp (disch := omega) only [go_sem, hat, beq_self_eq_true, bne_self_eq_false, Bool.not_true] | (with_reducible intro hg; try simp only [hC, reduceCtorEq] at hg) | exact Cl | fail)
    exact ⟨_, [_, _], [], by omega, ⟨i + 1, by rw [mkc_step hlt]; rfl, rfl, rfl, by omega⟩, rfl, trivial⟩
  · rw [hml] at h
    rw [mkc_end h]
    all_goals exact uU
instance markParamS_i (l : List GParam) (k : Int) : BCtr lim Tryz.prog 142 6 (l.map (encParam true)) [.v (.int .i64 k)] (.v (.int .i64 (mkL stParam l k).2)) ((mkL stParam l k).1.map (encParam true)) (0 ≤ k ∧ (mkL stParam l k).2 ≤ 1099511627776) := by
  refine BCtr.of en142 (fun b => ?_) (fun e => ?_) (by simp [mkL_len]) (map_elem (fun _ => rfl) _) (map_elem (fun _ => rfl) _)
  · simp only [List.length_map]
    refine Ctr.of_body en142 Tryz.func142 rfl rfl fun hp => (?_); rw [Tryz.ntmps142]
    have hup := mkL_up stParam_ge l k
    (repeat' first | (with_reducible first | refine Z ?_ | refine Y ?_ | (refine hK _ _ ?_; clear hK K) | refine And.intro ?_ ?_ | exact Ct | intro (K : _ → _ → Prop) hK | (refine gI fun hg => ?_; try simp only [hC, reduceCtorEq] at hg; try simp only [hg])) | (refine AW.i rfl (fun h => ?_) (fun h => ?_) <;> try simp only [hC, reduceCtorEq] at h) | ((with_reducible refine E ?_; repeat refine Y ?_); refine eF rfl ?_) | simp (disch := omega) only [go_sem] | (with_reducible intro hg; try simp only [hC, reduceCtorEq] at hg) | exact Cl | fail)
    refine AW.loopW [1, 5] [0] (fun m xs o => ∃ i : Nat, xs = [.v (.int .i64 (mkc stParam l k i)), .v (.int .i64 i)] ∧ o = [(b, some (((mkp stParam l k i).map (encParam true)).flatMap AV.cells))] ∧ m = l.length - i ∧ i ≤ l.length) l.length [(b, some ((l.map (encParam true)).flatMap AV.cells))] (subO_one rfl) ⟨0, rfl, ?_, rfl, ?_⟩ ?_
    · rw [mkp_zero]
    · omega
    rintro m xs o ⟨i, rfl, rfl, rfl, hi⟩
    have h1 := mkc_ge (up_ge stParam_ge) l k i
    have h2 := mkc_le (up_ge stParam_ge) l k i
    (repeat' first | (with_reducible first | refine Z ?_ | refine Y ?_ | (refine hK _ _ ?_; clear hK K) | refine And.intro ?_ ?_ | exact Ct | intro (K : _ → _ → Prop) hK | (refine gI fun hg => ?_; try simp only [hC, reduceCtorEq] at hg; try simp only [hg])) | ((with_reducible refine E ?_; repeat refine Y ?_); refine eF rfl ?_) | simp (disch := omega) only [go_sem] | (with_reducible intro hg; try simp only [hC, reduceCtorEq] at hg) | exact Cl | fail)
    (refine AW.i rfl (fun h => ?_) (fun h => ?_) <;> try simp only [hC, reduceCtorEq] at h)
    · have h3 := mkc_le (up_ge stParam_ge) l k (i + 1)
      rw [mkd_at h]
      rw [mkc_step h] at h3
      have hpre := mkb_len (e := encParam true) (f := stParam) (sz := 6) (k := k) (fun _ => rfl) hi
      have hpost : (((l.drop (i + 1)).map (encParam true)).flatMap AV.cells).length = (l.length - (i + 1)) * 6 := by
        rw [fm_len (e := encParam true) (sz := 6) (fun _ => rfl), List.length_drop]
      have hnx := mkd_next (e := encParam true) (f := stParam) (k := k) h
      generalize mkb (encParam true) stParam l k i = pre at hpre hnx ⊢
      generalize ((l.drop (i + 1)).map (encParam true)).flatMap AV.cells = post at hnx hpost ⊢
      generalize e1 : at_ l i = x at *
      generalize e2 : mkc stParam l k i = c at *
      refine AW.imp (Imp.pinE (b := b) pre [_, _, _, _, _, _] post (O_eq _ _ _) fun hs => ?_)
      simp (maxSteps := 2000000) (disch := omega) only [go_sem]
      have g0 := mkL_up stRange_ge x.fType.fRanges (c + 1 + 1)
      have g1 := mkL_up stString_ge x.fType.fNames ((mkL stRange x.fType.fRanges (c + 1 + 1)).2)
      simp only [stParam] at h3
      (repeat' first | (with_reducible first | refine Z ?_ | refine Y ?_ | (refine hK _ _ ?_; clear hK K) | refine And.intro ?_ ?_ | exact Ct | intro (K : _ → _ → Prop) hK | (refine gI fun hg => ?_; try simp only [hC, reduceCtorEq] at hg; try simp only [hg])) | ((with_reducible refine E ?_; repeat refine Y ?_); refine eF rfl ?_) | simp (disch := omega) only [go_sem] | (with_reducible intro hg; try simp only [hC, reduceCtorEq] at hg) | exact Cl | fail)
      refine Imp.unpE (b := b) pre [_, _, _, _, _, _] post (O_eq _ _ _) ?_
      simp (maxSteps := 2000000) (disch := omega) only [go_sem]
      exact ⟨_, [_, _], _, by omega, ⟨i + 1, by rw [mkc_step h, e1, e2]; rfl, rfl, rfl, by omega⟩, rfl, subO_one hnx⟩
    · rw [mkc_end h, mkp_end h]
      all_goals exact uU
  · have : l = [] := by simpa using e
    subst this
    refine ⟨?_, rfl⟩
    refine Ctr.of_body en142 Tryz.func142 rfl rfl fun hp => (?_); rw [Tryz.ntmps142]
    (repeat' first | (with_reducible first | refine Z ?_ | refine Y ?_ | (refine hK _ _ ?_; clear hK K) | refine And.intro ?_ ?_ | exact Ct | intro (K : _ → _ → Prop) hK | (refine gI fun hg => ?_; try simp only [hC, reduceCtorEq] at hg; try simp only [hg])) | (refine AW.i rfl (fun h => ?_) (fun h => ?_) <;> try simp only [hC, reduceCtorEq] at h) | ((with_reducible refine E ?_; repeat refine Y ?_); refine eF rfl ?_) | simp (disch := omega) only [go_sem] | (with_reducible intro hg; try simp only [hC, reduceCtorEq] at hg) | exact Cl | fail)
    refine AW.loopV [] [0, 1, 5] (fun m xs o => xs = [] ∧ o = []) 0 [] trivial ⟨rfl, rfl⟩ ?_
    rintro m xs o ⟨rfl, rfl⟩
    (repeat' first | (with_reducible first | refine Z ?_ | refine Y ?_ | (refine hK _ _ ?_; clear hK K) | refine And.intro ?_ ?_ | exact Ct | intro (K : _ → _ → Prop) hK | (refine gI fun hg => ?_; try simp only [hC, reduceCtorEq] at hg; try simp only [hg])) | (refine AW.i rfl (fun h => ?_) (fun h => ?_) <;> try simp only [hC, reduceCtorEq] at h) | ((with_reducible refine E ?_; repeat refine Y ?_); refine eF rfl ?_) | simp (disch := omega) only [go_sem] | (with_reducible intro hg; try simp only [hC, reduceCtorEq] at hg) | exact Cl | fail)
    rfl
instance heldParamS_i (l : List GParam) (k : Int) : Ctr lim Tryz.prog 143 [] [.sl false 6 ((mkL stParam l k).1.map (encParam false)), .v (.int .i64 k)] (.v (.int .i64 (mkL stParam l k).2)) [] (0 ≤ k ∧ (mkL stParam l k).2 ≤ 1099511627776) := by
  refine Ctr.of_body en143 Tryz.func143 rfl rfl fun hp => (?_); rw [Tryz.ntmps143]
  have hup := mkL_up stParam_ge l k
  have hml := mkL_len (f := stParam) l k
  (repeat' first | (with_reducible first | refine Z ?_ | refine Y ?_ | (refine hK _ _ ?_; clear hK K) | refine And.intro ?_ ?_ | exact Ct | intro (K : _ → _ → Prop) hK | (refine gI fun hg => ?_; try simp only [hC, reduceCtorEq] at hg; try simp only [hg])) | (refine AW.i rfl (fun h => ?_) (fun h => ?_) <;> try simp only [hC, reduceCtorEq] at h) | ((with_reducible refine E ?_; repeat refine Y ?_); refine eF rfl ?_) | simp (disch := omega) only [go_sem] | (with_reducible intro hg; try simp only [hC, reduceCtorEq] at hg) | exact Cl | fail)
  refine AW.loopV [1, 5] [0] (fun m xs o => ∃ i : Nat, xs = [.v (.int .i64 (mkc stParam l k i)), .v (.int .i64 i)] ∧ o = [] ∧ m = l.length - i ∧ i ≤ l.length) l.length [] trivial ⟨0, rfl, rfl, rfl, ?_⟩ ?_
  · omega
  rintro m xs o ⟨i, rfl, rfl, rfl, hi⟩
  have h1 := mkc_ge (up_ge stParam_ge) l k i
  have h2 := mkc_le (up_ge stParam_ge) l k i
  (repeat' first | (with_reducible first | refine Z ?_ | refine Y ?_ | (refine hK _ _ ?_; clear hK K) | refine And.intro ?_ ?_ | exact Ct | intro (K : _ → _ → Prop) hK | (refine gI fun hg => ?_; try simp only [hC, reduceCtorEq] at hg; try simp only [hg])) | ((with_reducible refine E ?_; repeat refine Y ?_); refine eF rfl ?_) | simp (disch := omega) only [go_sem] | (with_reducible intro hg; try simp only [hC, reduceCtorEq] at hg) | exact Cl | fail)
  (refine AW.i rfl (fun h => ?_) (fun h => ?_) <;> try simp only [hC, reduceCtorEq] at h)
  · rw [hml] at h
    have h3 := mkc_le (up_ge stParam_ge) l k (i + 1)
    have hat := mkL_at (f := stParam) (k := k) h
    rw [mkc_step h] at h3
    have hlt := h
    simp only [stParam] at h3 hat
    have g0 := mkL_up stRange_ge (at_ l i).fType.fRanges ((mkc stParam l k i) + 1 + 1)
    have g1 := mkL_up stString_ge (at_ l i).fType.fNames ((mkL stRange (at_ l i).fType.fRanges ((mkc stParam l k i) + 1 + 1)).2)
    (repeat' first | (with_reducible first | refine Z ?_ | refine Y ?_ | (refine hK _ _ ?_; clear hK K) | refine And.intro ?_ ?_ | exact Ct | intro (K : _ → _ → Prop) hK | (refine gI fun hg => ?_; try simp only [hC, reduceCtorEq] at hg; try simp only [hg])) | (refine AW.i rfl (fun h => ?_) (fun h => ?_) <;> try simp only [hC, reduceCtorEq] at h) | ((with_reducible refine E ?_; repeat refine Y ?_); refine eF rfl ?_) | simp (disch := omega) only [go_sem, hat, beq_self_eq_true, bne_self_eq_false, Bool.not_true] | (with_reducible intro hg; try simp only [hC, reduceCtorEq] at hg) | exact Cl | fail)
    exact ⟨_, [_, _], [], by omega, ⟨i + 1, by rw [mkc_step hlt]; rfl, rfl, rfl, by omega⟩, rfl, trivial⟩
  · rw [hml] at h
    rw [mkc_end h]
    all_goals exact uU
theorem markNodeS_n : ∀ (n : Nat) (l : List GNode) (k : Int), BCtr lim Tryz.prog 61 3 (l.map (encNode true)) [.v (.int .i64 k)] (.v (.int .i64 (mkL stNode l k).2)) ((mkL stNode l k).1.map (encNode true)) (SizeOf.sizeOf l < n ∧ 0 ≤ k ∧ (mkL stNode l k).2 ≤ 1099511627776)
  | 0, l, k => ⟨en61, fun h => absurd h.1 (Nat.not_lt_zero _)⟩
  | n + 1, l, k => by
    have ih := markNodeS_n n
    refine BCtr.of en61 (fun b => ?_) (fun e => ?_) (by simp [mkL_len]) (map_elem (fun x => by rw [encNode_eq]; rfl) _) (map_elem (fun x => by rw [encNode_eq]; rfl) _)
    · simp only [List.length_map]
      refine Ctr.of_body en61 Tryz.func61 rfl rfl fun hp => (?_); rw [Tryz.ntmps61]
      have hup := mkL_up stNode_ge l k
      (repeat' first | (with_reducible first | refine Z ?_ | refine Y ?_ | (refine hK _ _ ?_; clear hK K) | refine And.intro ?_ ?_ | exact Ct | intro (K : _ → _ → Prop) hK | (refine gI fun hg => ?_; try simp only [hC, reduceCtorEq] at hg; try simp only [hg])) | (refine AW.i rfl (fun h => ?_) (fun h => ?_) <;> try simp only [hC, reduceCtorEq] at h) | ((with_reducible refine E ?_; repeat refine Y ?_); refine eF rfl ?_) | simp (disch := omega) only [go_sem] | (with_reducible intro hg; try simp only [hC, reduceCtorEq] at hg) | exact Cl | fail)
      refine AW.loopW [1, 5] [0] (fun m xs o => ∃ i : Nat, xs = [.v (.int .i64 (mkc stNode l k i)), .v (.int .i64 i)] ∧ o = [(b, some (((mkp stNode l k i).map (encNode true)).flatMap AV.cells))] ∧ m = l.length - i ∧ i ≤ l.length) l.length [(b, some ((l.map (encNode true)).flatMap AV.cells))] (subO_one rfl) ⟨0, rfl, ?_, rfl, ?_⟩ ?_
      · rw [mkp_zero]
      · omega
      rintro m xs o ⟨i, rfl, rfl, rfl, hi⟩
      have h1 := mkc_ge (up_ge stNode_ge) l k i
      have h2 := mkc_le (up_ge stNode_ge) l k i
      (repeat' first | (with_reducible first | refine Z ?_ | refine Y ?_ | (refine hK _ _ ?_; clear hK K) | refine And.intro ?_ ?_ | exact Ct | intro (K : _ → _ → Prop) hK | (refine gI fun hg => ?_; try simp only [hC, reduceCtorEq] at hg; try simp only [hg])) | ((with_reducible refine E ?_; repeat refine Y ?_); refine eF rfl ?_) | simp (disch := omega) only [go_sem] | (with_reducible intro hg; try simp only [hC, reduceCtorEq] at hg) | exact Cl | fail)
      (refine AW.i rfl (fun h => ?_) (fun h => ?_) <;> try simp only [hC, reduceCtorEq] at h)
      · have h3 := mkc_le (up_ge stNode_ge) l k (i + 1)
        rw [mkd_at h]
        rw [mkc_step h] at h3
        have hpre := mkb_len (e := encNode true) (f := stNode) (sz := 3) (k := k) (fun x => by rw [encNode_eq]; rfl) hi
        have hpost : (((l.drop (i + 1)).map (encNode true)).flatMap AV.cells).length = (l.length - (i + 1)) * 3 := by
          rw [fm_len (e := encNode true) (sz := 3) (fun x => by rw [encNode_eq]; rfl), List.length_drop]
        have hnx := mkd_next (e := encNode true) (f := stNode) (k := k) h
        have hkk : SizeOf.sizeOf (at_ l i).fKids < n := by have := GNode.kids_lt (at_mem h); omega
        rw [stNode_eq] at hnx
        generalize mkb (encNode true) stNode l k i = pre at hpre hnx ⊢
        generalize ((l.drop (i + 1)).map (encNode true)).flatMap AV.cells = post at hnx hpost ⊢
        generalize e1 : at_ l i = x at *
        generalize e2 : mkc stNode l k i = c at *
        rw [encNode_eq]
        simp only [encNode_eq] at hnx
        refine AW.imp (Imp.pinE (b := b) pre [_, _, _] post (O_eq _ _ _) fun hs => ?_)
        simp (maxSteps := 2000000) (disch := omega) only [go_sem]
        have g0 := mkL_up stNode_ge x.fKids (c + 1 + 1)
        rw [stNode_eq] at h3; simp only at h3
        (repeat' first | (with_reducible first | refine Z ?_ | refine Y ?_ | (refine hK _ _ ?_; clear hK K) | refine And.intro ?_ ?_ | exact Ct | intro (K : _ → _ → Prop) hK | (refine gI fun hg => ?_; try simp only [hC, reduceCtorEq] at hg; try simp only [hg])) | ((with_reducible refine E ?_; repeat refine Y ?_); refine eF rfl ?_) | simp (disch := omega) only [go_sem] | (with_reducible intro hg; try simp only [hC, reduceCtorEq] at hg) | exact Cl | fail)
        refine Imp.unpE (b := b) pre [_, _, _] post (O_eq _ _ _) ?_
        simp (maxSteps := 2000000) (disch := omega) only [go_sem]
        exact ⟨_, [_, _], _, by omega, ⟨i + 1, by rw [mkc_step h, e1, e2, stNode_eq], rfl, rfl, by omega⟩, rfl, subO_one hnx⟩
      · rw [mkc_end h, mkp_end h]
        all_goals exact uU
    · have : l = [] := by simpa using e
      subst this
      refine ⟨?_, rfl⟩
      refine Ctr.of_body en61 Tryz.func61 rfl rfl fun hp => (?_); rw [Tryz.ntmps61]
      (repeat' first | (with_reducible first | refine Z ?_ | refine Y ?_ | (refine hK _ _ ?_; clear hK K) | refine And.intro ?_ ?_ | exact Ct | intro (K : _ → _ → Prop) hK | (refine gI fun hg => ?_; try simp only [hC, reduceCtorEq] at hg; try simp only [hg])) | (refine AW.i rfl (fun h => ?_) (fun h => ?_) <;> try simp only [hC, reduceCtorEq] at h) | ((with_reducible refine E ?_; repeat refine Y ?_); refine eF rfl ?_) | simp (disch := omega) only [go_sem] | (with_reducible intro hg; try simp only [hC, reduceCtorEq] at hg) | exact Cl | fail)
      refine AW.loopV [] [0, 1, 5] (fun m xs o => xs = [] ∧ o = []) 0 [] trivial ⟨rfl, rfl⟩ ?_
      rintro m xs o ⟨rfl, rfl⟩
      (repeat' first | (with_reducible first | refine Z ?_ | refine Y ?_ | (refine hK _ _ ?_; clear hK K) | refine And.intro ?_ ?_ | exact Ct | intro (K : _ → _ → Prop) hK | (refine gI fun hg => ?_; try simp only [hC, reduceCtorEq] at hg; try simp only [hg])) | (refine AW.i rfl (fun h => ?_) (fun h => ?_) <;> try simp only [hC, reduceCtorEq] at h) | ((with_reducible refine E ?_; repeat refine Y ?_); refine eF rfl ?_) | simp (disch := omega) only [go_sem] | (with_reducible intro hg; try simp only [hC, reduceCtorEq] at hg) | exact Cl | fail)
      rfl
instance markNodeS_i (l : List GNode) (k : Int) : BCtr lim Tryz.prog 61 3 (l.map (encNode true)) [.v (.int .i64 k)] (.v (.int .i64 (mkL stNode l k).2)) ((mkL stNode l k).1.map (encNode true)) (0 ≤ k ∧ (mkL stNode l k).2 ≤ 1099511627776) := ⟨en61, fun h => (markNodeS_n (SizeOf.sizeOf l + 1) l k).out ⟨Nat.lt_succ_self _, h⟩⟩
theorem heldNodeS_n : ∀ (n : Nat) (l : List GNode) (k : Int), Ctr lim Tryz.prog 63 [] [.sl false 3 ((mkL stNode l k).1.map (encNode false)), .v (.int .i64 k)] (.v (.int .i64 (mkL stNode l k).2)) [] (SizeOf.sizeOf l < n ∧ 0 ≤ k ∧ (mkL stNode l k).2 ≤ 1099511627776)
  | 0, l, k => ⟨en63, fun h => absurd h.1 (Nat.not_lt_zero _)⟩
  | n + 1, l, k => by
    have ih := heldNodeS_n n
    refine Ctr.of_body en63 Tryz.func63 rfl rfl fun hp => (?_); rw [Tryz.ntmps63]
    have hup := mkL_up stNode_ge l k
    have hml := mkL_len (f := stNode) l k
    (repeat' first | (with_reducible first | refine Z ?_ | refine Y ?_ | (refine hK _ _ ?_; clear hK K) | refine And.intro ?_ ?_ | exact Ct | intro (K : _ → _ → Prop) hK | (refine gI fun hg => ?_; try simp only [hC, reduceCtorEq] at hg; try simp only [hg])) | (refine AW.i rfl (fun h => ?_) (fun h => ?_) <;> try simp only [hC, reduceCtorEq] at h) | ((with_reducible refine E ?_; repeat refine Y ?_); refine eF rfl ?_) | simp (disch := omega) only [go_sem] | (with_reducible intro hg; try simp only [hC, reduceCtorEq] at hg) | exact Cl | fail)
    refine AW.loopV [1, 5] [0] (fun m xs o => ∃ i : Nat, xs = [.v (.int .i64 (mkc stNode l k i)), .v (.int .i64 i)] ∧ o = [] ∧ m = l.length - i ∧ i ≤ l.length) l.length [] trivial ⟨0, rfl, rfl, rfl, ?_⟩ ?_
    · omega
    rintro m xs o ⟨i, rfl, rfl, rfl, hi⟩
    have h1 := mkc_ge (up_ge stNode_ge) l k i
    have h2 := mkc_le (up_ge stNode_ge) l k i
    (repeat' first | (with_reducible first | refine Z ?_ | refine Y ?_ | (refine hK _ _ ?_; clear hK K) | refine And.intro ?_ ?_ | exact Ct | intro (K : _ → _ → Prop) hK | (refine gI fun hg => ?_; try simp only [hC, reduceCtorEq] at hg; try simp only [hg])) | ((with_reducible refine E ?_; repeat refine Y ?_); refine eF rfl ?_) | simp (disch := omega) only [go_sem] | (with_reducible intro hg; try simp only [hC, reduceCtorEq] at hg) | exact Cl | fail)
    (refine AW.i rfl (fun h => ?_) (fun h => ?_) <;> try simp only [hC, reduceCtorEq] at h)
    · rw [hml] at h
      have h3 := mkc_le (up_ge stNode_ge) l k (i + 1)
      have hat := mkL_at (f := stNode) (k := k) h
      rw [mkc_step h] at h3
      have hlt := h
      have hkk : SizeOf.sizeOf (at_ l i).fKids < n := by have := GNode.kids_lt (at_mem h); omega
      rw [stNode_eq] at h3 hat
      simp only at h3 hat
      have g0 := mkL_up stNode_ge (at_ l i).fKids ((mkc stNode l k i) + 1 + 1)
      have hat0 : (at_ (mkL stNode l k).1 i).fName = mkT ((mkc stNode l k i)) := by rw [hat]; rfl
      have hat1 : (at_ (mkL stNode l k).1 i).fValue = mkT ((mkc stNode l k i) + 1) := by rw [hat]; rfl
      have hat2 : (at_ (mkL stNode l k).1 i).fKids = (mkL stNode (at_ l i).fKids ((mkc stNode l k i) + 1 + 1)).1 := by rw [hat]; rfl
      (repeat' first | (with_reducible first | refine Z ?_ | refine Y ?_ | (refine hK _ _ ?_; clear hK K) | refine And.intro ?_ ?_ | exact Ct | intro (K : _ → _ → Prop) hK | (refine gI fun hg => ?_; try simp only [hC, reduceCtorEq] at hg; try simp only [hg])) | (refine AW.i rfl (fun h => ?_) (fun h => ?_) <;> try simp only [hC, reduceCtorEq] at h) | ((with_reducible refine E ?_; repeat refine Y ?_); refine eF rfl ?_) | simp (disch := omega) only [go_sem, hat0, hat1, hat2, beq_self_eq_true, bne_self_eq_false, Bool.not_true] | (with_reducible intro hg; try simp only [hC, reduceCtorEq] at hg) | exact Cl | fail)
      exact ⟨_, [_, _], [], by omega, ⟨i + 1, by rw [mkc_step hlt, stNode_eq], rfl, rfl, by omega⟩, rfl, trivial⟩
    · rw [hml] at h
      rw [mkc_end h]
      all_goals exact uU
instance heldNodeS_i (l : List GNode) (k : Int) : Ctr lim Tryz.prog 63 [] [.sl false 3 ((mkL stNode l k).1.map (encNode false)), .v (.int .i64 k)] (.v (.int .i64 (mkL stNode l k).2)) [] (0 ≤ k ∧ (mkL stNode l k).2 ≤ 1099511627776) := ⟨en63, fun h => (heldNodeS_n (SizeOf.sizeOf l + 1) l k).out ⟨Nat.lt_succ_self _, h⟩⟩
instance markTemplateS_i (l : List GTemplate) (k : Int) : BCtr lim Tryz.prog 85 3 (l.map (encTemplate true)) [.v (.int .i64 k)] (.v (.int .i64 (mkL stTemplate l k).2)) ((mkL stTemplate l k).1.map (encTemplate true)) (0 ≤ k ∧ (mkL stTemplate l k).2 ≤ 1099511627776) := by
  refine BCtr.of en85 (fun b => ?_) (fun e => ?_) (by simp [mkL_len]) (map_elem (fun _ => rfl) _) (map_elem (fun _ => rfl) _)
  · simp only [List.length_map]
    refine Ctr.of_body en85 Tryz.func85 rfl rfl fun hp => (?_); rw [Tryz.ntmps85]
    have hup := mkL_up stTemplate_ge l k
    (repeat' first | (with_reducible first | refine Z ?_ | refine Y ?_ | (refine hK _ _ ?_; clear hK K) | refine And.intro ?_ ?_ | exact Ct | intro (K : _ → _ → Prop) hK | (refine gI fun hg => ?_; try simp only [hC, reduceCtorEq] at hg; try simp only [hg])) | (refine AW.i rfl (fun h => ?_) (fun h => ?_) <;> try simp only [hC, reduceCtorEq] at h) | ((with_reducible refine E ?_; repeat refine Y ?_); refine eF rfl ?_) | simp (disch := omega) only [go_sem] | (with_reducible intro hg; try simp only [hC, reduceCtorEq] at hg) | exact Cl | fail)
    refine AW.loopW [1, 5] [0] (fun m xs o => ∃ i : Nat, xs = [.v (.int .i64 (mkc stTemplate l k i)), .v (.int .i64 i)] ∧ o = [(b, some (((mkp stTemplate l k i).map (encTemplate true)).flatMap AV.cells))] ∧ m = l.length - i ∧ i ≤ l.length) l.length [(b, some ((l.map (encTemplate true)).flatMap AV.cells))] (subO_one rfl) ⟨0, rfl, ?_, rfl, ?_⟩ ?_
    · rw [mkp_zero]
    · omega
    rintro m xs o ⟨i, rfl, rfl, rfl, hi⟩
    have h1 := mkc_ge (up_ge stTemplate_ge) l k i
    have h2 := mkc_le (up_ge stTemplate_ge) l k i
    (repeat' first | (with_reducible first | refine Z ?_ | refine Y ?_ | (refine hK _ _ ?_; clear hK K) | refine And.intro ?_ ?_ | exact Ct | intro (K : _ → _ → Prop) hK | (refine gI fun hg => ?_; try simp only [hC, reduceCtorEq] at hg; try simp only [hg])) | ((with_reducible refine E ?_; repeat refine Y ?_); refine eF rfl ?_) | simp (disch := omega) only [go_sem] | (with_reducible intro hg; try simp only [hC, reduceCtorEq] at hg) | exact Cl | fail)
    (refine AW.i rfl (fun h => ?_) (fun h => ?_) <;> try simp only [hC, reduceCtorEq] at h)
    · have h3 := mkc_le (up_ge stTemplate_ge) l k (i + 1)
      rw [mkd_at h]
      rw [mkc_step h] at h3
      have hpre := mkb_len (e := encTemplate true) (f := stTemplate) (sz := 3) (k := k) (fun _ => rfl) hi
      have hpost : (((l.drop (i + 1)).map (encTemplate true)).flatMap AV.cells).length = (l.length - (i + 1)) * 3 := by
        rw [fm_len (e := encTemplate true) (sz := 3) (fun _ => rfl), List.length_drop]
      have hnx := mkd_next (e := encTemplate true) (f := stTemplate) (k := k) h
      generalize mkb (encTemplate true) stTemplate l k i = pre at hpre hnx ⊢
      generalize ((l.drop (i + 1)).map (encTemplate true)).flatMap AV.cells = post at hnx hpost ⊢
      generalize e1 : at_ l i = x at *
      generalize e2 : mkc stTemplate l k i = c at *
      refine AW.imp (Imp.pinE (b := b) pre [_, _, _] post (O_eq _ _ _) fun hs => ?_)
      simp (maxSteps := 2000000) (disch := omega) only [go_sem]
      have g0 := mkL_up stParam_ge x.fParams (c + 1)
      have g1 := mkL_up stNode_ge x.fBody ((mkL stParam x.fParams (c + 1)).2)
      simp only [stTemplate] at h3
      (repeat' first | (with_reducible first | refine Z ?_ | refine Y ?_ | (refine hK _ _ ?_; clear hK K) | refine And.intro ?_ ?_ | exact Ct | intro (K : _ → _ → Prop) hK | (refine gI fun hg => ?_; try simp only [hC, reduceCtorEq] at hg; try simp only [hg])) | ((with_reducible refine E ?_; repeat refine Y ?_); refine eF rfl ?_) | simp (disch := omega) only [go_sem] | (with_reducible intro hg; try simp only [hC, reduceCtorEq] at hg) | exact Cl | fail)
      refine Imp.unpE (b := b) pre [_, _, _] post (O_eq _ _ _) ?_
      simp (maxSteps := 2000000) (disch := omega) only [go_sem]
      exact ⟨_, [_, _], _, by omega, ⟨i + 1, by rw [mkc_step h, e1, e2]; rfl, rfl, rfl, by omega⟩, rfl, subO_one hnx⟩
    · rw [mkc_end h, mkp_end h]
      all_goals exact uU
  · have : l = [] := by simpa using e
    subst this
    refine ⟨?_, rfl⟩
    refine Ctr.of_body en85 Tryz.func85 rfl rfl fun hp => (?_); rw [Tryz.ntmps85]
    (repeat' first | (with_reducible first | refine Z ?_ | refine Y ?_ | (refine hK _ _ ?_; clear hK K) | refine And.intro ?_ ?_ | exact Ct | intro (K : _ → _ → Prop) hK | (refine gI fun hg => ?_; try simp only [hC, reduceCtorEq] at hg; try simp only [hg])) | (refine AW.i rfl (fun h => ?_) (fun h => ?_) <;> try simp only [hC, reduceCtorEq] at h) | ((with_reducible refine E ?_; repeat refine Y ?_); refine eF rfl ?_) | simp (disch := omega) only [go_sem] | (with_reducible intro hg; try simp only [hC, reduceCtorEq] at hg) | exact Cl | fail)
    refine AW.loopV [] [0, 1, 5] (fun m xs o => xs = [] ∧ o = []) 0 [] trivial ⟨rfl, rfl⟩ ?_
    rintro m xs o ⟨rfl, rfl⟩
    (repeat' first | (with_reducible first | refine Z ?_ | refine Y ?_ | (refine hK _ _ ?_; clear hK K) | refine And.intro ?_ ?_ | exact Ct | intro (K : _ → _ → Prop) hK | (refine gI fun hg => ?_; try simp only [hC, reduceCtorEq] at hg; try simp only [hg])) | (refine AW.i rfl (fun h => ?_) (fun h => ?_) <;> try simp only [hC, reduceCtorEq] at h) | ((with_reducible refine E ?_; repeat refine Y ?_); refine eF rfl ?_) | simp (disch := omega) only [go_sem] | (with_reducible intro hg; try simp only [hC, reduceCtorEq] at hg) | exact Cl | fail)
    rfl
instance heldTemplateS_i (l : List GTemplate) (k : Int) : Ctr lim Tryz.prog 88 [] [.sl false 3 ((mkL stTemplate l k).1.map (encTemplate false)), .v (.int .i64 k)] (.v (.int .i64 (mkL stTemplate l k).2)) [] (0 ≤ k ∧ (mkL stTemplate l k).2 ≤ 1099511627776) := by
  refine Ctr.of_body en88 Tryz.func88 rfl rfl fun hp => (?_); rw [Tryz.ntmps88]
  have hup := mkL_up stTemplate_ge l k
  have hml := mkL_len (f := stTemplate) l k
  (repeat' first | (with_reducible first | refine Z ?_ | refine Y ?_ | (refine hK _ _ ?_; clear hK K) | refine And.intro ?_ ?_ | exact Ct | intro (K : _ → _ → Prop) hK | (refine gI fun hg => ?_; try simp only [hC, reduceCtorEq] at hg; try simp only [hg])) | (refine AW.i rfl (fun h => ?_) (fun h => ?_) <;> try simp only [hC, reduceCtorEq] at h) | ((with_reducible refine E ?_; repeat refine Y ?_); refine eF rfl ?_) | simp (disch := omega) only [go_sem] | (with_reducible intro hg; try simp only [hC, reduceCtorEq] at hg) | exact Cl | fail)
  refine AW.loopV [1, 5] [0] (fun m xs o => ∃ i : Nat, xs = [.v (.int .i64 (mkc stTemplate l k i)), .v (.int .i64 i)] ∧ o = [] ∧ m = l.length - i ∧ i ≤ l.length) l.length [] trivial ⟨0, rfl, rfl, rfl, ?_⟩ ?_
  · omega
  rintro m xs o ⟨i, rfl, rfl, rfl, hi⟩
  have h1 := mkc_ge (up_ge stTemplate_ge) l k i
  have h2 := mkc_le (up_ge stTemplate_ge) l k i
  (repeat' first | (with_reducible first | refine Z ?_ | refine Y ?_ | (refine hK _ _ ?_; clear hK K) | refine And.intro ?_ ?_ | exact Ct | intro (K : _ → _ → Prop) hK | (refine gI fun hg => ?_; try simp only [hC, reduceCtorEq] at hg; try simp only [hg])) | ((with_reducible refine E ?_; repeat refine Y ?_); refine eF rfl ?_) | simp (disch := omega) only [go_sem] | (with_reducible intro hg; try simp only [hC, reduceCtorEq] at hg) | exact Cl | fail)
  (refine AW.i rfl (fun h => ?_) (fun h => ?_) <;> try simp only [hC, reduceCtorEq] at h)
  · rw [hml] at h
    have h3 := mkc_le (up_ge stTemplate_ge) l k (i + 1)
    have hat := mkL_at (f := stTemplate) (k := k) h
    rw [mkc_step h] at h3
    have hlt := h
    simp only [stTemplate] at h3 hat
    have g0 := mkL_up stParam_ge (at_ l i).fParams ((mkc stTemplate l k i) + 1)
    have g1 := mkL_up stNode_ge (at_ l i).fBody ((mkL stParam (at_ l i).fParams ((mkc stTemplate l k i) + 1)).2)
    (repeat' first | (with_reducible first | refine Z ?_ | refine Y ?_ | (refine hK _ _ ?_; clear hK K) | refine And.intro ?_ ?_ | exact Ct | intro (K : _ → _ → Prop) hK | (refine gI fun hg => ?_; try simp only [hC, reduceCtorEq] at hg; try simp only [hg])) | (refine AW.i rfl (fun h => ?_) (fun h => ?_) <;> try simp only [hC, reduceCtorEq] at h) | ((with_reducible refine E ?_; repeat refine Y ?_); refine eF rfl ?_) | simp (disch := omega) only [go_sem, hat, beq_self_eq_true, bne_self_eq_false, Bool.not_true] | (with_reducible intro hg; try simp only [hC, reduceCtorEq] at hg) | exact Cl | fail)
    exact ⟨_, [_, _], [], by omega, ⟨i + 1, by rw [mkc_step hlt]; rfl, rfl, rfl, by omega⟩, rfl, trivial⟩
  · rw [hml] at h
    rw [mkc_end h]
    all_goals exact uU
instance markArgS_i (l : List GArg) (k : Int) : BCtr lim Tryz.prog 87 2 (l.map (encArg true)) [.v (.int .i64 k)] (.v (.int .i64 (mkL stArg l k).2)) ((mkL stArg l k).1.map (encArg true)) (0 ≤ k ∧ (mkL stArg l k).2 ≤ 1099511627776) := by
  refine BCtr.of en87 (fun b => ?_) (fun e => ?_) (by simp [mkL_len]) (map_elem (fun _ => rfl) _) (map_elem (fun _ => rfl) _)
  · simp only [List.length_map]
    refine Ctr.of_body en87 Tryz.func87 rfl rfl fun hp => (?_); rw [Tryz.ntmps87]
    have hup := mkL_up stArg_ge l k
    (repeat' first | (with_reducible first | refine Z ?_ | refine Y ?_ | (refine hK _ _ ?_; clear hK K) | refine And.intro ?_ ?_ | exact Ct | intro (K : _ → _ → Prop) hK | (refine gI fun hg => ?_; try simp only [hC, reduceCtorEq] at hg; try simp only [hg])) | (refine AW.i rfl (fun h => ?_) (fun h => ?_) <;> try simp only [hC, reduceCtorEq] at h) | ((with_reducible refine E ?_; repeat refine Y ?_); refine eF rfl ?_) | simp (disch := omega) only [go_sem] | (with_reducible intro hg; try simp only [hC, reduceCtorEq] at hg) | exact Cl | fail)
    refine AW.loopV [1, 5] [0] (fun m xs o => ∃ i : Nat, xs = [.v (.int .i64 (mkc stArg l k i)), .v (.int .i64 i)] ∧ o = [(b, some (((mkp stArg l k i).map (encArg true)).flatMap AV.cells))] ∧ m = l.length - i ∧ i ≤ l.length) l.length [(b, some ((l.map (encArg true)).flatMap AV.cells))] (subO_one rfl) ⟨0, rfl, ?_, rfl, ?_⟩ ?_
    · rw [mkp_zero]
    · omega
    rintro m xs o ⟨i, rfl, rfl, rfl, hi⟩
    have h1 := mkc_ge (up_ge stArg_ge) l k i
    have h2 := mkc_le (up_ge stArg_ge) l k i
    (repeat' first | (with_reducible first | refine Z ?_ | refine Y ?_ | (refine hK _ _ ?_; clear hK K) | refine And.intro ?_ ?_ | exact Ct | intro (K : _ → _ → Prop) hK | (refine gI fun hg => ?_; try simp only [hC, reduceCtorEq] at hg; try simp only [hg])) | ((with_reducible refine E ?_; repeat refine Y ?_); refine eF rfl ?_) | simp (disch := omega) only [go_sem] | (with_reducible intro hg; try simp only [hC, reduceCtorEq] at hg) | exact Cl | fail)
    (refine AW.i rfl (fun h => ?_) (fun h => ?_) <;> try simp only [hC, reduceCtorEq] at h)
    · have h3 := mkc_le (up_ge stArg_ge) l k (i + 1)
      rw [mkd_at h]
      rw [mkc_step h] at h3
      have hpre := mkb_len (e := encArg true) (f := stArg) (sz := 2) (k := k) (fun _ => rfl) hi
      have hpost : (((l.drop (i + 1)).map (encArg true)).flatMap AV.cells).length = (l.length - (i + 1)) * 2 := by
        rw [fm_len (e := encArg true) (sz := 2) (fun _ => rfl), List.length_drop]
      have hnx := mkd_next (e := encArg true) (f := stArg) (k := k) h
      generalize mkb (encArg true) stArg l k i = pre at hpre hnx ⊢
      generalize ((l.drop (i + 1)).map (encArg true)).flatMap AV.cells = post at hnx hpost ⊢
      generalize e1 : at_ l i = x at *
      generalize e2 : mkc stArg l k i = c at *
      simp only [stArg] at h3
      (repeat' first | (with_reducible first | refine Z ?_ | refine Y ?_ | (refine hK _ _ ?_; clear hK K) | refine And.intro ?_ ?_ | exact Ct | intro (K : _ → _ → Prop) hK | (refine gI fun hg => ?_; try simp only [hC, reduceCtorEq] at hg; try simp only [hg])) | ((with_reducible refine E ?_; repeat refine Y ?_); refine eF rfl ?_) | simp (disch := omega) only [go_sem] | (with_reducible intro hg; try simp only [hC, reduceCtorEq] at hg) | exact Cl | fail)
      exact ⟨_, [_, _], _, by omega, ⟨i + 1, by rw [mkc_step h, e1, e2]; rfl, rfl, rfl, by omega⟩, rfl, subO_one hnx⟩
    · rw [mkc_end h, mkp_end h]
      all_goals exact uU
  · have : l = [] := by simpa using e
    subst this
    refine ⟨?_, rfl⟩
    refine Ctr.of_body en87 Tryz.func87 rfl rfl fun hp => (?_); rw [Tryz.ntmps87]
    (repeat' first | (with_reducible first | refine Z ?_ | refine Y ?_ | (refine hK _ _ ?_; clear hK K) | refine And.intro ?_ ?_ | exact Ct | intro (K : _ → _ → Prop) hK | (refine gI fun hg => ?_; try simp only [hC, reduceCtorEq] at hg; try simp only [hg])) | (refine AW.i rfl (fun h => ?_) (fun h => ?_) <;> try simp only [hC, reduceCtorEq] at h) | ((with_reducible refine E ?_; repeat refine Y ?_); refine eF rfl ?_) | simp (disch := omega) only [go_sem] | (with_reducible intro hg; try simp only [hC, reduceCtorEq] at hg) | exact Cl | fail)
    refine AW.loopV [] [0, 1, 5] (fun m xs o => xs = [] ∧ o = []) 0 [] trivial ⟨rfl, rfl⟩ ?_
    rintro m xs o ⟨rfl, rfl⟩
    (repeat' first | (with_reducible first | refine Z ?_ | refine Y ?_ | (refine hK _ _ ?_; clear hK K) | refine And.intro ?_ ?_ | exact Ct | intro (K : _ → _ → Prop) hK | (refine gI fun hg => ?_; try simp only [hC, reduceCtorEq] at hg; try simp only [hg])) | (refine AW.i rfl (fun h => ?_) (fun h => ?_) <;> try simp only [hC, reduceCtorEq] at h) | ((with_reducible refine E ?_; repeat refine Y ?_); refine eF rfl ?_) | simp (disch := omega) only [go_sem] | (with_reducible intro hg; try simp only [hC, reduceCtorEq] at hg) | exact Cl | fail)
    rfl
instance heldArgS_i (l : List GArg) (k : Int) : Ctr lim Tryz.prog 144 [] [.sl false 2 ((mkL stArg l k).1.map (encArg false)), .v (.int .i64 k)] (.v (.int .i64 (mkL stArg l k).2)) [] (0 ≤ k ∧ (mkL stArg l k).2 ≤ 1099511627776) := by
  refine Ctr.of_body en144 Tryz.func144 rfl rfl fun hp => (?_); rw [Tryz.ntmps144]
  have hup := mkL_up stArg_ge l k
  have hml := mkL_len (f := stArg) l k
  (repeat' first | (with_reducible first | refine Z ?_ | refine Y ?_ | (refine hK _ _ ?_; clear hK K) | refine And.intro ?_ ?_ | exact Ct | intro (K : _ → _ → Prop) hK | (refine gI fun hg => ?_; try simp only [hC, reduceCtorEq] at hg; try simp only [hg])) | (refine AW.i rfl (fun h => ?_) (fun h => ?_) <;> try simp only [hC, reduceCtorEq] at h) | ((with_reducible refine E ?_; repeat refine Y ?_); refine eF rfl ?_) | simp (disch := omega) only [go_sem] | (with_reducible intro hg; try simp only [hC, reduceCtorEq] at hg) | exact Cl | fail)
  refine AW.loopV [1, 5] [0] (fun m xs o => ∃ i : Nat, xs = [.v (.int .i64 (mkc stArg l k i)), .v (.int .i64 i)] ∧ o = [] ∧ m = l.length - i ∧ i ≤ l.length) l.length [] trivial ⟨0, rfl, rfl, rfl, ?_⟩ ?_
  · omega
  rintro m xs o ⟨i, rfl, rfl, rfl, hi⟩
  have h1 := mkc_ge (up_ge stArg_ge) l k i
  have h2 := mkc_le (up_ge stArg_ge) l k i
  (repeat' first | (with_reducible first | refine Z ?_ | refine Y ?_ | (refine hK _ _ ?_; clear hK K) | refine And.intro ?_ ?_ | exact Ct | intro (K : _ → _ → Prop) hK | (refine gI fun hg => ?_; try simp only [hC, reduceCtorEq] at hg; try simp only [hg])) | ((with_reducible refine E ?_; repeat refine Y ?_); refine eF rfl ?_) | simp (disch := omega) only [go_sem] | (with_reducible intro hg; try simp only [hC, reduceCtorEq] at hg) | exact Cl | fail)
  (refine AW.i rfl (fun h => ?_) (fun h => ?_) <;> try simp only [hC, reduceCtorEq] at h)
  · rw [hml] at h
    have h3 := mkc_le (up_ge stArg_ge) l k (i + 1)
    have hat := mkL_at (f := stArg) (k := k) h
    rw [mkc_step h] at h3
    have hlt := h
    simp only [stArg] at h3 hat
    (repeat' first | (with_reducible first | refine Z ?_ | refine Y ?_ | (refine hK _ _ ?_; clear hK K) | refine And.intro ?_ ?_ | exact Ct | intro (K : _ → _ → Prop) hK | (refine gI fun hg => ?_; try simp only [hC, reduceCtorEq] at hg; try simp only [hg])) | (refine AW.i rfl (fun h => ?_) (fun h => ?_) <;> try simp only [hC, reduceCtorEq] at h) | ((with_reducible refine E ?_; repeat refine Y ?_); refine eF rfl ?_) | simp (disch := omega) only [go_sem, hat, beq_self_eq_true, bne_self_eq_false, Bool.not_true] | (with_reducible intro hg; try simp only [hC, reduceCtorEq] at hg) | exact Cl | fail)
    exact ⟨_, [_, _], [], by omega, ⟨i + 1, by rw [mkc_step hlt]; rfl, rfl, rfl, by omega⟩, rfl, trivial⟩
  · rw [hml] at h
    rw [mkc_end h]
    all_goals exact uU
instance markServiceS_i (l : List GService) (k : Int) : BCtr lim Tryz.prog 86 4 (l.map (encService true)) [.v (.int .i64 k)] (.v (.int .i64 (mkL stService l k).2)) ((mkL stService l k).1.map (encService true)) (0 ≤ k ∧ (mkL stService l k).2 ≤ 1099511627776) := by
  refine BCtr.of en86 (fun b => ?_) (fun e => ?_) (by simp [mkL_len]) (map_elem (fun _ => rfl) _) (map_elem (fun _ => rfl) _)
  · simp only [List.length_map]
    refine Ctr.of_body en86 Tryz.func86 rfl rfl fun hp => (?_); rw [Tryz.ntmps86]
    have hup := mkL_up stService_ge l k
    (repeat' first | (with_reducible first | refine Z ?_ | refine Y ?_ | (refine hK _ _ ?_; clear hK K) | refine And.intro ?_ ?_ | exact Ct | intro (K : _ → _ → Prop) hK | (refine gI fun hg => ?_; try simp only [hC, reduceCtorEq] at hg; try simp only [hg])) | (refine AW.i rfl (fun h => ?_) (fun h => ?_) <;> try simp only [hC, reduceCtorEq] at h) | ((with_reducible refine E ?_; repeat refine Y ?_); refine eF rfl ?_) | simp (disch := omega) only [go_sem] | (with_reducible intro hg; try simp only [hC, reduceCtorEq] at hg) | exact Cl | fail)
    refine AW.loopW [1, 5] [0] (fun m xs o => ∃ i : Nat, xs = [.v (.int .i64 (mkc stService l k i)), .v (.int .i64 i)] ∧ o = [(b, some (((mkp stService l k i).map (encService true)).flatMap AV.cells))] ∧ m = l.length - i ∧ i ≤ l.length) l.length [(b, some ((l.map (encService true)).flatMap AV.cells))] (subO_one rfl) ⟨0, rfl, ?_, rfl, ?_⟩ ?_
    · rw [mkp_zero]
    · omega
    rintro m xs o ⟨i, rfl, rfl, rfl, hi⟩
    have h1 := mkc_ge (up_ge stService_ge) l k i
    have h2 := mkc_le (up_ge stService_ge) l k i
    (repeat' first | (with_reducible first | refine Z ?_ | refine Y ?_ | (refine hK _ _ ?_; clear hK K) | refine And.intro ?_ ?_ | exact Ct | intro (K : _ → _ → Prop) hK | (refine gI fun hg => ?_; try simp only [hC, reduceCtorEq] at hg; try simp only [hg])) | ((with_reducible refine E ?_; repeat refine Y ?_); refine eF rfl ?_) | simp (disch := omega) only [go_sem] | (with_reducible intro hg; try simp only [hC, reduceCtorEq] at hg) | exact Cl | fail)
    (refine AW.i rfl (fun h => ?_) (fun h => ?_) <;> try simp only [hC, reduceCtorEq] at h)
    · have h3 := mkc_le (up_ge stService_ge) l k (i + 1)
      rw [mkd_at h]
      rw [mkc_step h] at h3
      have hpre := mkb_len (e := encService true) (f := stService) (sz := 4) (k := k) (fun _ => rfl) hi
      have hpost : (((l.drop (i + 1)).map (encService true)).flatMap AV.cells).length = (l.length - (i + 1)) * 4 := by
        rw [fm_len (e := encService true) (sz := 4) (fun _ => rfl), List.length_drop]
      have hnx := mkd_next (e := encService true) (f := stService) (k := k) h
      generalize mkb (encService true) stService l k i = pre at hpre hnx ⊢
      generalize ((l.drop (i + 1)).map (encService true)).flatMap AV.cells = post at hnx hpost ⊢
      generalize e1 : at_ l i = x at *
      generalize e2 : mkc stService l k i = c at *
      refine AW.imp (Imp.pinE (b := b) pre [_, _, _, _] post (O_eq _ _ _) fun hs => ?_)
      simp (maxSteps := 2000000) (disch := omega) only [go_sem]
      have g0 := mkL_up stArg_ge x.fArgs (c + 1 + 1)
      have g1 := mkL_up stString_ge x.fTargets ((mkL stArg x.fArgs (c + 1 + 1)).2)
      simp only [stService] at h3
      (repeat' first | (with_reducible first | refine Z ?_ | refine Y ?_ | (refine hK _ _ ?_; clear hK K) | refine And.intro ?_ ?_ | exact Ct | intro (K : _ → _ → Prop) hK | (refine gI fun hg => ?_; try simp only [hC, reduceCtorEq] at hg; try simp only [hg])) | ((with_reducible refine E ?_; repeat refine Y ?_); refine eF rfl ?_) | simp (disch := omega) only [go_sem] | (with_reducible intro hg; try simp only [hC, reduceCtorEq] at hg) | exact Cl | fail)
      refine Imp.unpE (b := b) pre [_, _, _, _] post (O_eq _ _ _) ?_
      simp (maxSteps := 2000000) (disch := omega) only [go_sem]
      exact ⟨_, [_, _], _, by omega, ⟨i + 1, by rw [mkc_step h, e1, e2]; rfl, rfl, rfl, by omega⟩, rfl, subO_one hnx⟩
    · rw [mkc_end h, mkp_end h]
      all_goals exact uU
  · have : l = [] := by simpa using e
    subst this
    refine ⟨?_, rfl⟩
    refine Ctr.of_body en86 Tryz.func86 rfl rfl fun hp => (?_); rw [Tryz.ntmps86]
    (repeat' first | (with_reducible first | refine Z ?_ | refine Y ?_ | (refine hK _ _ ?_; clear hK K) | refine And.intro ?_ ?_ | exact Ct | intro (K : _ → _ → Prop) hK | (refine gI fun hg => ?_; try simp only [hC, reduceCtorEq] at hg; try simp only [hg])) | (refine AW.i rfl (fun h => ?_) (fun h => ?_) <;> try simp only [hC, reduceCtorEq] at h) | ((with_reducible refine E ?_; repeat refine Y ?_); refine eF rfl ?_) | simp (disch := omega) only [go_sem] | (with_reducible intro hg; try simp only [hC, reduceCtorEq] at hg) | exact Cl | fail)
    refine AW.loopV [] [0, 1, 5] (fun m xs o => xs = [] ∧ o = []) 0 [] trivial ⟨rfl, rfl⟩ ?_
    rintro m xs o ⟨rfl, rfl⟩
    (repeat' first | (with_reducible first | refine Z ?_ | refine Y ?_ | (refine hK _ _ ?_; clear hK K) | refine And.intro ?_ ?_ | exact Ct | intro (K : _ → _ → Prop) hK | (refine gI fun hg => ?_; try simp only [hC, reduceCtorEq] at hg; try simp only [hg])) | (refine AW.i rfl (fun h => ?_) (fun h => ?_) <;> try simp only [hC, reduceCtorEq] at h) | ((with_reducible refine E ?_; repeat refine Y ?_); refine eF rfl ?_) | simp (disch := omega) only [go_sem] | (with_reducible intro hg; try simp only [hC, reduceCtorEq] at hg) | exact Cl | fail)
    rfl
instance heldServiceS_i (l : List GService) (k : Int) : Ctr lim Tryz.prog 89 [] [.sl false 4 ((mkL stService l k).1.map (encService false)), .v (.int .i64 k)] (.v (.int .i64 (mkL stService l k).2)) [] (0 ≤ k ∧ (mkL stService l k).2 ≤ 1099511627776) := by
  refine Ctr.of_body en89 Tryz.func89 rfl rfl fun hp => (?_); rw [Tryz.ntmps89]
  have hup := mkL_up stService_ge l k
  have hml := mkL_len (f := stService) l k
  (repeat' first | (with_reducible first | refine Z ?_ | refine Y ?_ | (refine hK _ _ ?_; clear hK K) | refine And.intro ?_ ?_ | exact Ct | intro (K : _ → _ → Prop) hK | (refine gI fun hg => ?_; try simp only [hC, reduceCtorEq] at hg; try simp only [hg])) | (refine AW.i rfl (fun h => ?_) (fun h => ?_) <;> try simp only [hC, reduceCtorEq] at h) | ((with_reducible refine E ?_; repeat refine Y ?_); refine eF rfl ?_) | simp (disch := omega) only [go_sem] | (with_reducible intro hg; try simp only [hC, reduceCtorEq] at hg) | exact Cl | fail)
  refine AW.loopV [1, 5] [0] (fun m xs o => ∃ i : Nat, xs = [.v (.int .i64 (mkc stService l k i)), .v (.int .i64 i)] ∧ o = [] ∧ m = l.length - i ∧ i ≤ l.length) l.length [] trivial ⟨0, rfl, rfl, rfl, ?_⟩ ?_
  · omega
  rintro m xs o ⟨i, rfl, rfl, rfl, hi⟩
  have h1 := mkc_ge (up_ge stService_ge) l k i
  have h2 := mkc_le (up_ge stService_ge) l k i
  (repeat' first | (with_reducible first | refine Z ?_ | refine Y ?_ | (refine hK _ _ ?_; clear hK K) | refine And.intro ?_ ?_ | exact Ct | intro (K : _ → _ → Prop) hK | (refine gI fun hg => ?_; try simp only [hC, reduceCtorEq] at hg; try simp only [hg])) | ((with_reducible refine E ?_; repeat refine Y ?_); refine eF rfl ?_) | simp (disch := omega) only [go_sem] | (with_reducible intro hg; try simp only [hC, reduceCtorEq] at hg) | exact Cl | fail)
  (refine AW.i rfl (fun h => ?_) (fun h => ?_) <;> try simp only [hC, reduceCtorEq] at h)
  · rw [hml] at h
    have h3 := mkc_le (up_ge stService_ge) l k (i + 1)
    have hat := mkL_at (f := stService) (k := k) h
    rw [mkc_step h] at h3
    have hlt := h
    simp only [stService] at h3 hat
    have g0 := mkL_up stArg_ge (at_ l i).fArgs ((mkc stService l k i) + 1 + 1)
    have g1 := mkL_up stString_ge (at_ l i).fTargets ((mkL stArg (at_ l i).fArgs ((mkc stService l k i) + 1 + 1)).2)
    (repeat' first | (with_reducible first | refine Z ?_ | refine Y ?_ | (refine hK _ _ ?_; clear hK K) | refine And.intro ?_ ?_ | exact Ct | intro (K : _ → _ → Prop) hK | (refine gI fun hg => ?_; try simp only [hC, reduceCtorEq] at hg; try simp only [hg])) | (refine AW.i rfl (fun h => ?_) (fun h => ?_) <;> try simp only [hC, reduceCtorEq] at h) | ((with_reducible refine E ?_; repeat refine Y ?_); refine eF rfl ?_) | simp (disch := omega) only [go_sem, hat, beq_self_eq_true, bne_self_eq_false, Bool.not_true] | (with_reducible intro hg; try simp only [hC, reduceCtorEq] at hg) | exact Cl | fail)
    exact ⟨_, [_, _], [], by omega, ⟨i + 1, by rw [mkc_step hlt]; rfl, rfl, rfl, by omega⟩, rfl, trivial⟩
  · rw [hml] at h
    rw [mkc_end h]
    all_goals exact uU
instance markPlan_i (x : GPlan) (k : Int) : ICtr lim Tryz.prog 33 true [.sl true 3 (x.fTemplates.map (encTemplate true)), .sl true 4 (x.fServices.map (encService true))] [.v (.int .i64 k)] (.v (.int .i64 (mkL stService x.fServices (mkL stTemplate x.fTemplates k).2).2)) [.sl true 3 ((mkL stTemplate x.fTemplates k).1.map (encTemplate true)), .sl true 4 ((mkL stService x.fServices (mkL stTemplate x.fTemplates k).2).1.map (encService true))] (0 ≤ k ∧ (mkL stService x.fServices (mkL stTemplate x.fTemplates k).2).2 ≤ 1099511627776) := by
  refine ⟨en33, fun hp => InC.of_body Tryz.func33 rfl rfl rfl (fun hs => rfl) (fun hs => rfl) (fun hs => rfl) rfl fun hs => ?_⟩
  rw [Tryz.ntmps33]
  have g0 := mkL_up stTemplate_ge x.fTemplates k
  have g1 := mkL_up stService_ge x.fServices (mkL stTemplate x.fTemplates k).2
  (repeat' first | (with_reducible first | refine Z ?_ | refine xO ?_ | refine Y ?_ | (refine hK _ _ ?_; clear hK K) | refine And.intro ?_ ?_ | exact Ct | intro (K : _ → _ → Prop) hK | (refine gI fun hg => ?_; try simp only [hC, reduceCtorEq] at hg; try simp only [hg])) | (refine AW.i rfl (fun h => ?_) (fun h => ?_) <;> try simp only [hC, reduceCtorEq] at h) | simp (disch := omega) only [go_sem] | (with_reducible intro hg; try simp only [hC, reduceCtorEq] at hg) | exact Cl | fail)
  refine AW.ret (EndsG.inp hg rfl ?_)
  simp (maxSteps := 2000000) (disch := omega) only [go_sem]
instance heldPlan_i (x : GPlan) (k : Int) : Ctr lim Tryz.prog 35 [] [.agg [.sl false 3 ((mkL stTemplate x.fTemplates k).1.map (encTemplate false)), .sl false 4 ((mkL stService x.fServices (mkL stTemplate x.fTemplates k).2).1.map (encService false))], .v (.int .i64 k)] (.v (.int .i64 (mkL stService x.fServices (mkL stTemplate x.fTemplates k).2).2)) [] (0 ≤ k ∧ (mkL stService x.fServices (mkL stTemplate x.fTemplates k).2).2 ≤ 1099511627776) := by
  refine Ctr.of_body en35 Tryz.func35 rfl rfl fun hp => (?_); rw [Tryz.ntmps35]
  have g0 := mkL_up stTemplate_ge x.fTemplates k
  have g1 := mkL_up stService_ge x.fServices (mkL stTemplate x.fTemplates k).2
  all_goals exact uU
end Go.Proofs.YtkdchlggdcmkbaaGreat
