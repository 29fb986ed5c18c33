/-
  Part of a proof: Mkb, Mk1, MkA.
-/
import Derived.Test.YtkdchlggdcmkbaaGreatG13
import Derived.Test.YtkdchlggdcmkbaaGreatG14
import Derived.Test.YtkdchlggdcmkbaaGreatG15
import Derived.Test.YtkdchlggdcmkbaaGreatG17
import Derived.Test.YtkdchlggdcmkbaaGreatG18
set_option linter.unusedSimpArgs false
set_option linter.unusedVariables false
namespace Go.Ab
open Go.Ab
theorem map_elem {α : Type} {e : α → AV} {sz : Nat} (h : ∀ x, (e x).elem sz = true) (l : List α) : ∀ x, x ∈ l.map e → x.elem sz = true := by
  intro x hx
  obtain ⟨y, _, rfl⟩ := List.mem_map.1 hx
  exact h y
end Go.Ab
namespace Go.Proofs.YtkdchlggdcmkbaaGreat
open Go.Ab Go.Dt
set_option maxRecDepth 20000
set_option maxHeartbeats 4000000
theorem mks_mkL : ∀ (l : List Str) (k : Int), mkL stString l k = (mks l.length k, k + l.length)
  | [], k => by simp [mkL, mks]
  | x :: xs, k => by
    have := mks_mkL xs (k + 1)
    simp only [mkL, stString, this, List.length_cons, mks]
    congr 1; omega
instance markString2_i (l : List Str) (k : Int) : BCtr lim Tryz.prog 26 1 (l.map AV.str) [.v (.int .i64 k)] (.v (.int .i64 (mkL stString l k).2)) ((mkL stString l k).1.map AV.str) (0 ≤ k ∧ (mkL stString l k).2 ≤ 1099511627776) := by
  rw [mks_mkL]; exact markStringS_i l k
instance heldString2_i (l : List Str) (k : Int) : Ctr lim Tryz.prog 27 [] [.sl false 1 ((mkL stString l k).1.map AV.str), .v (.int .i64 k)] (.v (.int .i64 (mkL stString l k).2)) [] (0 ≤ k ∧ (mkL stString l k).2 ≤ 1099511627776) := by
  rw [mks_mkL]; exact heldStringS_i l.length k
end Go.Proofs.YtkdchlggdcmkbaaGreat
namespace Go.Proofs.YtkdchlggdcmkbaaGreat
open Go.Ab Go.Dt
set_option maxRecDepth 20000
set_option maxHeartbeats 4000000
instance markRangeS_i (l : List GRange) (k : Int) : BCtr lim Tryz.prog 173 2 (l.map (encRange true)) [.v (.int .i64 k)] (.v (.int .i64 (mkL stRange l k).2)) ((mkL stRange l k).1.map (encRange true)) (0 ≤ k ∧ (mkL stRange l k).2 ≤ 1099511627776) := by
  refine BCtr.of en173 (fun b => ?_) (fun e => ?_) (by simp [mkL_len]) (map_elem (fun _ => rfl) _) (map_elem (fun _ => rfl) _)
  · simp only [List.length_map]
    refine Ctr.of_body en173 Tryz.func173 rfl rfl fun hp => (?_); rw [Tryz.ntmps173]
    have hup := mkL_up stRange_ge l k
    (repeat' (first | (with_reducible first | refine Z ?_ | refine Y ?_ | (refine hK _ _ ?_; clear hK K) | exact trivial | refine And.intro ?_ ?_) | (refine AW.i rfl (fun h => ?_) (fun h => ?_) <;> try simp only [hC, reduceCtorEq] at h) | with_reducible rfl | ((with_reducible refine E ?_); (with_reducible repeat refine Y ?_); refine eF rfl ?_) | (with_reducible refine fun (K : _ → _ → Prop) hK => ?_) | (with_reducible show drawOK _ _ = true; kernel_rfl) | (with_reducible refine gI fun hg => ?_; try simp only [hC, reduceCtorEq] at hg; try simp only [hg]) | simp (maxSteps := 2000000) (disch := omega) only [go_sem] | (with_reducible intro hg; try simp only [hC, reduceCtorEq] at hg) | (with_reducible show List.Nodup _; decide) | (with_reducible show (_ : Bool) = false; first | rfl | (simp [*]; done)) | with_reducible exact at8_le _ _ | with_reducible exact at8_ge _ _ | (simp only [hC, reduceCtorEq]; omega) | omega | with_reducible assumption | (with_reducible show (_ : Bool) = true; first | (simp [*]; done) | (simp only [hC, reduceCtorEq]; (repeat' (first | assumption | apply And.intro)); done))))
    refine AW.loopV [1, 5] [0] (fun m xs o => ∃ i : Nat, xs = [.v (.int .i64 (mkc stRange l k i)), .v (.int .i64 i)] ∧ o = [(b, some (((mkp stRange l k i).map (encRange true)).flatMap AV.cells))] ∧ m = l.length - i ∧ i ≤ l.length) l.length [(b, some ((l.map (encRange true)).flatMap AV.cells))] (subO_one rfl) ⟨0, rfl, ?_, rfl, ?_⟩ ?_
    · rw [mkp_zero]
    · omega
    rintro m xs o ⟨i, rfl, rfl, rfl, hi⟩
    have h1 := mkc_ge (up_ge stRange_ge) l k i
    have h2 := mkc_le (up_ge stRange_ge) l k i
    (repeat' (first | (with_reducible first | refine Z ?_ | refine Y ?_ | (refine hK _ _ ?_; clear hK K) | exact trivial | refine And.intro ?_ ?_) | with_reducible rfl | ((with_reducible refine E ?_); (with_reducible repeat refine Y ?_); refine eF rfl ?_) | (with_reducible refine fun (K : _ → _ → Prop) hK => ?_) | (with_reducible show drawOK _ _ = true; kernel_rfl) | (with_reducible refine gI fun hg => ?_; try simp only [hC, reduceCtorEq] at hg; try simp only [hg]) | simp (maxSteps := 2000000) (disch := omega) only [go_sem] | (with_reducible intro hg; try simp only [hC, reduceCtorEq] at hg) | (with_reducible show List.Nodup _; decide) | (with_reducible show (_ : Bool) = false; first | rfl | (simp [*]; done)) | with_reducible exact at8_le _ _ | with_reducible exact at8_ge _ _ | (simp only [hC, reduceCtorEq]; omega) | omega | with_reducible assumption | (with_reducible show (_ : Bool) = true; first | (simp [*]; done) | (simp only [hC, reduceCtorEq]; (repeat' (first | assumption | apply And.intro)); done))))
    (refine AW.i rfl (fun h => ?_) (fun h => ?_) <;> try simp only [hC, reduceCtorEq] at h)
    · have h3 := mkc_le (up_ge stRange_ge) l k (i + 1)
      rw [mkd_at h]
      rw [mkc_step h] at h3
      have hpre := mkb_len (e := encRange true) (f := stRange) (sz := 2) (k := k) (fun _ => rfl) hi
      have hpost : (((l.drop (i + 1)).map (encRange true)).flatMap AV.cells).length = (l.length - (i + 1)) * 2 := by
        rw [fm_len (e := encRange true) (sz := 2) (fun _ => rfl), List.length_drop]
      have hnx := mkd_next (e := encRange true) (f := stRange) (k := k) h
      generalize mkb (encRange true) stRange l k i = pre at hpre hnx ⊢
      generalize ((l.drop (i + 1)).map (encRange true)).flatMap AV.cells = post at hnx hpost ⊢
      generalize e1 : at_ l i = x at *
      generalize e2 : mkc stRange l k i = c at *
      simp only [stRange] at h3
      (repeat' (first | (with_reducible first | refine Z ?_ | refine Y ?_ | (refine hK _ _ ?_; clear hK K) | exact trivial | refine And.intro ?_ ?_) | with_reducible rfl | ((with_reducible refine E ?_); (with_reducible repeat refine Y ?_); refine eF rfl ?_) | (with_reducible refine fun (K : _ → _ → Prop) hK => ?_) | (with_reducible show drawOK _ _ = true; kernel_rfl) | (with_reducible refine gI fun hg => ?_; try simp only [hC, reduceCtorEq] at hg; try simp only [hg]) | simp (maxSteps := 2000000) (disch := omega) only [go_sem] | (with_reducible intro hg; try simp only [hC, reduceCtorEq] at hg) | (with_reducible show List.Nodup _; decide) | (with_reducible show (_ : Bool) = false; first | rfl | (simp [*]; done)) | with_reducible exact at8_le _ _ | with_reducible exact at8_ge _ _ | (simp only [hC, reduceCtorEq]; omega) | omega | with_reducible assumption | (with_reducible show (_ : Bool) = true; first | (simp [*]; done) | (simp only [hC, reduceCtorEq]; (repeat' (first | assumption | apply And.intro)); done))))
      exact ⟨_, [_, _], _, by omega, ⟨i + 1, by rw [mkc_step h, e1, e2]; rfl, rfl, rfl, by omega⟩, rfl, subO_one hnx⟩
    · rw [mkc_end h, mkp_end h]
      (repeat' (first | (with_reducible first | refine Z ?_ | refine Y ?_ | (refine hK _ _ ?_; clear hK K) | exact trivial | refine And.intro ?_ ?_) | with_reducible rfl | ((with_reducible refine E ?_); (with_reducible repeat refine Y ?_); refine eF rfl ?_) | (with_reducible refine fun (K : _ → _ → Prop) hK => ?_) | (with_reducible show drawOK _ _ = true; kernel_rfl) | (with_reducible refine gI fun hg => ?_; try simp only [hC, reduceCtorEq] at hg; try simp only [hg]) | simp (maxSteps := 2000000) (disch := omega) only [go_sem] | (with_reducible intro hg; try simp only [hC, reduceCtorEq] at hg) | (with_reducible show List.Nodup _; decide) | (with_reducible show (_ : Bool) = false; first | rfl | (simp [*]; done)) | with_reducible exact at8_le _ _ | with_reducible exact at8_ge _ _ | (simp only [hC, reduceCtorEq]; omega) | omega | with_reducible assumption | (with_reducible show (_ : Bool) = true; first | (simp [*]; done) | (simp only [hC, reduceCtorEq]; (repeat' (first | assumption | apply And.intro)); done))))
  · have : l = [] := by simpa using e
    subst this
    refine ⟨?_, rfl⟩
    refine Ctr.of_body en173 Tryz.func173 rfl rfl fun hp => (?_); rw [Tryz.ntmps173]
    (repeat' (first | (with_reducible first | refine Z ?_ | refine Y ?_ | (refine hK _ _ ?_; clear hK K) | exact trivial | refine And.intro ?_ ?_) | (refine AW.i rfl (fun h => ?_) (fun h => ?_) <;> try simp only [hC, reduceCtorEq] at h) | with_reducible rfl | ((with_reducible refine E ?_); (with_reducible repeat refine Y ?_); refine eF rfl ?_) | (with_reducible refine fun (K : _ → _ → Prop) hK => ?_) | (with_reducible show drawOK _ _ = true; kernel_rfl) | (with_reducible refine gI fun hg => ?_; try simp only [hC, reduceCtorEq] at hg; try simp only [hg]) | simp (maxSteps := 2000000) (disch := omega) only [go_sem] | (with_reducible intro hg; try simp only [hC, reduceCtorEq] at hg) | (with_reducible show List.Nodup _; decide) | (with_reducible show (_ : Bool) = false; first | rfl | (simp [*]; done)) | with_reducible exact at8_le _ _ | with_reducible exact at8_ge _ _ | (simp only [hC, reduceCtorEq]; omega) | omega | with_reducible assumption | (with_reducible show (_ : Bool) = true; first | (simp [*]; done) | (simp only [hC, reduceCtorEq]; (repeat' (first | assumption | apply And.intro)); done))))
    refine AW.loopV [] [0, 1, 5] (fun m xs o => xs = [] ∧ o = []) 0 [] trivial ⟨rfl, rfl⟩ ?_
    rintro m xs o ⟨rfl, rfl⟩
    (repeat' (first | (with_reducible first | refine Z ?_ | refine Y ?_ | (refine hK _ _ ?_; clear hK K) | exact trivial | refine And.intro ?_ ?_) | (refine AW.i rfl (fun h => ?_) (fun h => ?_) <;> try simp only [hC, reduceCtorEq] at h) | with_reducible rfl | ((with_reducible refine E ?_); (with_reducible repeat refine Y ?_); refine eF rfl ?_) | (with_reducible refine fun (K : _ → _ → Prop) hK => ?_) | (with_reducible show drawOK _ _ = true; kernel_rfl) | (with_reducible refine gI fun hg => ?_; try simp only [hC, reduceCtorEq] at hg; try simp only [hg]) | simp (maxSteps := 2000000) (disch := omega) only [go_sem] | (with_reducible intro hg; try simp only [hC, reduceCtorEq] at hg) | (with_reducible show List.Nodup _; decide) | (with_reducible show (_ : Bool) = false; first | rfl | (simp [*]; done)) | with_reducible exact at8_le _ _ | with_reducible exact at8_ge _ _ | (simp only [hC, reduceCtorEq]; omega) | omega | with_reducible assumption | (with_reducible show (_ : Bool) = true; first | (simp [*]; done) | (simp only [hC, reduceCtorEq]; (repeat' (first | assumption | apply And.intro)); done))))
    rfl
instance markParamS_i (l : List GParam) (k : Int) : BCtr lim Tryz.prog 142 6 (l.map (encParam true)) [.v (.int .i64 k)] (.v (.int .i64 (mkL stParam l k).2)) ((mkL stParam l k).1.map (encParam true)) (0 ≤ k ∧ (mkL stParam l k).2 ≤ 1099511627776) := by
  refine BCtr.of en142 (fun b => ?_) (fun e => ?_) (by simp [mkL_len]) (map_elem (fun _ => rfl) _) (map_elem (fun _ => rfl) _)
  · simp only [List.length_map]
    refine Ctr.of_body en142 Tryz.func142 rfl rfl fun hp => (?_); rw [Tryz.ntmps142]
    have hup := mkL_up stParam_ge l k
    (repeat' (first | (with_reducible first | refine Z ?_ | refine Y ?_ | (refine hK _ _ ?_; clear hK K) | exact trivial | refine And.intro ?_ ?_) | (refine AW.i rfl (fun h => ?_) (fun h => ?_) <;> try simp only [hC, reduceCtorEq] at h) | with_reducible rfl | ((with_reducible refine E ?_); (with_reducible repeat refine Y ?_); refine eF rfl ?_) | (with_reducible refine fun (K : _ → _ → Prop) hK => ?_) | (with_reducible show drawOK _ _ = true; kernel_rfl) | (with_reducible refine gI fun hg => ?_; try simp only [hC, reduceCtorEq] at hg; try simp only [hg]) | simp (maxSteps := 2000000) (disch := omega) only [go_sem] | (with_reducible intro hg; try simp only [hC, reduceCtorEq] at hg) | (with_reducible show List.Nodup _; decide) | (with_reducible show (_ : Bool) = false; first | rfl | (simp [*]; done)) | with_reducible exact at8_le _ _ | with_reducible exact at8_ge _ _ | (simp only [hC, reduceCtorEq]; omega) | omega | with_reducible assumption | (with_reducible show (_ : Bool) = true; first | (simp [*]; done) | (simp only [hC, reduceCtorEq]; (repeat' (first | assumption | apply And.intro)); done))))
    refine AW.loopW [1, 5] [0] (fun m xs o => ∃ i : Nat, xs = [.v (.int .i64 (mkc stParam l k i)), .v (.int .i64 i)] ∧ o = [(b, some (((mkp stParam l k i).map (encParam true)).flatMap AV.cells))] ∧ m = l.length - i ∧ i ≤ l.length) l.length [(b, some ((l.map (encParam true)).flatMap AV.cells))] (subO_one rfl) ⟨0, rfl, ?_, rfl, ?_⟩ ?_
    · rw [mkp_zero]
    · omega
    rintro m xs o ⟨i, rfl, rfl, rfl, hi⟩
    have h1 := mkc_ge (up_ge stParam_ge) l k i
    have h2 := mkc_le (up_ge stParam_ge) l k i
    (repeat' (first | (with_reducible first | refine Z ?_ | refine Y ?_ | (refine hK _ _ ?_; clear hK K) | exact trivial | refine And.intro ?_ ?_) | with_reducible rfl | ((with_reducible refine E ?_); (with_reducible repeat refine Y ?_); refine eF rfl ?_) | (with_reducible refine fun (K : _ → _ → Prop) hK => ?_) | (with_reducible show drawOK _ _ = true; kernel_rfl) | (with_reducible refine gI fun hg => ?_; try simp only [hC, reduceCtorEq] at hg; try simp only [hg]) | simp (maxSteps := 2000000) (disch := omega) only [go_sem] | (with_reducible intro hg; try simp only [hC, reduceCtorEq] at hg) | (with_reducible show List.Nodup _; decide) | (with_reducible show (_ : Bool) = false; first | rfl | (simp [*]; done)) | with_reducible exact at8_le _ _ | with_reducible exact at8_ge _ _ | (simp only [hC, reduceCtorEq]; omega) | omega | with_reducible assumption | (with_reducible show (_ : Bool) = true; first | (simp [*]; done) | (simp only [hC, reduceCtorEq]; (repeat' (first | assumption | apply And.intro)); done))))
    (refine AW.i rfl (fun h => ?_) (fun h => ?_) <;> try simp only [hC, reduceCtorEq] at h)
    · have h3 := mkc_le (up_ge stParam_ge) l k (i + 1)
      rw [mkd_at h]
      rw [mkc_step h] at h3
      have hpre := mkb_len (e := encParam true) (f := stParam) (sz := 6) (k := k) (fun _ => rfl) hi
      have hpost : (((l.drop (i + 1)).map (encParam true)).flatMap AV.cells).length = (l.length - (i + 1)) * 6 := by
        rw [fm_len (e := encParam true) (sz := 6) (fun _ => rfl), List.length_drop]
      have hnx := mkd_next (e := encParam true) (f := stParam) (k := k) h
      generalize mkb (encParam true) stParam l k i = pre at hpre hnx ⊢
      generalize ((l.drop (i + 1)).map (encParam true)).flatMap AV.cells = post at hnx hpost ⊢
      generalize e1 : at_ l i = x at *
      generalize e2 : mkc stParam l k i = c at *
      refine AW.imp (Imp.pinE (b := b) pre [_, _, _, _, _, _] post (O_eq _ _ _) fun hs => ?_)
      simp (maxSteps := 2000000) (disch := omega) only [go_sem]
      have g0 := mkL_up stRange_ge x.fType.fRanges (c + 1 + 1)
      have g1 := mkL_up stString_ge x.fType.fNames ((mkL stRange x.fType.fRanges (c + 1 + 1)).2)
      simp only [stParam] at h3
      (repeat' (first | (with_reducible first | refine Z ?_ | refine Y ?_ | (refine hK _ _ ?_; clear hK K) | exact trivial | refine And.intro ?_ ?_) | with_reducible rfl | ((with_reducible refine E ?_); (with_reducible repeat refine Y ?_); refine eF rfl ?_) | (with_reducible refine fun (K : _ → _ → Prop) hK => ?_) | (with_reducible show drawOK _ _ = true; kernel_rfl) | (with_reducible refine gI fun hg => ?_; try simp only [hC, reduceCtorEq] at hg; try simp only [hg]) | simp (maxSteps := 2000000) (disch := omega) only [go_sem] | (with_reducible intro hg; try simp only [hC, reduceCtorEq] at hg) | (with_reducible show List.Nodup _; decide) | (with_reducible show (_ : Bool) = false; first | rfl | (simp [*]; done)) | with_reducible exact at8_le _ _ | with_reducible exact at8_ge _ _ | (simp only [hC, reduceCtorEq]; omega) | omega | with_reducible assumption | (with_reducible show (_ : Bool) = true; first | (simp [*]; done) | (simp only [hC, reduceCtorEq]; (repeat' (first | assumption | apply And.intro)); done))))
      refine Imp.unpE (b := b) pre [_, _, _, _, _, _] post (O_eq _ _ _) ?_
      simp (maxSteps := 2000000) (disch := omega) only [go_sem]
      exact ⟨_, [_, _], _, by omega, ⟨i + 1, by rw [mkc_step h, e1, e2]; rfl, rfl, rfl, by omega⟩, rfl, subO_one hnx⟩
    · rw [mkc_end h, mkp_end h]
      (repeat' (first | (with_reducible first | refine Z ?_ | refine Y ?_ | (refine hK _ _ ?_; clear hK K) | exact trivial | refine And.intro ?_ ?_) | with_reducible rfl | ((with_reducible refine E ?_); (with_reducible repeat refine Y ?_); refine eF rfl ?_) | (with_reducible refine fun (K : _ → _ → Prop) hK => ?_) | (with_reducible show drawOK _ _ = true; kernel_rfl) | (with_reducible refine gI fun hg => ?_; try simp only [hC, reduceCtorEq] at hg; try simp only [hg]) | simp (maxSteps := 2000000) (disch := omega) only [go_sem] | (with_reducible intro hg; try simp only [hC, reduceCtorEq] at hg) | (with_reducible show List.Nodup _; decide) | (with_reducible show (_ : Bool) = false; first | rfl | (simp [*]; done)) | with_reducible exact at8_le _ _ | with_reducible exact at8_ge _ _ | (simp only [hC, reduceCtorEq]; omega) | omega | with_reducible assumption | (with_reducible show (_ : Bool) = true; first | (simp [*]; done) | (simp only [hC, reduceCtorEq]; (repeat' (first | assumption | apply And.intro)); done))))
  · have : l = [] := by simpa using e
    subst this
    refine ⟨?_, rfl⟩
    refine Ctr.of_body en142 Tryz.func142 rfl rfl fun hp => (?_); rw [Tryz.ntmps142]
    (repeat' (first | (with_reducible first | refine Z ?_ | refine Y ?_ | (refine hK _ _ ?_; clear hK K) | exact trivial | refine And.intro ?_ ?_) | (refine AW.i rfl (fun h => ?_) (fun h => ?_) <;> try simp only [hC, reduceCtorEq] at h) | with_reducible rfl | ((with_reducible refine E ?_); (with_reducible repeat refine Y ?_); refine eF rfl ?_) | (with_reducible refine fun (K : _ → _ → Prop) hK => ?_) | (with_reducible show drawOK _ _ = true; kernel_rfl) | (with_reducible refine gI fun hg => ?_; try simp only [hC, reduceCtorEq] at hg; try simp only [hg]) | simp (maxSteps := 2000000) (disch := omega) only [go_sem] | (with_reducible intro hg; try simp only [hC, reduceCtorEq] at hg) | (with_reducible show List.Nodup _; decide) | (with_reducible show (_ : Bool) = false; first | rfl | (simp [*]; done)) | with_reducible exact at8_le _ _ | with_reducible exact at8_ge _ _ | (simp only [hC, reduceCtorEq]; omega) | omega | with_reducible assumption | (with_reducible show (_ : Bool) = true; first | (simp [*]; done) | (simp only [hC, reduceCtorEq]; (repeat' (first | assumption | apply And.intro)); done))))
    refine AW.loopV [] [0, 1, 5] (fun m xs o => xs = [] ∧ o = []) 0 [] trivial ⟨rfl, rfl⟩ ?_
    rintro m xs o ⟨rfl, rfl⟩
    (repeat' (first | (with_reducible first | refine Z ?_ | refine Y ?_ | (refine hK _ _ ?_; clear hK K) | exact trivial | refine And.intro ?_ ?_) | (refine AW.i rfl (fun h => ?_) (fun h => ?_) <;> try simp only [hC, reduceCtorEq] at h) | with_reducible rfl | ((with_reducible refine E ?_); (with_reducible repeat refine Y ?_); refine eF rfl ?_) | (with_reducible refine fun (K : _ → _ → Prop) hK => ?_) | (with_reducible show drawOK _ _ = true; kernel_rfl) | (with_reducible refine gI fun hg => ?_; try simp only [hC, reduceCtorEq] at hg; try simp only [hg]) | simp (maxSteps := 2000000) (disch := omega) only [go_sem] | (with_reducible intro hg; try simp only [hC, reduceCtorEq] at hg) | (with_reducible show List.Nodup _; decide) | (with_reducible show (_ : Bool) = false; first | rfl | (simp [*]; done)) | with_reducible exact at8_le _ _ | with_reducible exact at8_ge _ _ | (simp only [hC, reduceCtorEq]; omega) | omega | with_reducible assumption | (with_reducible show (_ : Bool) = true; first | (simp [*]; done) | (simp only [hC, reduceCtorEq]; (repeat' (first | assumption | apply And.intro)); done))))
    rfl
theorem markNodeS_n : ∀ (n : Nat) (l : List GNode) (k : Int), BCtr lim Tryz.prog 61 3 (l.map (encNode true)) [.v (.int .i64 k)] (.v (.int .i64 (mkL stNode l k).2)) ((mkL stNode l k).1.map (encNode true)) (SizeOf.sizeOf l < n ∧ 0 ≤ k ∧ (mkL stNode l k).2 ≤ 1099511627776)
  | 0, l, k => ⟨en61, fun h => absurd h.1 (Nat.not_lt_zero _)⟩
  | n + 1, l, k => by
    have ih := markNodeS_n n
    refine BCtr.of en61 (fun b => ?_) (fun e => ?_) (by simp [mkL_len]) (map_elem (fun x => by rw [encNode_eq]; rfl) _) (map_elem (fun x => by rw [encNode_eq]; rfl) _)
    · simp only [List.length_map]
      refine Ctr.of_body en61 Tryz.func61 rfl rfl fun hp => (?_); rw [Tryz.ntmps61]
      have hup := mkL_up stNode_ge l k
      (repeat' (first | (with_reducible first | refine Z ?_ | refine Y ?_ | (refine hK _ _ ?_; clear hK K) | exact trivial | refine And.intro ?_ ?_) | (refine AW.i rfl (fun h => ?_) (fun h => ?_) <;> try simp only [hC, reduceCtorEq] at h) | with_reducible rfl | ((with_reducible refine E ?_); (with_reducible repeat refine Y ?_); refine eF rfl ?_) | (with_reducible refine fun (K : _ → _ → Prop) hK => ?_) | (with_reducible show drawOK _ _ = true; kernel_rfl) | (with_reducible refine gI fun hg => ?_; try simp only [hC, reduceCtorEq] at hg; try simp only [hg]) | simp (maxSteps := 2000000) (disch := omega) only [go_sem] | (with_reducible intro hg; try simp only [hC, reduceCtorEq] at hg) | (with_reducible show List.Nodup _; decide) | (with_reducible show (_ : Bool) = false; first | rfl | (simp [*]; done)) | with_reducible exact at8_le _ _ | with_reducible exact at8_ge _ _ | (simp only [hC, reduceCtorEq]; omega) | omega | with_reducible assumption | (with_reducible show (_ : Bool) = true; first | (simp [*]; done) | (simp only [hC, reduceCtorEq]; (repeat' (first | assumption | apply And.intro)); done))))
      refine AW.loopW [1, 5] [0] (fun m xs o => ∃ i : Nat, xs = [.v (.int .i64 (mkc stNode l k i)), .v (.int .i64 i)] ∧ o = [(b, some (((mkp stNode l k i).map (encNode true)).flatMap AV.cells))] ∧ m = l.length - i ∧ i ≤ l.length) l.length [(b, some ((l.map (encNode true)).flatMap AV.cells))] (subO_one rfl) ⟨0, rfl, ?_, rfl, ?_⟩ ?_
      · rw [mkp_zero]
      · omega
      rintro m xs o ⟨i, rfl, rfl, rfl, hi⟩
      have h1 := mkc_ge (up_ge stNode_ge) l k i
      have h2 := mkc_le (up_ge stNode_ge) l k i
      (repeat' (first | (with_reducible first | refine Z ?_ | refine Y ?_ | (refine hK _ _ ?_; clear hK K) | exact trivial | refine And.intro ?_ ?_) | with_reducible rfl | ((with_reducible refine E ?_); (with_reducible repeat refine Y ?_); refine eF rfl ?_) | (with_reducible refine fun (K : _ → _ → Prop) hK => ?_) | (with_reducible show drawOK _ _ = true; kernel_rfl) | (with_reducible refine gI fun hg => ?_; try simp only [hC, reduceCtorEq] at hg; try simp only [hg]) | simp (maxSteps := 2000000) (disch := omega) only [go_sem] | (with_reducible intro hg; try simp only [hC, reduceCtorEq] at hg) | (with_reducible show List.Nodup _; decide) | (with_reducible show (_ : Bool) = false; first | rfl | (simp [*]; done)) | with_reducible exact at8_le _ _ | with_reducible exact at8_ge _ _ | (simp only [hC, reduceCtorEq]; omega) | omega | with_reducible assumption | (with_reducible show (_ : Bool) = true; first | (simp [*]; done) | (simp only [hC, reduceCtorEq]; (repeat' (first | assumption | apply And.intro)); done))))
      (refine AW.i rfl (fun h => ?_) (fun h => ?_) <;> try simp only [hC, reduceCtorEq] at h)
      · have h3 := mkc_le (up_ge stNode_ge) l k (i + 1)
        rw [mkd_at h]
        rw [mkc_step h] at h3
        have hpre := mkb_len (e := encNode true) (f := stNode) (sz := 3) (k := k) (fun x => by rw [encNode_eq]; rfl) hi
        have hpost : (((l.drop (i + 1)).map (encNode true)).flatMap AV.cells).length = (l.length - (i + 1)) * 3 := by
          rw [fm_len (e := encNode true) (sz := 3) (fun x => by rw [encNode_eq]; rfl), List.length_drop]
        have hnx := mkd_next (e := encNode true) (f := stNode) (k := k) h
        have hkk : SizeOf.sizeOf (at_ l i).fKids < n := by have := GNode.kids_lt (at_mem h); omega
        rw [stNode_eq] at hnx
        generalize mkb (encNode true) stNode l k i = pre at hpre hnx ⊢
        generalize ((l.drop (i + 1)).map (encNode true)).flatMap AV.cells = post at hnx hpost ⊢
        generalize e1 : at_ l i = x at *
        generalize e2 : mkc stNode l k i = c at *
        rw [encNode_eq]
        simp only [encNode_eq] at hnx
        refine AW.imp (Imp.pinE (b := b) pre [_, _, _] post (O_eq _ _ _) fun hs => ?_)
        simp (maxSteps := 2000000) (disch := omega) only [go_sem]
        have g0 := mkL_up stNode_ge x.fKids (c + 1 + 1)
        rw [stNode_eq] at h3; simp only at h3
        (repeat' (first | (with_reducible first | refine Z ?_ | refine Y ?_ | (refine hK _ _ ?_; clear hK K) | exact trivial | refine And.intro ?_ ?_) | with_reducible rfl | ((with_reducible refine E ?_); (with_reducible repeat refine Y ?_); refine eF rfl ?_) | (with_reducible refine fun (K : _ → _ → Prop) hK => ?_) | (with_reducible show drawOK _ _ = true; kernel_rfl) | (with_reducible refine gI fun hg => ?_; try simp only [hC, reduceCtorEq] at hg; try simp only [hg]) | simp (maxSteps := 2000000) (disch := omega) only [go_sem] | (with_reducible intro hg; try simp only [hC, reduceCtorEq] at hg) | (with_reducible show List.Nodup _; decide) | (with_reducible show (_ : Bool) = false; first | rfl | (simp [*]; done)) | with_reducible exact at8_le _ _ | with_reducible exact at8_ge _ _ | (simp only [hC, reduceCtorEq]; omega) | omega | with_reducible assumption | (with_reducible show (_ : Bool) = true; first | (simp [*]; done) | (simp only [hC, reduceCtorEq]; (repeat' (first | assumption | apply And.intro)); done))))
        refine Imp.unpE (b := b) pre [_, _, _] post (O_eq _ _ _) ?_
        simp (maxSteps := 2000000) (disch := omega) only [go_sem]
        exact ⟨_, [_, _], _, by omega, ⟨i + 1, by rw [mkc_step h, e1, e2, stNode_eq], rfl, rfl, by omega⟩, rfl, subO_one hnx⟩
      · rw [mkc_end h, mkp_end h]
        (repeat' (first | (with_reducible first | refine Z ?_ | refine Y ?_ | (refine hK _ _ ?_; clear hK K) | exact trivial | refine And.intro ?_ ?_) | with_reducible rfl | ((with_reducible refine E ?_); (with_reducible repeat refine Y ?_); refine eF rfl ?_) | (with_reducible refine fun (K : _ → _ → Prop) hK => ?_) | (with_reducible show drawOK _ _ = true; kernel_rfl) | (with_reducible refine gI fun hg => ?_; try simp only [hC, reduceCtorEq] at hg; try simp only [hg]) | simp (maxSteps := 2000000) (disch := omega) only [go_sem] | (with_reducible intro hg; try simp only [hC, reduceCtorEq] at hg) | (with_reducible show List.Nodup _; decide) | (with_reducible show (_ : Bool) = false; first | rfl | (simp [*]; done)) | with_reducible exact at8_le _ _ | with_reducible exact at8_ge _ _ | (simp only [hC, reduceCtorEq]; omega) | omega | with_reducible assumption | (with_reducible show (_ : Bool) = true; first | (simp [*]; done) | (simp only [hC, reduceCtorEq]; (repeat' (first | assumption | apply And.intro)); done))))
    · have : l = [] := by simpa using e
      subst this
      refine ⟨?_, rfl⟩
      refine Ctr.of_body en61 Tryz.func61 rfl rfl fun hp => (?_); rw [Tryz.ntmps61]
      (repeat' (first | (with_reducible first | refine Z ?_ | refine Y ?_ | (refine hK _ _ ?_; clear hK K) | exact trivial | refine And.intro ?_ ?_) | (refine AW.i rfl (fun h => ?_) (fun h => ?_) <;> try simp only [hC, reduceCtorEq] at h) | with_reducible rfl | ((with_reducible refine E ?_); (with_reducible repeat refine Y ?_); refine eF rfl ?_) | (with_reducible refine fun (K : _ → _ → Prop) hK => ?_) | (with_reducible show drawOK _ _ = true; kernel_rfl) | (with_reducible refine gI fun hg => ?_; try simp only [hC, reduceCtorEq] at hg; try simp only [hg]) | simp (maxSteps := 2000000) (disch := omega) only [go_sem] | (with_reducible intro hg; try simp only [hC, reduceCtorEq] at hg) | (with_reducible show List.Nodup _; decide) | (with_reducible show (_ : Bool) = false; first | rfl | (simp [*]; done)) | with_reducible exact at8_le _ _ | with_reducible exact at8_ge _ _ | (simp only [hC, reduceCtorEq]; omega) | omega | with_reducible assumption | (with_reducible show (_ : Bool) = true; first | (simp [*]; done) | (simp only [hC, reduceCtorEq]; (repeat' (first | assumption | apply And.intro)); done))))
      refine AW.loopV [] [0, 1, 5] (fun m xs o => xs = [] ∧ o = []) 0 [] trivial ⟨rfl, rfl⟩ ?_
      rintro m xs o ⟨rfl, rfl⟩
      (repeat' (first | (with_reducible first | refine Z ?_ | refine Y ?_ | (refine hK _ _ ?_; clear hK K) | exact trivial | refine And.intro ?_ ?_) | (refine AW.i rfl (fun h => ?_) (fun h => ?_) <;> try simp only [hC, reduceCtorEq] at h) | with_reducible rfl | ((with_reducible refine E ?_); (with_reducible repeat refine Y ?_); refine eF rfl ?_) | (with_reducible refine fun (K : _ → _ → Prop) hK => ?_) | (with_reducible show drawOK _ _ = true; kernel_rfl) | (with_reducible refine gI fun hg => ?_; try simp only [hC, reduceCtorEq] at hg; try simp only [hg]) | simp (maxSteps := 2000000) (disch := omega) only [go_sem] | (with_reducible intro hg; try simp only [hC, reduceCtorEq] at hg) | (with_reducible show List.Nodup _; decide) | (with_reducible show (_ : Bool) = false; first | rfl | (simp [*]; done)) | with_reducible exact at8_le _ _ | with_reducible exact at8_ge _ _ | (simp only [hC, reduceCtorEq]; omega) | omega | with_reducible assumption | (with_reducible show (_ : Bool) = true; first | (simp [*]; done) | (simp only [hC, reduceCtorEq]; (repeat' (first | assumption | apply And.intro)); done))))
      rfl
instance markNodeS_i (l : List GNode) (k : Int) : BCtr lim Tryz.prog 61 3 (l.map (encNode true)) [.v (.int .i64 k)] (.v (.int .i64 (mkL stNode l k).2)) ((mkL stNode l k).1.map (encNode true)) (0 ≤ k ∧ (mkL stNode l k).2 ≤ 1099511627776) := ⟨en61, fun h => (markNodeS_n (SizeOf.sizeOf l + 1) l k).out ⟨Nat.lt_succ_self _, h⟩⟩
instance markTemplateS_i (l : List GTemplate) (k : Int) : BCtr lim Tryz.prog 85 3 (l.map (encTemplate true)) [.v (.int .i64 k)] (.v (.int .i64 (mkL stTemplate l k).2)) ((mkL stTemplate l k).1.map (encTemplate true)) (0 ≤ k ∧ (mkL stTemplate l k).2 ≤ 1099511627776) := by
  refine BCtr.of en85 (fun b => ?_) (fun e => ?_) (by simp [mkL_len]) (map_elem (fun _ => rfl) _) (map_elem (fun _ => rfl) _)
  · simp only [List.length_map]
    refine Ctr.of_body en85 Tryz.func85 rfl rfl fun hp => (?_); rw [Tryz.ntmps85]
    have hup := mkL_up stTemplate_ge l k
    (repeat' (first | (with_reducible first | refine Z ?_ | refine Y ?_ | (refine hK _ _ ?_; clear hK K) | exact trivial | refine And.intro ?_ ?_) | (refine AW.i rfl (fun h => ?_) (fun h => ?_) <;> try simp only [hC, reduceCtorEq] at h) | with_reducible rfl | ((with_reducible refine E ?_); (with_reducible repeat refine Y ?_); refine eF rfl ?_) | (with_reducible refine fun (K : _ → _ → Prop) hK => ?_) | (with_reducible show drawOK _ _ = true; kernel_rfl) | (with_reducible refine gI fun hg => ?_; try simp only [hC, reduceCtorEq] at hg; try simp only [hg]) | simp (maxSteps := 2000000) (disch := omega) only [go_sem] | (with_reducible intro hg; try simp only [hC, reduceCtorEq] at hg) | (with_reducible show List.Nodup _; decide) | (with_reducible show (_ : Bool) = false; first | rfl | (simp [*]; done)) | with_reducible exact at8_le _ _ | with_reducible exact at8_ge _ _ | (simp only [hC, reduceCtorEq]; omega) | omega | with_reducible assumption | (with_reducible show (_ : Bool) = true; first | (simp [*]; done) | (simp only [hC, reduceCtorEq]; (repeat' (first | assumption | apply And.intro)); done))))
    refine AW.loopW [1, 5] [0] (fun m xs o => ∃ i : Nat, xs = [.v (.int .i64 (mkc stTemplate l k i)), .v (.int .i64 i)] ∧ o = [(b, some (((mkp stTemplate l k i).map (encTemplate true)).flatMap AV.cells))] ∧ m = l.length - i ∧ i ≤ l.length) l.length [(b, some ((l.map (encTemplate true)).flatMap AV.cells))] (subO_one rfl) ⟨0, rfl, ?_, rfl, ?_⟩ ?_
    · rw [mkp_zero]
    · omega
    rintro m xs o ⟨i, rfl, rfl, rfl, hi⟩
    have h1 := mkc_ge (up_ge stTemplate_ge) l k i
    have h2 := mkc_le (up_ge stTemplate_ge) l k i
    (repeat' (first | (with_reducible first | refine Z ?_ | refine Y ?_ | (refine hK _ _ ?_; clear hK K) | exact trivial | refine And.intro ?_ ?_) | with_reducible rfl | ((with_reducible refine E ?_); (with_reducible repeat refine Y ?_); refine eF rfl ?_) | (with_reducible refine fun (K : _ → _ → Prop) hK => ?_) | (with_reducible show drawOK _ _ = true; kernel_rfl) | (with_reducible refine gI fun hg => ?_; try simp only [hC, reduceCtorEq] at hg; try simp only [hg]) | simp (maxSteps := 2000000) (disch := omega) only [go_sem] | (with_reducible intro hg; try simp only [hC, reduceCtorEq] at hg) | (with_reducible show List.Nodup _; decide) | (with_reducible show (_ : Bool) = false; first | rfl | (simp [*]; done)) | with_reducible exact at8_le _ _ | with_reducible exact at8_ge _ _ | (simp only [hC, reduceCtorEq]; omega) | omega | with_reducible assumption | (with_reducible show (_ : Bool) = true; first | (simp [*]; done) | (simp only [hC, reduceCtorEq]; (repeat' (first | assumption | apply And.intro)); done))))
    (refine AW.i rfl (fun h => ?_) (fun h => ?_) <;> try simp only [hC, reduceCtorEq] at h)
    · have h3 := mkc_le (up_ge stTemplate_ge) l k (i + 1)
      rw [mkd_at h]
      rw [mkc_step h] at h3
      have hpre := mkb_len (e := encTemplate true) (f := stTemplate) (sz := 3) (k := k) (fun _ => rfl) hi
      have hpost : (((l.drop (i + 1)).map (encTemplate true)).flatMap AV.cells).length = (l.length - (i + 1)) * 3 := by
        rw [fm_len (e := encTemplate true) (sz := 3) (fun _ => rfl), List.length_drop]
      have hnx := mkd_next (e := encTemplate true) (f := stTemplate) (k := k) h
      generalize mkb (encTemplate true) stTemplate l k i = pre at hpre hnx ⊢
      generalize ((l.drop (i + 1)).map (encTemplate true)).flatMap AV.cells = post at hnx hpost ⊢
      generalize e1 : at_ l i = x at *
      generalize e2 : mkc stTemplate l k i = c at *
      refine AW.imp (Imp.pinE (b := b) pre [_, _, _] post (O_eq _ _ _) fun hs => ?_)
      simp (maxSteps := 2000000) (disch := omega) only [go_sem]
      have g0 := mkL_up stParam_ge x.fParams (c + 1)
      have g1 := mkL_up stNode_ge x.fBody ((mkL stParam x.fParams (c + 1)).2)
      simp only [stTemplate] at h3
      (repeat' (first | (with_reducible first | refine Z ?_ | refine Y ?_ | (refine hK _ _ ?_; clear hK K) | exact trivial | refine And.intro ?_ ?_) | with_reducible rfl | ((with_reducible refine E ?_); (with_reducible repeat refine Y ?_); refine eF rfl ?_) | (with_reducible refine fun (K : _ → _ → Prop) hK => ?_) | (with_reducible show drawOK _ _ = true; kernel_rfl) | (with_reducible refine gI fun hg => ?_; try simp only [hC, reduceCtorEq] at hg; try simp only [hg]) | simp (maxSteps := 2000000) (disch := omega) only [go_sem] | (with_reducible intro hg; try simp only [hC, reduceCtorEq] at hg) | (with_reducible show List.Nodup _; decide) | (with_reducible show (_ : Bool) = false; first | rfl | (simp [*]; done)) | with_reducible exact at8_le _ _ | with_reducible exact at8_ge _ _ | (simp only [hC, reduceCtorEq]; omega) | omega | with_reducible assumption | (with_reducible show (_ : Bool) = true; first | (simp [*]; done) | (simp only [hC, reduceCtorEq]; (repeat' (first | assumption | apply And.intro)); done))))
      refine Imp.unpE (b := b) pre [_, _, _] post (O_eq _ _ _) ?_
      simp (maxSteps := 2000000) (disch := omega) only [go_sem]
      exact ⟨_, [_, _], _, by omega, ⟨i + 1, by rw [mkc_step h, e1, e2]; rfl, rfl, rfl, by omega⟩, rfl, subO_one hnx⟩
    · rw [mkc_end h, mkp_end h]
      (repeat' (first | (with_reducible first | refine Z ?_ | refine Y ?_ | (refine hK _ _ ?_; clear hK K) | exact trivial | refine And.intro ?_ ?_) | with_reducible rfl | ((with_reducible refine E ?_); (with_reducible repeat refine Y ?_); refine eF rfl ?_) | (with_reducible refine fun (K : _ → _ → Prop) hK => ?_) | (with_reducible show drawOK _ _ = true; kernel_rfl) | (with_reducible refine gI fun hg => ?_; try simp only [hC, reduceCtorEq] at hg; try simp only [hg]) | simp (maxSteps := 2000000) (disch := omega) only [go_sem] | (with_reducible intro hg; try simp only [hC, reduceCtorEq] at hg) | (with_reducible show List.Nodup _; decide) | (with_reducible show (_ : Bool) = false; first | rfl | (simp [*]; done)) | with_reducible exact at8_le _ _ | with_reducible exact at8_ge _ _ | (simp only [hC, reduceCtorEq]; omega) | omega | with_reducible assumption | (with_reducible show (_ : Bool) = true; first | (simp [*]; done) | (simp only [hC, reduceCtorEq]; (repeat' (first | assumption | apply And.intro)); done))))
  · have : l = [] := by simpa using e
    subst this
    refine ⟨?_, rfl⟩
    refine Ctr.of_body en85 Tryz.func85 rfl rfl fun hp => (?_); rw [Tryz.ntmps85]
    (repeat' (first | (with_reducible first | refine Z ?_ | refine Y ?_ | (refine hK _ _ ?_; clear hK K) | exact trivial | refine And.intro ?_ ?_) | (refine AW.i rfl (fun h => ?_) (fun h => ?_) <;> try simp only [hC, reduceCtorEq] at h) | with_reducible rfl | ((with_reducible refine E ?_); (with_reducible repeat refine Y ?_); refine eF rfl ?_) | (with_reducible refine fun (K : _ → _ → Prop) hK => ?_) | (with_reducible show drawOK _ _ = true; kernel_rfl) | (with_reducible refine gI fun hg => ?_; try simp only [hC, reduceCtorEq] at hg; try simp only [hg]) | simp (maxSteps := 2000000) (disch := omega) only [go_sem] | (with_reducible intro hg; try simp only [hC, reduceCtorEq] at hg) | (with_reducible show List.Nodup _; decide) | (with_reducible show (_ : Bool) = false; first | rfl | (simp [*]; done)) | with_reducible exact at8_le _ _ | with_reducible exact at8_ge _ _ | (simp only [hC, reduceCtorEq]; omega) | omega | with_reducible assumption | (with_reducible show (_ : Bool) = true; first | (simp [*]; done) | (simp only [hC, reduceCtorEq]; (repeat' (first | assumption | apply And.intro)); done))))
    refine AW.loopV [] [0, 1, 5] (fun m xs o => xs = [] ∧ o = []) 0 [] trivial ⟨rfl, rfl⟩ ?_
    rintro m xs o ⟨rfl, rfl⟩
    (repeat' (first | (with_reducible first | refine Z ?_ | refine Y ?_ | (refine hK _ _ ?_; clear hK K) | exact trivial | refine And.intro ?_ ?_) | (refine AW.i rfl (fun h => ?_) (fun h => ?_) <;> try simp only [hC, reduceCtorEq] at h) | with_reducible rfl | ((with_reducible refine E ?_); (with_reducible repeat refine Y ?_); refine eF rfl ?_) | (with_reducible refine fun (K : _ → _ → Prop) hK => ?_) | (with_reducible show drawOK _ _ = true; kernel_rfl) | (with_reducible refine gI fun hg => ?_; try simp only [hC, reduceCtorEq] at hg; try simp only [hg]) | simp (maxSteps := 2000000) (disch := omega) only [go_sem] | (with_reducible intro hg; try simp only [hC, reduceCtorEq] at hg) | (with_reducible show List.Nodup _; decide) | (with_reducible show (_ : Bool) = false; first | rfl | (simp [*]; done)) | with_reducible exact at8_le _ _ | with_reducible exact at8_ge _ _ | (simp only [hC, reduceCtorEq]; omega) | omega | with_reducible assumption | (with_reducible show (_ : Bool) = true; first | (simp [*]; done) | (simp only [hC, reduceCtorEq]; (repeat' (first | assumption | apply And.intro)); done))))
    rfl
instance markArgS_i (l : List GArg) (k : Int) : BCtr lim Tryz.prog 87 2 (l.map (encArg true)) [.v (.int .i64 k)] (.v (.int .i64 (mkL stArg l k).2)) ((mkL stArg l k).1.map (encArg true)) (0 ≤ k ∧ (mkL stArg l k).2 ≤ 1099511627776) := by
  refine BCtr.of en87 (fun b => ?_) (fun e => ?_) (by simp [mkL_len]) (map_elem (fun _ => rfl) _) (map_elem (fun _ => rfl) _)
  · simp only [List.length_map]
    refine Ctr.of_body en87 Tryz.func87 rfl rfl fun hp => (?_); rw [Tryz.ntmps87]
    have hup := mkL_up stArg_ge l k
    (repeat' (first | (with_reducible first | refine Z ?_ | refine Y ?_ | (refine hK _ _ ?_; clear hK K) | exact trivial | refine And.intro ?_ ?_) | (refine AW.i rfl (fun h => ?_) (fun h => ?_) <;> try simp only [hC, reduceCtorEq] at h) | with_reducible rfl | ((with_reducible refine E ?_); (with_reducible repeat refine Y ?_); refine eF rfl ?_) | (with_reducible refine fun (K : _ → _ → Prop) hK => ?_) | (with_reducible show drawOK _ _ = true; kernel_rfl) | (with_reducible refine gI fun hg => ?_; try simp only [hC, reduceCtorEq] at hg; try simp only [hg]) | simp (maxSteps := 2000000) (disch := omega) only [go_sem] | (with_reducible intro hg; try simp only [hC, reduceCtorEq] at hg) | (with_reducible show List.Nodup _; decide) | (with_reducible show (_ : Bool) = false; first | rfl | (simp [*]; done)) | with_reducible exact at8_le _ _ | with_reducible exact at8_ge _ _ | (simp only [hC, reduceCtorEq]; omega) | omega | with_reducible assumption | (with_reducible show (_ : Bool) = true; first | (simp [*]; done) | (simp only [hC, reduceCtorEq]; (repeat' (first | assumption | apply And.intro)); done))))
    refine AW.loopV [1, 5] [0] (fun m xs o => ∃ i : Nat, xs = [.v (.int .i64 (mkc stArg l k i)), .v (.int .i64 i)] ∧ o = [(b, some (((mkp stArg l k i).map (encArg true)).flatMap AV.cells))] ∧ m = l.length - i ∧ i ≤ l.length) l.length [(b, some ((l.map (encArg true)).flatMap AV.cells))] (subO_one rfl) ⟨0, rfl, ?_, rfl, ?_⟩ ?_
    · rw [mkp_zero]
    · omega
    rintro m xs o ⟨i, rfl, rfl, rfl, hi⟩
    have h1 := mkc_ge (up_ge stArg_ge) l k i
    have h2 := mkc_le (up_ge stArg_ge) l k i
    (repeat' (first | (with_reducible first | refine Z ?_ | refine Y ?_ | (refine hK _ _ ?_; clear hK K) | exact trivial | refine And.intro ?_ ?_) | with_reducible rfl | ((with_reducible refine E ?_); (with_reducible repeat refine Y ?_); refine eF rfl ?_) | (with_reducible refine fun (K : _ → _ → Prop) hK => ?_) | (with_reducible show drawOK _ _ = true; kernel_rfl) | (with_reducible refine gI fun hg => ?_; try simp only [hC, reduceCtorEq] at hg; try simp only [hg]) | simp (maxSteps := 2000000) (disch := omega) only [go_sem] | (with_reducible intro hg; try simp only [hC, reduceCtorEq] at hg) | (with_reducible show List.Nodup _; decide) | (with_reducible show (_ : Bool) = false; first | rfl | (simp [*]; done)) | with_reducible exact at8_le _ _ | with_reducible exact at8_ge _ _ | (simp only [hC, reduceCtorEq]; omega) | omega | with_reducible assumption | (with_reducible show (_ : Bool) = true; first | (simp [*]; done) | (simp only [hC, reduceCtorEq]; (repeat' (first | assumption | apply And.intro)); done))))
    (refine AW.i rfl (fun h => ?_) (fun h => ?_) <;> try simp only [hC, reduceCtorEq] at h)
    · have h3 := mkc_le (up_ge stArg_ge) l k (i + 1)
      rw [mkd_at h]
      rw [mkc_step h] at h3
      have hpre := mkb_len (e := encArg true) (f := stArg) (sz := 2) (k := k) (fun _ => rfl) hi
      have hpost : (((l.drop (i + 1)).map (encArg true)).flatMap AV.cells).length = (l.length - (i + 1)) * 2 := by
        rw [fm_len (e := encArg true) (sz := 2) (fun _ => rfl), List.length_drop]
      have hnx := mkd_next (e := encArg true) (f := stArg) (k := k) h
      generalize mkb (encArg true) stArg l k i = pre at hpre hnx ⊢
      generalize ((l.drop (i + 1)).map (encArg true)).flatMap AV.cells = post at hnx hpost ⊢
      generalize e1 : at_ l i = x at *
      generalize e2 : mkc stArg l k i = c at *
      simp only [stArg] at h3
      (repeat' (first | (with_reducible first | refine Z ?_ | refine Y ?_ | (refine hK _ _ ?_; clear hK K) | exact trivial | refine And.intro ?_ ?_) | with_reducible rfl | ((with_reducible refine E ?_); (with_reducible repeat refine Y ?_); refine eF rfl ?_) | (with_reducible refine fun (K : _ → _ → Prop) hK => ?_) | (with_reducible show drawOK _ _ = true; kernel_rfl) | (with_reducible refine gI fun hg => ?_; try simp only [hC, reduceCtorEq] at hg; try simp only [hg]) | simp (maxSteps := 2000000) (disch := omega) only [go_sem] | (with_reducible intro hg; try simp only [hC, reduceCtorEq] at hg) | (with_reducible show List.Nodup _; decide) | (with_reducible show (_ : Bool) = false; first | rfl | (simp [*]; done)) | with_reducible exact at8_le _ _ | with_reducible exact at8_ge _ _ | (simp only [hC, reduceCtorEq]; omega) | omega | with_reducible assumption | (with_reducible show (_ : Bool) = true; first | (simp [*]; done) | (simp only [hC, reduceCtorEq]; (repeat' (first | assumption | apply And.intro)); done))))
      exact ⟨_, [_, _], _, by omega, ⟨i + 1, by rw [mkc_step h, e1, e2]; rfl, rfl, rfl, by omega⟩, rfl, subO_one hnx⟩
    · rw [mkc_end h, mkp_end h]
      (repeat' (first | (with_reducible first | refine Z ?_ | refine Y ?_ | (refine hK _ _ ?_; clear hK K) | exact trivial | refine And.intro ?_ ?_) | with_reducible rfl | ((with_reducible refine E ?_); (with_reducible repeat refine Y ?_); refine eF rfl ?_) | (with_reducible refine fun (K : _ → _ → Prop) hK => ?_) | (with_reducible show drawOK _ _ = true; kernel_rfl) | (with_reducible refine gI fun hg => ?_; try simp only [hC, reduceCtorEq] at hg; try simp only [hg]) | simp (maxSteps := 2000000) (disch := omega) only [go_sem] | (with_reducible intro hg; try simp only [hC, reduceCtorEq] at hg) | (with_reducible show List.Nodup _; decide) | (with_reducible show (_ : Bool) = false; first | rfl | (simp [*]; done)) | with_reducible exact at8_le _ _ | with_reducible exact at8_ge _ _ | (simp only [hC, reduceCtorEq]; omega) | omega | with_reducible assumption | (with_reducible show (_ : Bool) = true; first | (simp [*]; done) | (simp only [hC, reduceCtorEq]; (repeat' (first | assumption | apply And.intro)); done))))
  · have : l = [] := by simpa using e
    subst this
    refine ⟨?_, rfl⟩
    refine Ctr.of_body en87 Tryz.func87 rfl rfl fun hp => (?_); rw [Tryz.ntmps87]
    (repeat' (first | (with_reducible first | refine Z ?_ | refine Y ?_ | (refine hK _ _ ?_; clear hK K) | exact trivial | refine And.intro ?_ ?_) | (refine AW.i rfl (fun h => ?_) (fun h => ?_) <;> try simp only [hC, reduceCtorEq] at h) | with_reducible rfl | ((with_reducible refine E ?_); (with_reducible repeat refine Y ?_); refine eF rfl ?_) | (with_reducible refine fun (K : _ → _ → Prop) hK => ?_) | (with_reducible show drawOK _ _ = true; kernel_rfl) | (with_reducible refine gI fun hg => ?_; try simp only [hC, reduceCtorEq] at hg; try simp only [hg]) | simp (maxSteps := 2000000) (disch := omega) only [go_sem] | (with_reducible intro hg; try simp only [hC, reduceCtorEq] at hg) | (with_reducible show List.Nodup _; decide) | (with_reducible show (_ : Bool) = false; first | rfl | (simp [*]; done)) | with_reducible exact at8_le _ _ | with_reducible exact at8_ge _ _ | (simp only [hC, reduceCtorEq]; omega) | omega | with_reducible assumption | (with_reducible show (_ : Bool) = true; first | (simp [*]; done) | (simp only [hC, reduceCtorEq]; (repeat' (first | assumption | apply And.intro)); done))))
    refine AW.loopV [] [0, 1, 5] (fun m xs o => xs = [] ∧ o = []) 0 [] trivial ⟨rfl, rfl⟩ ?_
    rintro m xs o ⟨rfl, rfl⟩
    (repeat' (first | (with_reducible first | refine Z ?_ | refine Y ?_ | (refine hK _ _ ?_; clear hK K) | exact trivial | refine And.intro ?_ ?_) | (refine AW.i rfl (fun h => ?_) (fun h => ?_) <;> try simp only [hC, reduceCtorEq] at h) | with_reducible rfl | ((with_reducible refine E ?_); (with_reducible repeat refine Y ?_); refine eF rfl ?_) | (with_reducible refine fun (K : _ → _ → Prop) hK => ?_) | (with_reducible show drawOK _ _ = true; kernel_rfl) | (with_reducible refine gI fun hg => ?_; try simp only [hC, reduceCtorEq] at hg; try simp only [hg]) | simp (maxSteps := 2000000) (disch := omega) only [go_sem] | (with_reducible intro hg; try simp only [hC, reduceCtorEq] at hg) | (with_reducible show List.Nodup _; decide) | (with_reducible show (_ : Bool) = false; first | rfl | (simp [*]; done)) | with_reducible exact at8_le _ _ | with_reducible exact at8_ge _ _ | (simp only [hC, reduceCtorEq]; omega) | omega | with_reducible assumption | (with_reducible show (_ : Bool) = true; first | (simp [*]; done) | (simp only [hC, reduceCtorEq]; (repeat' (first | assumption | apply And.intro)); done))))
    rfl
instance markServiceS_i (l : List GService) (k : Int) : BCtr lim Tryz.prog 86 4 (l.map (encService true)) [.v (.int .i64 k)] (.v (.int .i64 (mkL stService l k).2)) ((mkL stService l k).1.map (encService true)) (0 ≤ k ∧ (mkL stService l k).2 ≤ 1099511627776) := by
  refine BCtr.of en86 (fun b => ?_) (fun e => ?_) (by simp [mkL_len]) (map_elem (fun _ => rfl) _) (map_elem (fun _ => rfl) _)
  · simp only [List.length_map]
    refine Ctr.of_body en86 Tryz.func86 rfl rfl fun hp => (?_); rw [Tryz.ntmps86]
    have hup := mkL_up stService_ge l k
    (repeat' (first | (with_reducible first | refine Z ?_ | refine Y ?_ | (refine hK _ _ ?_; clear hK K) | exact trivial | refine And.intro ?_ ?_) | (refine AW.i rfl (fun h => ?_) (fun h => ?_) <;> try simp only [hC, reduceCtorEq] at h) | with_reducible rfl | ((with_reducible refine E ?_); (with_reducible repeat refine Y ?_); refine eF rfl ?_) | (with_reducible refine fun (K : _ → _ → Prop) hK => ?_) | (with_reducible show drawOK _ _ = true; kernel_rfl) | (with_reducible refine gI fun hg => ?_; try simp only [hC, reduceCtorEq] at hg; try simp only [hg]) | simp (maxSteps := 2000000) (disch := omega) only [go_sem] | (with_reducible intro hg; try simp only [hC, reduceCtorEq] at hg) | (with_reducible show List.Nodup _; decide) | (with_reducible show (_ : Bool) = false; first | rfl | (simp [*]; done)) | with_reducible exact at8_le _ _ | with_reducible exact at8_ge _ _ | (simp only [hC, reduceCtorEq]; omega) | omega | with_reducible assumption | (with_reducible show (_ : Bool) = true; first | (simp [*]; done) | (simp only [hC, reduceCtorEq]; (repeat' (first | assumption | apply And.intro)); done))))
    refine AW.loopW [1, 5] [0] (fun m xs o => ∃ i : Nat, xs = [.v (.int .i64 (mkc stService l k i)), .v (.int .i64 i)] ∧ o = [(b, some (((mkp stService l k i).map (encService true)).flatMap AV.cells))] ∧ m = l.length - i ∧ i ≤ l.length) l.length [(b, some ((l.map (encService true)).flatMap AV.cells))] (subO_one rfl) ⟨0, rfl, ?_, rfl, ?_⟩ ?_
    · rw [mkp_zero]
    · omega
    rintro m xs o ⟨i, rfl, rfl, rfl, hi⟩
    have h1 := mkc_ge (up_ge stService_ge) l k i
    have h2 := mkc_le (up_ge stService_ge) l k i
    (repeat' (first | (with_reducible first | refine Z ?_ | refine Y ?_ | (refine hK _ _ ?_; clear hK K) | exact trivial | refine And.intro ?_ ?_) | with_reducible rfl | ((with_reducible refine E ?_); (with_reducible repeat refine Y ?_); refine eF rfl ?_) | (with_reducible refine fun (K : _ → _ → Prop) hK => ?_) | (with_reducible show drawOK _ _ = true; kernel_rfl) | (with_reducible refine gI fun hg => ?_; try simp only [hC, reduceCtorEq] at hg; try simp only [hg]) | simp (maxSteps := 2000000) (disch := omega) only [go_sem] | (with_reducible intro hg; try simp only [hC, reduceCtorEq] at hg) | (with_reducible show List.Nodup _; decide) | (with_reducible show (_ : Bool) = false; first | rfl | (simp [*]; done)) | with_reducible exact at8_le _ _ | with_reducible exact at8_ge _ _ | (simp only [hC, reduceCtorEq]; omega) | omega | with_reducible assumption | (with_reducible show (_ : Bool) = true; first | (simp [*]; done) | (simp only [hC, reduceCtorEq]; (repeat' (first | assumption | apply And.intro)); done))))
    (refine AW.i rfl (fun h => ?_) (fun h => ?_) <;> try simp only [hC, reduceCtorEq] at h)
    · have h3 := mkc_le (up_ge stService_ge) l k (i + 1)
      rw [mkd_at h]
      rw [mkc_step h] at h3
      have hpre := mkb_len (e := encService true) (f := stService) (sz := 4) (k := k) (fun _ => rfl) hi
      have hpost : (((l.drop (i + 1)).map (encService true)).flatMap AV.cells).length = (l.length - (i + 1)) * 4 := by
        rw [fm_len (e := encService true) (sz := 4) (fun _ => rfl), List.length_drop]
      have hnx := mkd_next (e := encService true) (f := stService) (k := k) h
      generalize mkb (encService true) stService l k i = pre at hpre hnx ⊢
      generalize ((l.drop (i + 1)).map (encService true)).flatMap AV.cells = post at hnx hpost ⊢
      generalize e1 : at_ l i = x at *
      generalize e2 : mkc stService l k i = c at *
      refine AW.imp (Imp.pinE (b := b) pre [_, _, _, _] post (O_eq _ _ _) fun hs => ?_)
      simp (maxSteps := 2000000) (disch := omega) only [go_sem]
      have g0 := mkL_up stArg_ge x.fArgs (c + 1 + 1)
      have g1 := mkL_up stString_ge x.fTargets ((mkL stArg x.fArgs (c + 1 + 1)).2)
      simp only [stService] at h3
      (repeat' (first | (with_reducible first | refine Z ?_ | refine Y ?_ | (refine hK _ _ ?_; clear hK K) | exact trivial | refine And.intro ?_ ?_) | with_reducible rfl | ((with_reducible refine E ?_); (with_reducible repeat refine Y ?_); refine eF rfl ?_) | (with_reducible refine fun (K : _ → _ → Prop) hK => ?_) | (with_reducible show drawOK _ _ = true; kernel_rfl) | (with_reducible refine gI fun hg => ?_; try simp only [hC, reduceCtorEq] at hg; try simp only [hg]) | simp (maxSteps := 2000000) (disch := omega) only [go_sem] | (with_reducible intro hg; try simp only [hC, reduceCtorEq] at hg) | (with_reducible show List.Nodup _; decide) | (with_reducible show (_ : Bool) = false; first | rfl | (simp [*]; done)) | with_reducible exact at8_le _ _ | with_reducible exact at8_ge _ _ | (simp only [hC, reduceCtorEq]; omega) | omega | with_reducible assumption | (with_reducible show (_ : Bool) = true; first | (simp [*]; done) | (simp only [hC, reduceCtorEq]; (repeat' (first | assumption | apply And.intro)); done))))
      refine Imp.unpE (b := b) pre [_, _, _, _] post (O_eq _ _ _) ?_
      simp (maxSteps := 2000000) (disch := omega) only [go_sem]
      exact ⟨_, [_, _], _, by omega, ⟨i + 1, by rw [mkc_step h, e1, e2]; rfl, rfl, rfl, by omega⟩, rfl, subO_one hnx⟩
    · rw [mkc_end h, mkp_end h]
      (repeat' (first | (with_reducible first | refine Z ?_ | refine Y ?_ | (refine hK _ _ ?_; clear hK K) | exact trivial | refine And.intro ?_ ?_) | with_reducible rfl | ((with_reducible refine E ?_); (with_reducible repeat refine Y ?_); refine eF rfl ?_) | (with_reducible refine fun (K : _ → _ → Prop) hK => ?_) | (with_reducible show drawOK _ _ = true; kernel_rfl) | (with_reducible refine gI fun hg => ?_; try simp only [hC, reduceCtorEq] at hg; try simp only [hg]) | simp (maxSteps := 2000000) (disch := omega) only [go_sem] | (with_reducible intro hg; try simp only [hC, reduceCtorEq] at hg) | (with_reducible show List.Nodup _; decide) | (with_reducible show (_ : Bool) = false; first | rfl | (simp [*]; done)) | with_reducible exact at8_le _ _ | with_reducible exact at8_ge _ _ | (simp only [hC, reduceCtorEq]; omega) | omega | with_reducible assumption | (with_reducible show (_ : Bool) = true; first | (simp [*]; done) | (simp only [hC, reduceCtorEq]; (repeat' (first | assumption | apply And.intro)); done))))
  · have : l = [] := by simpa using e
    subst this
    refine ⟨?_, rfl⟩
    refine Ctr.of_body en86 Tryz.func86 rfl rfl fun hp => (?_); rw [Tryz.ntmps86]
    (repeat' (first | (with_reducible first | refine Z ?_ | refine Y ?_ | (refine hK _ _ ?_; clear hK K) | exact trivial | refine And.intro ?_ ?_) | (refine AW.i rfl (fun h => ?_) (fun h => ?_) <;> try simp only [hC, reduceCtorEq] at h) | with_reducible rfl | ((with_reducible refine E ?_); (with_reducible repeat refine Y ?_); refine eF rfl ?_) | (with_reducible refine fun (K : _ → _ → Prop) hK => ?_) | (with_reducible show drawOK _ _ = true; kernel_rfl) | (with_reducible refine gI fun hg => ?_; try simp only [hC, reduceCtorEq] at hg; try simp only [hg]) | simp (maxSteps := 2000000) (disch := omega) only [go_sem] | (with_reducible intro hg; try simp only [hC, reduceCtorEq] at hg) | (with_reducible show List.Nodup _; decide) | (with_reducible show (_ : Bool) = false; first | rfl | (simp [*]; done)) | with_reducible exact at8_le _ _ | with_reducible exact at8_ge _ _ | (simp only [hC, reduceCtorEq]; omega) | omega | with_reducible assumption | (with_reducible show (_ : Bool) = true; first | (simp [*]; done) | (simp only [hC, reduceCtorEq]; (repeat' (first | assumption | apply And.intro)); done))))
    refine AW.loopV [] [0, 1, 5] (fun m xs o => xs = [] ∧ o = []) 0 [] trivial ⟨rfl, rfl⟩ ?_
    rintro m xs o ⟨rfl, rfl⟩
    (repeat' (first | (with_reducible first | refine Z ?_ | refine Y ?_ | (refine hK _ _ ?_; clear hK K) | exact trivial | refine And.intro ?_ ?_) | (refine AW.i rfl (fun h => ?_) (fun h => ?_) <;> try simp only [hC, reduceCtorEq] at h) | with_reducible rfl | ((with_reducible refine E ?_); (with_reducible repeat refine Y ?_); refine eF rfl ?_) | (with_reducible refine fun (K : _ → _ → Prop) hK => ?_) | (with_reducible show drawOK _ _ = true; kernel_rfl) | (with_reducible refine gI fun hg => ?_; try simp only [hC, reduceCtorEq] at hg; try simp only [hg]) | simp (maxSteps := 2000000) (disch := omega) only [go_sem] | (with_reducible intro hg; try simp only [hC, reduceCtorEq] at hg) | (with_reducible show List.Nodup _; decide) | (with_reducible show (_ : Bool) = false; first | rfl | (simp [*]; done)) | with_reducible exact at8_le _ _ | with_reducible exact at8_ge _ _ | (simp only [hC, reduceCtorEq]; omega) | omega | with_reducible assumption | (with_reducible show (_ : Bool) = true; first | (simp [*]; done) | (simp only [hC, reduceCtorEq]; (repeat' (first | assumption | apply And.intro)); done))))
    rfl
instance markPlan_i (x : GPlan) (k : Int) : ICtr lim Tryz.prog 33 true [.sl true 3 (x.fTemplates.map (encTemplate true)), .sl true 4 (x.fServices.map (encService true))] [.v (.int .i64 k)] (.v (.int .i64 (mkL stService x.fServices (mkL stTemplate x.fTemplates k).2).2)) [.sl true 3 ((mkL stTemplate x.fTemplates k).1.map (encTemplate true)), .sl true 4 ((mkL stService x.fServices (mkL stTemplate x.fTemplates k).2).1.map (encService true))] (0 ≤ k ∧ (mkL stService x.fServices (mkL stTemplate x.fTemplates k).2).2 ≤ 1099511627776) := by
  refine ⟨en33, fun hp => InC.of_body Tryz.func33 rfl rfl rfl (fun hs => rfl) (fun hs => rfl) (fun hs => rfl) rfl fun hs => ?_⟩
  rw [Tryz.ntmps33]
  have g0 := mkL_up stTemplate_ge x.fTemplates k
  have g1 := mkL_up stService_ge x.fServices (mkL stTemplate x.fTemplates k).2
  (repeat' (first | (with_reducible first | refine Z ?_ | refine xO ?_ | refine Y ?_ | (refine hK _ _ ?_; clear hK K) | exact trivial | refine And.intro ?_ ?_) | (refine AW.i rfl (fun h => ?_) (fun h => ?_) <;> try simp only [hC, reduceCtorEq] at h) | with_reducible rfl | (with_reducible refine fun (K : _ → _ → Prop) hK => ?_) | (with_reducible show drawOK _ _ = true; kernel_rfl) | (with_reducible refine gI fun hg => ?_; try simp only [hC, reduceCtorEq] at hg; try simp only [hg]) | simp (maxSteps := 2000000) (disch := omega) only [go_sem] | (with_reducible intro hg; try simp only [hC, reduceCtorEq] at hg) | (with_reducible show List.Nodup _; decide) | (with_reducible show (_ : Bool) = false; first | rfl | (simp [*]; done)) | with_reducible exact at8_le _ _ | with_reducible exact at8_ge _ _ | (simp only [hC, reduceCtorEq]; omega) | omega | with_reducible assumption | (with_reducible show (_ : Bool) = true; first | (simp [*]; done) | (simp only [hC, reduceCtorEq]; (repeat' (first | assumption | apply And.intro)); done))))
  refine AW.ret (EndsG.inp hg rfl ?_)
  simp (maxSteps := 2000000) (disch := omega) only [go_sem]
end Go.Proofs.YtkdchlggdcmkbaaGreat
namespace Go.Proofs.YtkdchlggdcmkbaaGreat
open Go.Ab Go.Dt
set_option maxRecDepth 20000
set_option maxHeartbeats 4000000
instance markTestS_i (l : List GTest) (k : Int) : BCtr lim Tryz.prog 214 2 (l.map (encTest true)) [.v (.int .i64 k)] (.v (.int .i64 (mkL stTest l k).2)) ((mkL stTest l k).1.map (encTest true)) (0 ≤ k ∧ (mkL stTest l k).2 ≤ 1099511627776) := by
  refine BCtr.of en214 (fun b => ?_) (fun e => ?_) (by simp [mkL_len]) (map_elem (fun _ => rfl) _) (map_elem (fun _ => rfl) _)
  · simp only [List.length_map]
    refine Ctr.of_body en214 Tryz.func214 rfl rfl fun hp => (?_); rw [Tryz.ntmps214]
    have hup := mkL_up stTest_ge l k
    (repeat' (first | (with_reducible first | refine Z ?_ | refine Y ?_ | (refine hK _ _ ?_; clear hK K) | exact trivial | refine And.intro ?_ ?_) | (refine AW.i rfl (fun h => ?_) (fun h => ?_) <;> try simp only [hC, reduceCtorEq] at h) | with_reducible rfl | ((with_reducible refine E ?_); (with_reducible repeat refine Y ?_); refine eF rfl ?_) | (with_reducible refine fun (K : _ → _ → Prop) hK => ?_) | (with_reducible show drawOK _ _ = true; kernel_rfl) | (with_reducible refine gI fun hg => ?_; try simp only [hC, reduceCtorEq] at hg; try simp only [hg]) | simp (maxSteps := 2000000) (disch := omega) only [go_sem] | (with_reducible intro hg; try simp only [hC, reduceCtorEq] at hg) | (with_reducible show List.Nodup _; decide) | (with_reducible show (_ : Bool) = false; first | rfl | (simp [*]; done)) | with_reducible exact at8_le _ _ | with_reducible exact at8_ge _ _ | (simp only [hC, reduceCtorEq]; omega) | omega | with_reducible assumption | (with_reducible show (_ : Bool) = true; first | (simp [*]; done) | (simp only [hC, reduceCtorEq]; (repeat' (first | assumption | apply And.intro)); done))))
    refine AW.loopV [1, 5] [0] (fun m xs o => ∃ i : Nat, xs = [.v (.int .i64 (mkc stTest l k i)), .v (.int .i64 i)] ∧ o = [(b, some (((mkp stTest l k i).map (encTest true)).flatMap AV.cells))] ∧ m = l.length - i ∧ i ≤ l.length) l.length [(b, some ((l.map (encTest true)).flatMap AV.cells))] (subO_one rfl) ⟨0, rfl, ?_, rfl, ?_⟩ ?_
    · rw [mkp_zero]
    · omega
    rintro m xs o ⟨i, rfl, rfl, rfl, hi⟩
    have h1 := mkc_ge (up_ge stTest_ge) l k i
    have h2 := mkc_le (up_ge stTest_ge) l k i
    (repeat' (first | (with_reducible first | refine Z ?_ | refine Y ?_ | (refine hK _ _ ?_; clear hK K) | exact trivial | refine And.intro ?_ ?_) | with_reducible rfl | ((with_reducible refine E ?_); (with_reducible repeat refine Y ?_); refine eF rfl ?_) | (with_reducible refine fun (K : _ → _ → Prop) hK => ?_) | (with_reducible show drawOK _ _ = true; kernel_rfl) | (with_reducible refine gI fun hg => ?_; try simp only [hC, reduceCtorEq] at hg; try simp only [hg]) | simp (maxSteps := 2000000) (disch := omega) only [go_sem] | (with_reducible intro hg; try simp only [hC, reduceCtorEq] at hg) | (with_reducible show List.Nodup _; decide) | (with_reducible show (_ : Bool) = false; first | rfl | (simp [*]; done)) | with_reducible exact at8_le _ _ | with_reducible exact at8_ge _ _ | (simp only [hC, reduceCtorEq]; omega) | omega | with_reducible assumption | (with_reducible show (_ : Bool) = true; first | (simp [*]; done) | (simp only [hC, reduceCtorEq]; (repeat' (first | assumption | apply And.intro)); done))))
    (refine AW.i rfl (fun h => ?_) (fun h => ?_) <;> try simp only [hC, reduceCtorEq] at h)
    · have h3 := mkc_le (up_ge stTest_ge) l k (i + 1)
      rw [mkd_at h]
      rw [mkc_step h] at h3
      have hpre := mkb_len (e := encTest true) (f := stTest) (sz := 2) (k := k) (fun _ => rfl) hi
      have hpost : (((l.drop (i + 1)).map (encTest true)).flatMap AV.cells).length = (l.length - (i + 1)) * 2 := by
        rw [fm_len (e := encTest true) (sz := 2) (fun _ => rfl), List.length_drop]
      have hnx := mkd_next (e := encTest true) (f := stTest) (k := k) h
      generalize mkb (encTest true) stTest l k i = pre at hpre hnx ⊢
      generalize ((l.drop (i + 1)).map (encTest true)).flatMap AV.cells = post at hnx hpost ⊢
      generalize e1 : at_ l i = x at *
      generalize e2 : mkc stTest l k i = c at *
      simp only [stTest] at h3
      (repeat' (first | (with_reducible first | refine Z ?_ | refine Y ?_ | (refine hK _ _ ?_; clear hK K) | exact trivial | refine And.intro ?_ ?_) | with_reducible rfl | ((with_reducible refine E ?_); (with_reducible repeat refine Y ?_); refine eF rfl ?_) | (with_reducible refine fun (K : _ → _ → Prop) hK => ?_) | (with_reducible show drawOK _ _ = true; kernel_rfl) | (with_reducible refine gI fun hg => ?_; try simp only [hC, reduceCtorEq] at hg; try simp only [hg]) | simp (maxSteps := 2000000) (disch := omega) only [go_sem] | (with_reducible intro hg; try simp only [hC, reduceCtorEq] at hg) | (with_reducible show List.Nodup _; decide) | (with_reducible show (_ : Bool) = false; first | rfl | (simp [*]; done)) | with_reducible exact at8_le _ _ | with_reducible exact at8_ge _ _ | (simp only [hC, reduceCtorEq]; omega) | omega | with_reducible assumption | (with_reducible show (_ : Bool) = true; first | (simp [*]; done) | (simp only [hC, reduceCtorEq]; (repeat' (first | assumption | apply And.intro)); done))))
      exact ⟨_, [_, _], _, by omega, ⟨i + 1, by rw [mkc_step h, e1, e2]; rfl, rfl, rfl, by omega⟩, rfl, subO_one hnx⟩
    · rw [mkc_end h, mkp_end h]
      (repeat' (first | (with_reducible first | refine Z ?_ | refine Y ?_ | (refine hK _ _ ?_; clear hK K) | exact trivial | refine And.intro ?_ ?_) | with_reducible rfl | ((with_reducible refine E ?_); (with_reducible repeat refine Y ?_); refine eF rfl ?_) | (with_reducible refine fun (K : _ → _ → Prop) hK => ?_) | (with_reducible show drawOK _ _ = true; kernel_rfl) | (with_reducible refine gI fun hg => ?_; try simp only [hC, reduceCtorEq] at hg; try simp only [hg]) | simp (maxSteps := 2000000) (disch := omega) only [go_sem] | (with_reducible intro hg; try simp only [hC, reduceCtorEq] at hg) | (with_reducible show List.Nodup _; decide) | (with_reducible show (_ : Bool) = false; first | rfl | (simp [*]; done)) | with_reducible exact at8_le _ _ | with_reducible exact at8_ge _ _ | (simp only [hC, reduceCtorEq]; omega) | omega | with_reducible assumption | (with_reducible show (_ : Bool) = true; first | (simp [*]; done) | (simp only [hC, reduceCtorEq]; (repeat' (first | assumption | apply And.intro)); done))))
  · have : l = [] := by simpa using e
    subst this
    refine ⟨?_, rfl⟩
    refine Ctr.of_body en214 Tryz.func214 rfl rfl fun hp => (?_); rw [Tryz.ntmps214]
    (repeat' (first | (with_reducible first | refine Z ?_ | refine Y ?_ | (refine hK _ _ ?_; clear hK K) | exact trivial | refine And.intro ?_ ?_) | (refine AW.i rfl (fun h => ?_) (fun h => ?_) <;> try simp only [hC, reduceCtorEq] at h) | with_reducible rfl | ((with_reducible refine E ?_); (with_reducible repeat refine Y ?_); refine eF rfl ?_) | (with_reducible refine fun (K : _ → _ → Prop) hK => ?_) | (with_reducible show drawOK _ _ = true; kernel_rfl) | (with_reducible refine gI fun hg => ?_; try simp only [hC, reduceCtorEq] at hg; try simp only [hg]) | simp (maxSteps := 2000000) (disch := omega) only [go_sem] | (with_reducible intro hg; try simp only [hC, reduceCtorEq] at hg) | (with_reducible show List.Nodup _; decide) | (with_reducible show (_ : Bool) = false; first | rfl | (simp [*]; done)) | with_reducible exact at8_le _ _ | with_reducible exact at8_ge _ _ | (simp only [hC, reduceCtorEq]; omega) | omega | with_reducible assumption | (with_reducible show (_ : Bool) = true; first | (simp [*]; done) | (simp only [hC, reduceCtorEq]; (repeat' (first | assumption | apply And.intro)); done))))
    refine AW.loopV [] [0, 1, 5] (fun m xs o => xs = [] ∧ o = []) 0 [] trivial ⟨rfl, rfl⟩ ?_
    rintro m xs o ⟨rfl, rfl⟩
    (repeat' (first | (with_reducible first | refine Z ?_ | refine Y ?_ | (refine hK _ _ ?_; clear hK K) | exact trivial | refine And.intro ?_ ?_) | (refine AW.i rfl (fun h => ?_) (fun h => ?_) <;> try simp only [hC, reduceCtorEq] at h) | with_reducible rfl | ((with_reducible refine E ?_); (with_reducible repeat refine Y ?_); refine eF rfl ?_) | (with_reducible refine fun (K : _ → _ → Prop) hK => ?_) | (with_reducible show drawOK _ _ = true; kernel_rfl) | (with_reducible refine gI fun hg => ?_; try simp only [hC, reduceCtorEq] at hg; try simp only [hg]) | simp (maxSteps := 2000000) (disch := omega) only [go_sem] | (with_reducible intro hg; try simp only [hC, reduceCtorEq] at hg) | (with_reducible show List.Nodup _; decide) | (with_reducible show (_ : Bool) = false; first | rfl | (simp [*]; done)) | with_reducible exact at8_le _ _ | with_reducible exact at8_ge _ _ | (simp only [hC, reduceCtorEq]; omega) | omega | with_reducible assumption | (with_reducible show (_ : Bool) = true; first | (simp [*]; done) | (simp only [hC, reduceCtorEq]; (repeat' (first | assumption | apply And.intro)); done))))
    rfl
instance markStepS_i (l : List Dt.GStep) (k : Int) : BCtr lim Tryz.prog 199 2 (l.map (encStep true)) [.v (.int .i64 k)] (.v (.int .i64 (mkL stStep l k).2)) ((mkL stStep l k).1.map (encStep true)) (0 ≤ k ∧ (mkL stStep l k).2 ≤ 1099511627776) := by
  refine BCtr.of en199 (fun b => ?_) (fun e => ?_) (by simp [mkL_len]) (map_elem (fun _ => rfl) _) (map_elem (fun _ => rfl) _)
  · simp only [List.length_map]
    refine Ctr.of_body en199 Tryz.func199 rfl rfl fun hp => (?_); rw [Tryz.ntmps199]
    have hup := mkL_up stStep_ge l k
    (repeat' (first | (with_reducible first | refine Z ?_ | refine Y ?_ | (refine hK _ _ ?_; clear hK K) | exact trivial | refine And.intro ?_ ?_) | (refine AW.i rfl (fun h => ?_) (fun h => ?_) <;> try simp only [hC, reduceCtorEq] at h) | with_reducible rfl | ((with_reducible refine E ?_); (with_reducible repeat refine Y ?_); refine eF rfl ?_) | (with_reducible refine fun (K : _ → _ → Prop) hK => ?_) | (with_reducible show drawOK _ _ = true; kernel_rfl) | (with_reducible refine gI fun hg => ?_; try simp only [hC, reduceCtorEq] at hg; try simp only [hg]) | simp (maxSteps := 2000000) (disch := omega) only [go_sem] | (with_reducible intro hg; try simp only [hC, reduceCtorEq] at hg) | (with_reducible show List.Nodup _; decide) | (with_reducible show (_ : Bool) = false; first | rfl | (simp [*]; done)) | with_reducible exact at8_le _ _ | with_reducible exact at8_ge _ _ | (simp only [hC, reduceCtorEq]; omega) | omega | with_reducible assumption | (with_reducible show (_ : Bool) = true; first | (simp [*]; done) | (simp only [hC, reduceCtorEq]; (repeat' (first | assumption | apply And.intro)); done))))
    refine AW.loopW [1, 5] [0] (fun m xs o => ∃ i : Nat, xs = [.v (.int .i64 (mkc stStep l k i)), .v (.int .i64 i)] ∧ o = [(b, some (((mkp stStep l k i).map (encStep true)).flatMap AV.cells))] ∧ m = l.length - i ∧ i ≤ l.length) l.length [(b, some ((l.map (encStep true)).flatMap AV.cells))] (subO_one rfl) ⟨0, rfl, ?_, rfl, ?_⟩ ?_
    · rw [mkp_zero]
    · omega
    rintro m xs o ⟨i, rfl, rfl, rfl, hi⟩
    have h1 := mkc_ge (up_ge stStep_ge) l k i
    have h2 := mkc_le (up_ge stStep_ge) l k i
    (repeat' (first | (with_reducible first | refine Z ?_ | refine Y ?_ | (refine hK _ _ ?_; clear hK K) | exact trivial | refine And.intro ?_ ?_) | with_reducible rfl | ((with_reducible refine E ?_); (with_reducible repeat refine Y ?_); refine eF rfl ?_) | (with_reducible refine fun (K : _ → _ → Prop) hK => ?_) | (with_reducible show drawOK _ _ = true; kernel_rfl) | (with_reducible refine gI fun hg => ?_; try simp only [hC, reduceCtorEq] at hg; try simp only [hg]) | simp (maxSteps := 2000000) (disch := omega) only [go_sem] | (with_reducible intro hg; try simp only [hC, reduceCtorEq] at hg) | (with_reducible show List.Nodup _; decide) | (with_reducible show (_ : Bool) = false; first | rfl | (simp [*]; done)) | with_reducible exact at8_le _ _ | with_reducible exact at8_ge _ _ | (simp only [hC, reduceCtorEq]; omega) | omega | with_reducible assumption | (with_reducible show (_ : Bool) = true; first | (simp [*]; done) | (simp only [hC, reduceCtorEq]; (repeat' (first | assumption | apply And.intro)); done))))
    (refine AW.i rfl (fun h => ?_) (fun h => ?_) <;> try simp only [hC, reduceCtorEq] at h)
    · have h3 := mkc_le (up_ge stStep_ge) l k (i + 1)
      rw [mkd_at h]
      rw [mkc_step h] at h3
      have hpre := mkb_len (e := encStep true) (f := stStep) (sz := 2) (k := k) (fun _ => rfl) hi
      have hpost : (((l.drop (i + 1)).map (encStep true)).flatMap AV.cells).length = (l.length - (i + 1)) * 2 := by
        rw [fm_len (e := encStep true) (sz := 2) (fun _ => rfl), List.length_drop]
      have hnx := mkd_next (e := encStep true) (f := stStep) (k := k) h
      generalize mkb (encStep true) stStep l k i = pre at hpre hnx ⊢
      generalize ((l.drop (i + 1)).map (encStep true)).flatMap AV.cells = post at hnx hpost ⊢
      generalize e1 : at_ l i = x at *
      generalize e2 : mkc stStep l k i = c at *
      refine AW.imp (Imp.pinE (b := b) pre [_, _] post (O_eq _ _ _) fun hs => ?_)
      simp (maxSteps := 2000000) (disch := omega) only [go_sem]
      have g0 := mkL_up stTest_ge x.fTests (c + 1)
      simp only [stStep] at h3
      (repeat' (first | (with_reducible first | refine Z ?_ | refine Y ?_ | (refine hK _ _ ?_; clear hK K) | exact trivial | refine And.intro ?_ ?_) | with_reducible rfl | ((with_reducible refine E ?_); (with_reducible repeat refine Y ?_); refine eF rfl ?_) | (with_reducible refine fun (K : _ → _ → Prop) hK => ?_) | (with_reducible show drawOK _ _ = true; kernel_rfl) | (with_reducible refine gI fun hg => ?_; try simp only [hC, reduceCtorEq] at hg; try simp only [hg]) | simp (maxSteps := 2000000) (disch := omega) only [go_sem] | (with_reducible intro hg; try simp only [hC, reduceCtorEq] at hg) | (with_reducible show List.Nodup _; decide) | (with_reducible show (_ : Bool) = false; first | rfl | (simp [*]; done)) | with_reducible exact at8_le _ _ | with_reducible exact at8_ge _ _ | (simp only [hC, reduceCtorEq]; omega) | omega | with_reducible assumption | (with_reducible show (_ : Bool) = true; first | (simp [*]; done) | (simp only [hC, reduceCtorEq]; (repeat' (first | assumption | apply And.intro)); done))))
      refine Imp.unpE (b := b) pre [_, _] post (O_eq _ _ _) ?_
      simp (maxSteps := 2000000) (disch := omega) only [go_sem]
      exact ⟨_, [_, _], _, by omega, ⟨i + 1, by rw [mkc_step h, e1, e2]; rfl, rfl, rfl, by omega⟩, rfl, subO_one hnx⟩
    · rw [mkc_end h, mkp_end h]
      (repeat' (first | (with_reducible first | refine Z ?_ | refine Y ?_ | (refine hK _ _ ?_; clear hK K) | exact trivial | refine And.intro ?_ ?_) | with_reducible rfl | ((with_reducible refine E ?_); (with_reducible repeat refine Y ?_); refine eF rfl ?_) | (with_reducible refine fun (K : _ → _ → Prop) hK => ?_) | (with_reducible show drawOK _ _ = true; kernel_rfl) | (with_reducible refine gI fun hg => ?_; try simp only [hC, reduceCtorEq] at hg; try simp only [hg]) | simp (maxSteps := 2000000) (disch := omega) only [go_sem] | (with_reducible intro hg; try simp only [hC, reduceCtorEq] at hg) | (with_reducible show List.Nodup _; decide) | (with_reducible show (_ : Bool) = false; first | rfl | (simp [*]; done)) | with_reducible exact at8_le _ _ | with_reducible exact at8_ge _ _ | (simp only [hC, reduceCtorEq]; omega) | omega | with_reducible assumption | (with_reducible show (_ : Bool) = true; first | (simp [*]; done) | (simp only [hC, reduceCtorEq]; (repeat' (first | assumption | apply And.intro)); done))))
  · have : l = [] := by simpa using e
    subst this
    refine ⟨?_, rfl⟩
    refine Ctr.of_body en199 Tryz.func199 rfl rfl fun hp => (?_); rw [Tryz.ntmps199]
    (repeat' (first | (with_reducible first | refine Z ?_ | refine Y ?_ | (refine hK _ _ ?_; clear hK K) | exact trivial | refine And.intro ?_ ?_) | (refine AW.i rfl (fun h => ?_) (fun h => ?_) <;> try simp only [hC, reduceCtorEq] at h) | with_reducible rfl | ((with_reducible refine E ?_); (with_reducible repeat refine Y ?_); refine eF rfl ?_) | (with_reducible refine fun (K : _ → _ → Prop) hK => ?_) | (with_reducible show drawOK _ _ = true; kernel_rfl) | (with_reducible refine gI fun hg => ?_; try simp only [hC, reduceCtorEq] at hg; try simp only [hg]) | simp (maxSteps := 2000000) (disch := omega) only [go_sem] | (with_reducible intro hg; try simp only [hC, reduceCtorEq] at hg) | (with_reducible show List.Nodup _; decide) | (with_reducible show (_ : Bool) = false; first | rfl | (simp [*]; done)) | with_reducible exact at8_le _ _ | with_reducible exact at8_ge _ _ | (simp only [hC, reduceCtorEq]; omega) | omega | with_reducible assumption | (with_reducible show (_ : Bool) = true; first | (simp [*]; done) | (simp only [hC, reduceCtorEq]; (repeat' (first | assumption | apply And.intro)); done))))
    refine AW.loopV [] [0, 1, 5] (fun m xs o => xs = [] ∧ o = []) 0 [] trivial ⟨rfl, rfl⟩ ?_
    rintro m xs o ⟨rfl, rfl⟩
    (repeat' (first | (with_reducible first | refine Z ?_ | refine Y ?_ | (refine hK _ _ ?_; clear hK K) | exact trivial | refine And.intro ?_ ?_) | (refine AW.i rfl (fun h => ?_) (fun h => ?_) <;> try simp only [hC, reduceCtorEq] at h) | with_reducible rfl | ((with_reducible refine E ?_); (with_reducible repeat refine Y ?_); refine eF rfl ?_) | (with_reducible refine fun (K : _ → _ → Prop) hK => ?_) | (with_reducible show drawOK _ _ = true; kernel_rfl) | (with_reducible refine gI fun hg => ?_; try simp only [hC, reduceCtorEq] at hg; try simp only [hg]) | simp (maxSteps := 2000000) (disch := omega) only [go_sem] | (with_reducible intro hg; try simp only [hC, reduceCtorEq] at hg) | (with_reducible show List.Nodup _; decide) | (with_reducible show (_ : Bool) = false; first | rfl | (simp [*]; done)) | with_reducible exact at8_le _ _ | with_reducible exact at8_ge _ _ | (simp only [hC, reduceCtorEq]; omega) | omega | with_reducible assumption | (with_reducible show (_ : Bool) = true; first | (simp [*]; done) | (simp only [hC, reduceCtorEq]; (repeat' (first | assumption | apply And.intro)); done))))
    rfl
theorem markExprS_n : ∀ (n : Nat) (l : List GExpr) (k : Int), BCtr lim Tryz.prog 174 7 (l.map (encExpr true)) [.v (.int .i64 k)] (.v (.int .i64 (mkL stExpr l k).2)) ((mkL stExpr l k).1.map (encExpr true)) (SizeOf.sizeOf l < n ∧ 0 ≤ k ∧ (mkL stExpr l k).2 ≤ 1099511627776)
  | 0, l, k => ⟨en174, fun h => absurd h.1 (Nat.not_lt_zero _)⟩
  | n + 1, l, k => by
    have ih := markExprS_n n
    refine BCtr.of en174 (fun b => ?_) (fun e => ?_) (by simp [mkL_len]) (map_elem (fun x => by rw [encExpr_eq]; rfl) _) (map_elem (fun x => by rw [encExpr_eq]; rfl) _)
    · simp only [List.length_map]
      refine Ctr.of_body en174 Tryz.func174 rfl rfl fun hp => (?_); rw [Tryz.ntmps174]
      have hup := mkL_up stExpr_ge l k
      (repeat' (first | (with_reducible first | refine Z ?_ | refine Y ?_ | (refine hK _ _ ?_; clear hK K) | exact trivial | refine And.intro ?_ ?_) | (refine AW.i rfl (fun h => ?_) (fun h => ?_) <;> try simp only [hC, reduceCtorEq] at h) | with_reducible rfl | ((with_reducible refine E ?_); (with_reducible repeat refine Y ?_); refine eF rfl ?_) | (with_reducible refine fun (K : _ → _ → Prop) hK => ?_) | (with_reducible show drawOK _ _ = true; kernel_rfl) | (with_reducible refine gI fun hg => ?_; try simp only [hC, reduceCtorEq] at hg; try simp only [hg]) | simp (maxSteps := 2000000) (disch := omega) only [go_sem] | (with_reducible intro hg; try simp only [hC, reduceCtorEq] at hg) | (with_reducible show List.Nodup _; decide) | (with_reducible show (_ : Bool) = false; first | rfl | (simp [*]; done)) | with_reducible exact at8_le _ _ | with_reducible exact at8_ge _ _ | (simp only [hC, reduceCtorEq]; omega) | omega | with_reducible assumption | (with_reducible show (_ : Bool) = true; first | (simp [*]; done) | (simp only [hC, reduceCtorEq]; (repeat' (first | assumption | apply And.intro)); done))))
      refine AW.loopW [1, 5] [0] (fun m xs o => ∃ i : Nat, xs = [.v (.int .i64 (mkc stExpr l k i)), .v (.int .i64 i)] ∧ o = [(b, some (((mkp stExpr l k i).map (encExpr true)).flatMap AV.cells))] ∧ m = l.length - i ∧ i ≤ l.length) l.length [(b, some ((l.map (encExpr true)).flatMap AV.cells))] (subO_one rfl) ⟨0, rfl, ?_, rfl, ?_⟩ ?_
      · rw [mkp_zero]
      · omega
      rintro m xs o ⟨i, rfl, rfl, rfl, hi⟩
      have h1 := mkc_ge (up_ge stExpr_ge) l k i
      have h2 := mkc_le (up_ge stExpr_ge) l k i
      (repeat' (first | (with_reducible first | refine Z ?_ | refine Y ?_ | (refine hK _ _ ?_; clear hK K) | exact trivial | refine And.intro ?_ ?_) | with_reducible rfl | ((with_reducible refine E ?_); (with_reducible repeat refine Y ?_); refine eF rfl ?_) | (with_reducible refine fun (K : _ → _ → Prop) hK => ?_) | (with_reducible show drawOK _ _ = true; kernel_rfl) | (with_reducible refine gI fun hg => ?_; try simp only [hC, reduceCtorEq] at hg; try simp only [hg]) | simp (maxSteps := 2000000) (disch := omega) only [go_sem] | (with_reducible intro hg; try simp only [hC, reduceCtorEq] at hg) | (with_reducible show List.Nodup _; decide) | (with_reducible show (_ : Bool) = false; first | rfl | (simp [*]; done)) | with_reducible exact at8_le _ _ | with_reducible exact at8_ge _ _ | (simp only [hC, reduceCtorEq]; omega) | omega | with_reducible assumption | (with_reducible show (_ : Bool) = true; first | (simp [*]; done) | (simp only [hC, reduceCtorEq]; (repeat' (first | assumption | apply And.intro)); done))))
      (refine AW.i rfl (fun h => ?_) (fun h => ?_) <;> try simp only [hC, reduceCtorEq] at h)
      · have h3 := mkc_le (up_ge stExpr_ge) l k (i + 1)
        rw [mkd_at h]
        rw [mkc_step h] at h3
        have hpre := mkb_len (e := encExpr true) (f := stExpr) (sz := 7) (k := k) (fun x => by rw [encExpr_eq]; rfl) hi
        have hpost : (((l.drop (i + 1)).map (encExpr true)).flatMap AV.cells).length = (l.length - (i + 1)) * 7 := by
          rw [fm_len (e := encExpr true) (sz := 7) (fun x => by rw [encExpr_eq]; rfl), List.length_drop]
        have hnx := mkd_next (e := encExpr true) (f := stExpr) (k := k) h
        have hkk : SizeOf.sizeOf (at_ l i).fKids < n := by have := GExpr.kids_lt (at_mem h); omega
        rw [stExpr_eq] at hnx
        generalize mkb (encExpr true) stExpr l k i = pre at hpre hnx ⊢
        generalize ((l.drop (i + 1)).map (encExpr true)).flatMap AV.cells = post at hnx hpost ⊢
        generalize e1 : at_ l i = x at *
        generalize e2 : mkc stExpr l k i = c at *
        rw [encExpr_eq]
        simp only [encExpr_eq] at hnx
        refine AW.imp (Imp.pinE (b := b) pre [_, _, _, _, _, _, _] post (O_eq _ _ _) fun hs => ?_)
        simp (maxSteps := 2000000) (disch := omega) only [go_sem]
        have g0 := mkL_up stStep_ge x.fPath.fSteps (c + 1 + 1 + 1 + 1 + 1)
        have g1 := mkL_up stExpr_ge x.fKids ((mkL stStep x.fPath.fSteps (c + 1 + 1 + 1 + 1 + 1)).2)
        rw [stExpr_eq] at h3; simp only at h3
        (repeat' (first | (with_reducible first | refine Z ?_ | refine Y ?_ | (refine hK _ _ ?_; clear hK K) | exact trivial | refine And.intro ?_ ?_) | with_reducible rfl | ((with_reducible refine E ?_); (with_reducible repeat refine Y ?_); refine eF rfl ?_) | (with_reducible refine fun (K : _ → _ → Prop) hK => ?_) | (with_reducible show drawOK _ _ = true; kernel_rfl) | (with_reducible refine gI fun hg => ?_; try simp only [hC, reduceCtorEq] at hg; try simp only [hg]) | simp (maxSteps := 2000000) (disch := omega) only [go_sem] | (with_reducible intro hg; try simp only [hC, reduceCtorEq] at hg) | (with_reducible show List.Nodup _; decide) | (with_reducible show (_ : Bool) = false; first | rfl | (simp [*]; done)) | with_reducible exact at8_le _ _ | with_reducible exact at8_ge _ _ | (simp only [hC, reduceCtorEq]; omega) | omega | with_reducible assumption | (with_reducible show (_ : Bool) = true; first | (simp [*]; done) | (simp only [hC, reduceCtorEq]; (repeat' (first | assumption | apply And.intro)); done))))
        refine Imp.unpE (b := b) pre [_, _, _, _, _, _, _] post (O_eq _ _ _) ?_
        simp (maxSteps := 2000000) (disch := omega) only [go_sem]
        exact ⟨_, [_, _], _, by omega, ⟨i + 1, by rw [mkc_step h, e1, e2, stExpr_eq], rfl, rfl, by omega⟩, rfl, subO_one hnx⟩
      · rw [mkc_end h, mkp_end h]
        (repeat' (first | (with_reducible first | refine Z ?_ | refine Y ?_ | (refine hK _ _ ?_; clear hK K) | exact trivial | refine And.intro ?_ ?_) | with_reducible rfl | ((with_reducible refine E ?_); (with_reducible repeat refine Y ?_); refine eF rfl ?_) | (with_reducible refine fun (K : _ → _ → Prop) hK => ?_) | (with_reducible show drawOK _ _ = true; kernel_rfl) | (with_reducible refine gI fun hg => ?_; try simp only [hC, reduceCtorEq] at hg; try simp only [hg]) | simp (maxSteps := 2000000) (disch := omega) only [go_sem] | (with_reducible intro hg; try simp only [hC, reduceCtorEq] at hg) | (with_reducible show List.Nodup _; decide) | (with_reducible show (_ : Bool) = false; first | rfl | (simp [*]; done)) | with_reducible exact at8_le _ _ | with_reducible exact at8_ge _ _ | (simp only [hC, reduceCtorEq]; omega) | omega | with_reducible assumption | (with_reducible show (_ : Bool) = true; first | (simp [*]; done) | (simp only [hC, reduceCtorEq]; (repeat' (first | assumption | apply And.intro)); done))))
    · have : l = [] := by simpa using e
      subst this
      refine ⟨?_, rfl⟩
      refine Ctr.of_body en174 Tryz.func174 rfl rfl fun hp => (?_); rw [Tryz.ntmps174]
      (repeat' (first | (with_reducible first | refine Z ?_ | refine Y ?_ | (refine hK _ _ ?_; clear hK K) | exact trivial | refine And.intro ?_ ?_) | (refine AW.i rfl (fun h => ?_) (fun h => ?_) <;> try simp only [hC, reduceCtorEq] at h) | with_reducible rfl | ((with_reducible refine E ?_); (with_reducible repeat refine Y ?_); refine eF rfl ?_) | (with_reducible refine fun (K : _ → _ → Prop) hK => ?_) | (with_reducible show drawOK _ _ = true; kernel_rfl) | (with_reducible refine gI fun hg => ?_; try simp only [hC, reduceCtorEq] at hg; try simp only [hg]) | simp (maxSteps := 2000000) (disch := omega) only [go_sem] | (with_reducible intro hg; try simp only [hC, reduceCtorEq] at hg) | (with_reducible show List.Nodup _; decide) | (with_reducible show (_ : Bool) = false; first | rfl | (simp [*]; done)) | with_reducible exact at8_le _ _ | with_reducible exact at8_ge _ _ | (simp only [hC, reduceCtorEq]; omega) | omega | with_reducible assumption | (with_reducible show (_ : Bool) = true; first | (simp [*]; done) | (simp only [hC, reduceCtorEq]; (repeat' (first | assumption | apply And.intro)); done))))
      refine AW.loopV [] [0, 1, 5] (fun m xs o => xs = [] ∧ o = []) 0 [] trivial ⟨rfl, rfl⟩ ?_
      rintro m xs o ⟨rfl, rfl⟩
      (repeat' (first | (with_reducible first | refine Z ?_ | refine Y ?_ | (refine hK _ _ ?_; clear hK K) | exact trivial | refine And.intro ?_ ?_) | (refine AW.i rfl (fun h => ?_) (fun h => ?_) <;> try simp only [hC, reduceCtorEq] at h) | with_reducible rfl | ((with_reducible refine E ?_); (with_reducible repeat refine Y ?_); refine eF rfl ?_) | (with_reducible refine fun (K : _ → _ → Prop) hK => ?_) | (with_reducible show drawOK _ _ = true; kernel_rfl) | (with_reducible refine gI fun hg => ?_; try simp only [hC, reduceCtorEq] at hg; try simp only [hg]) | simp (maxSteps := 2000000) (disch := omega) only [go_sem] | (with_reducible intro hg; try simp only [hC, reduceCtorEq] at hg) | (with_reducible show List.Nodup _; decide) | (with_reducible show (_ : Bool) = false; first | rfl | (simp [*]; done)) | with_reducible exact at8_le _ _ | with_reducible exact at8_ge _ _ | (simp only [hC, reduceCtorEq]; omega) | omega | with_reducible assumption | (with_reducible show (_ : Bool) = true; first | (simp [*]; done) | (simp only [hC, reduceCtorEq]; (repeat' (first | assumption | apply And.intro)); done))))
      rfl
instance markExprS_i (l : List GExpr) (k : Int) : BCtr lim Tryz.prog 174 7 (l.map (encExpr true)) [.v (.int .i64 k)] (.v (.int .i64 (mkL stExpr l k).2)) ((mkL stExpr l k).1.map (encExpr true)) (0 ≤ k ∧ (mkL stExpr l k).2 ≤ 1099511627776) := ⟨en174, fun h => (markExprS_n (SizeOf.sizeOf l + 1) l k).out ⟨Nat.lt_succ_self _, h⟩⟩
theorem markSchemaS_n : ∀ (n : Nat) (l : List GSchema) (k : Int), BCtr lim Tryz.prog 125 19 (l.map (encSchema true)) [.v (.int .i64 k)] (.v (.int .i64 (mkL stSchema l k).2)) ((mkL stSchema l k).1.map (encSchema true)) (SizeOf.sizeOf l < n ∧ 0 ≤ k ∧ (mkL stSchema l k).2 ≤ 1099511627776)
  | 0, l, k => ⟨en125, fun h => absurd h.1 (Nat.not_lt_zero _)⟩
  | n + 1, l, k => by
    have ih := markSchemaS_n n
    refine BCtr.of en125 (fun b => ?_) (fun e => ?_) (by simp [mkL_len]) (map_elem (fun x => by rw [encSchema_eq]; rfl) _) (map_elem (fun x => by rw [encSchema_eq]; rfl) _)
    · simp only [List.length_map]
      refine Ctr.of_body en125 Tryz.func125 rfl rfl fun hp => (?_); rw [Tryz.ntmps125]
      have hup := mkL_up stSchema_ge l k
      (repeat' (first | (with_reducible first | refine Z ?_ | refine Y ?_ | (refine hK _ _ ?_; clear hK K) | exact trivial | refine And.intro ?_ ?_) | (refine AW.i rfl (fun h => ?_) (fun h => ?_) <;> try simp only [hC, reduceCtorEq] at h) | with_reducible rfl | ((with_reducible refine E ?_); (with_reducible repeat refine Y ?_); refine eF rfl ?_) | (with_reducible refine fun (K : _ → _ → Prop) hK => ?_) | (with_reducible show drawOK _ _ = true; kernel_rfl) | (with_reducible refine gI fun hg => ?_; try simp only [hC, reduceCtorEq] at hg; try simp only [hg]) | simp (maxSteps := 2000000) (disch := omega) only [go_sem] | (with_reducible intro hg; try simp only [hC, reduceCtorEq] at hg) | (with_reducible show List.Nodup _; decide) | (with_reducible show (_ : Bool) = false; first | rfl | (simp [*]; done)) | with_reducible exact at8_le _ _ | with_reducible exact at8_ge _ _ | (simp only [hC, reduceCtorEq]; omega) | omega | with_reducible assumption | (with_reducible show (_ : Bool) = true; first | (simp [*]; done) | (simp only [hC, reduceCtorEq]; (repeat' (first | assumption | apply And.intro)); done))))
      refine AW.loopW [1, 5] [0] (fun m xs o => ∃ i : Nat, xs = [.v (.int .i64 (mkc stSchema l k i)), .v (.int .i64 i)] ∧ o = [(b, some (((mkp stSchema l k i).map (encSchema true)).flatMap AV.cells))] ∧ m = l.length - i ∧ i ≤ l.length) l.length [(b, some ((l.map (encSchema true)).flatMap AV.cells))] (subO_one rfl) ⟨0, rfl, ?_, rfl, ?_⟩ ?_
      · rw [mkp_zero]
      · omega
      rintro m xs o ⟨i, rfl, rfl, rfl, hi⟩
      have h1 := mkc_ge (up_ge stSchema_ge) l k i
      have h2 := mkc_le (up_ge stSchema_ge) l k i
      (repeat' (first | (with_reducible first | refine Z ?_ | refine Y ?_ | (refine hK _ _ ?_; clear hK K) | exact trivial | refine And.intro ?_ ?_) | with_reducible rfl | ((with_reducible refine E ?_); (with_reducible repeat refine Y ?_); refine eF rfl ?_) | (with_reducible refine fun (K : _ → _ → Prop) hK => ?_) | (with_reducible show drawOK _ _ = true; kernel_rfl) | (with_reducible refine gI fun hg => ?_; try simp only [hC, reduceCtorEq] at hg; try simp only [hg]) | simp (maxSteps := 2000000) (disch := omega) only [go_sem] | (with_reducible intro hg; try simp only [hC, reduceCtorEq] at hg) | (with_reducible show List.Nodup _; decide) | (with_reducible show (_ : Bool) = false; first | rfl | (simp [*]; done)) | with_reducible exact at8_le _ _ | with_reducible exact at8_ge _ _ | (simp only [hC, reduceCtorEq]; omega) | omega | with_reducible assumption | (with_reducible show (_ : Bool) = true; first | (simp [*]; done) | (simp only [hC, reduceCtorEq]; (repeat' (first | assumption | apply And.intro)); done))))
      (refine AW.i rfl (fun h => ?_) (fun h => ?_) <;> try simp only [hC, reduceCtorEq] at h)
      · have h3 := mkc_le (up_ge stSchema_ge) l k (i + 1)
        rw [mkd_at h]
        rw [mkc_step h] at h3
        have hpre := mkb_len (e := encSchema true) (f := stSchema) (sz := 19) (k := k) (fun x => by rw [encSchema_eq]; rfl) hi
        have hpost : (((l.drop (i + 1)).map (encSchema true)).flatMap AV.cells).length = (l.length - (i + 1)) * 19 := by
          rw [fm_len (e := encSchema true) (sz := 19) (fun x => by rw [encSchema_eq]; rfl), List.length_drop]
        have hnx := mkd_next (e := encSchema true) (f := stSchema) (k := k) h
        have hkk : SizeOf.sizeOf (at_ l i).fKids < n := by have := GSchema.kids_lt (at_mem h); omega
        rw [stSchema_eq] at hnx
        generalize mkb (encSchema true) stSchema l k i = pre at hpre hnx ⊢
        generalize ((l.drop (i + 1)).map (encSchema true)).flatMap AV.cells = post at hnx hpost ⊢
        generalize e1 : at_ l i = x at *
        generalize e2 : mkc stSchema l k i = c at *
        rw [encSchema_eq]
        simp only [encSchema_eq] at hnx
        refine AW.imp (Imp.pinE (b := b) pre [_, _, _, _, _, _, _, _, _, _, _, _, _, _, _, _, _, _, _] post (O_eq _ _ _) fun hs => ?_)
        simp (maxSteps := 2000000) (disch := omega) only [go_sem]
        have g0 := mkL_up stRange_ge x.fType.fRanges (c + 1 + 1 + 1)
        have g1 := mkL_up stString_ge x.fType.fNames ((mkL stRange x.fType.fRanges (c + 1 + 1 + 1)).2)
        have g2 := mkL_up stString_ge x.fKeys ((mkL stString x.fType.fNames ((mkL stRange x.fType.fRanges (c + 1 + 1 + 1)).2)).2 + 1 + 1)
        have g3 := mkL_up stString_ge x.fUnique ((mkL stString x.fKeys ((mkL stString x.fType.fNames ((mkL stRange x.fType.fRanges (c + 1 + 1 + 1)).2)).2 + 1 + 1)).2)
        have g4 := mkL_up stExpr_ge x.fWhen ((mkL stString x.fUnique ((mkL stString x.fKeys ((mkL stString x.fType.fNames ((mkL stRange x.fType.fRanges (c + 1 + 1 + 1)).2)).2 + 1 + 1)).2)).2 + 1 + 1 + 1 + 1 + 1 + 1 + 1)
        have g5 := mkL_up stExpr_ge x.fMust ((mkL stExpr x.fWhen ((mkL stString x.fUnique ((mkL stString x.fKeys ((mkL stString x.fType.fNames ((mkL stRange x.fType.fRanges (c + 1 + 1 + 1)).2)).2 + 1 + 1)).2)).2 + 1 + 1 + 1 + 1 + 1 + 1 + 1)).2)
        have g6 := mkL_up stSchema_ge x.fKids ((mkL stExpr x.fMust ((mkL stExpr x.fWhen ((mkL stString x.fUnique ((mkL stString x.fKeys ((mkL stString x.fType.fNames ((mkL stRange x.fType.fRanges (c + 1 + 1 + 1)).2)).2 + 1 + 1)).2)).2 + 1 + 1 + 1 + 1 + 1 + 1 + 1)).2)).2)
        rw [stSchema_eq] at h3; simp only at h3
        (repeat' (first | (with_reducible first | refine Z ?_ | refine Y ?_ | (refine hK _ _ ?_; clear hK K) | exact trivial | refine And.intro ?_ ?_) | with_reducible rfl | ((with_reducible refine E ?_); (with_reducible repeat refine Y ?_); refine eF rfl ?_) | (with_reducible refine fun (K : _ → _ → Prop) hK => ?_) | (with_reducible show drawOK _ _ = true; kernel_rfl) | (with_reducible refine gI fun hg => ?_; try simp only [hC, reduceCtorEq] at hg; try simp only [hg]) | simp (maxSteps := 2000000) (disch := omega) only [go_sem] | (with_reducible intro hg; try simp only [hC, reduceCtorEq] at hg) | (with_reducible show List.Nodup _; decide) | (with_reducible show (_ : Bool) = false; first | rfl | (simp [*]; done)) | with_reducible exact at8_le _ _ | with_reducible exact at8_ge _ _ | (simp only [hC, reduceCtorEq]; omega) | omega | with_reducible assumption | (with_reducible show (_ : Bool) = true; first | (simp [*]; done) | (simp only [hC, reduceCtorEq]; (repeat' (first | assumption | apply And.intro)); done))))
        refine Imp.unpE (b := b) pre [_, _, _, _, _, _, _, _, _, _, _, _, _, _, _, _, _, _, _] post (O_eq _ _ _) ?_
        simp (maxSteps := 2000000) (disch := omega) only [go_sem]
        exact ⟨_, [_, _], _, by omega, ⟨i + 1, by rw [mkc_step h, e1, e2, stSchema_eq], rfl, rfl, by omega⟩, rfl, subO_one hnx⟩
      · rw [mkc_end h, mkp_end h]
        (repeat' (first | (with_reducible first | refine Z ?_ | refine Y ?_ | (refine hK _ _ ?_; clear hK K) | exact trivial | refine And.intro ?_ ?_) | with_reducible rfl | ((with_reducible refine E ?_); (with_reducible repeat refine Y ?_); refine eF rfl ?_) | (with_reducible refine fun (K : _ → _ → Prop) hK => ?_) | (with_reducible show drawOK _ _ = true; kernel_rfl) | (with_reducible refine gI fun hg => ?_; try simp only [hC, reduceCtorEq] at hg; try simp only [hg]) | simp (maxSteps := 2000000) (disch := omega) only [go_sem] | (with_reducible intro hg; try simp only [hC, reduceCtorEq] at hg) | (with_reducible show List.Nodup _; decide) | (with_reducible show (_ : Bool) = false; first | rfl | (simp [*]; done)) | with_reducible exact at8_le _ _ | with_reducible exact at8_ge _ _ | (simp only [hC, reduceCtorEq]; omega) | omega | with_reducible assumption | (with_reducible show (_ : Bool) = true; first | (simp [*]; done) | (simp only [hC, reduceCtorEq]; (repeat' (first | assumption | apply And.intro)); done))))
    · have : l = [] := by simpa using e
      subst this
      refine ⟨?_, rfl⟩
      refine Ctr.of_body en125 Tryz.func125 rfl rfl fun hp => (?_); rw [Tryz.ntmps125]
      (repeat' (first | (with_reducible first | refine Z ?_ | refine Y ?_ | (refine hK _ _ ?_; clear hK K) | exact trivial | refine And.intro ?_ ?_) | (refine AW.i rfl (fun h => ?_) (fun h => ?_) <;> try simp only [hC, reduceCtorEq] at h) | with_reducible rfl | ((with_reducible refine E ?_); (with_reducible repeat refine Y ?_); refine eF rfl ?_) | (with_reducible refine fun (K : _ → _ → Prop) hK => ?_) | (with_reducible show drawOK _ _ = true; kernel_rfl) | (with_reducible refine gI fun hg => ?_; try simp only [hC, reduceCtorEq] at hg; try simp only [hg]) | simp (maxSteps := 2000000) (disch := omega) only [go_sem] | (with_reducible intro hg; try simp only [hC, reduceCtorEq] at hg) | (with_reducible show List.Nodup _; decide) | (with_reducible show (_ : Bool) = false; first | rfl | (simp [*]; done)) | with_reducible exact at8_le _ _ | with_reducible exact at8_ge _ _ | (simp only [hC, reduceCtorEq]; omega) | omega | with_reducible assumption | (with_reducible show (_ : Bool) = true; first | (simp [*]; done) | (simp only [hC, reduceCtorEq]; (repeat' (first | assumption | apply And.intro)); done))))
      refine AW.loopV [] [0, 1, 5] (fun m xs o => xs = [] ∧ o = []) 0 [] trivial ⟨rfl, rfl⟩ ?_
      rintro m xs o ⟨rfl, rfl⟩
      (repeat' (first | (with_reducible first | refine Z ?_ | refine Y ?_ | (refine hK _ _ ?_; clear hK K) | exact trivial | refine And.intro ?_ ?_) | (refine AW.i rfl (fun h => ?_) (fun h => ?_) <;> try simp only [hC, reduceCtorEq] at h) | with_reducible rfl | ((with_reducible refine E ?_); (with_reducible repeat refine Y ?_); refine eF rfl ?_) | (with_reducible refine fun (K : _ → _ → Prop) hK => ?_) | (with_reducible show drawOK _ _ = true; kernel_rfl) | (with_reducible refine gI fun hg => ?_; try simp only [hC, reduceCtorEq] at hg; try simp only [hg]) | simp (maxSteps := 2000000) (disch := omega) only [go_sem] | (with_reducible intro hg; try simp only [hC, reduceCtorEq] at hg) | (with_reducible show List.Nodup _; decide) | (with_reducible show (_ : Bool) = false; first | rfl | (simp [*]; done)) | with_reducible exact at8_le _ _ | with_reducible exact at8_ge _ _ | (simp only [hC, reduceCtorEq]; omega) | omega | with_reducible assumption | (with_reducible show (_ : Bool) = true; first | (simp [*]; done) | (simp only [hC, reduceCtorEq]; (repeat' (first | assumption | apply And.intro)); done))))
      rfl
instance markSchemaS_i (l : List GSchema) (k : Int) : BCtr lim Tryz.prog 125 19 (l.map (encSchema true)) [.v (.int .i64 k)] (.v (.int .i64 (mkL stSchema l k).2)) ((mkL stSchema l k).1.map (encSchema true)) (0 ≤ k ∧ (mkL stSchema l k).2 ≤ 1099511627776) := ⟨en125, fun h => (markSchemaS_n (SizeOf.sizeOf l + 1) l k).out ⟨Nat.lt_succ_self _, h⟩⟩
instance markVersionS_i (l : List GVersion) (k : Int) : BCtr lim Tryz.prog 126 3 (l.map (encVersion true)) [.v (.int .i64 k)] (.v (.int .i64 (mkL stVersion l k).2)) ((mkL stVersion l k).1.map (encVersion true)) (0 ≤ k ∧ (mkL stVersion l k).2 ≤ 1099511627776) := by
  refine BCtr.of en126 (fun b => ?_) (fun e => ?_) (by simp [mkL_len]) (map_elem (fun _ => rfl) _) (map_elem (fun _ => rfl) _)
  · simp only [List.length_map]
    refine Ctr.of_body en126 Tryz.func126 rfl rfl fun hp => (?_); rw [Tryz.ntmps126]
    have hup := mkL_up stVersion_ge l k
    (repeat' (first | (with_reducible first | refine Z ?_ | refine Y ?_ | (refine hK _ _ ?_; clear hK K) | exact trivial | refine And.intro ?_ ?_) | (refine AW.i rfl (fun h => ?_) (fun h => ?_) <;> try simp only [hC, reduceCtorEq] at h) | with_reducible rfl | ((with_reducible refine E ?_); (with_reducible repeat refine Y ?_); refine eF rfl ?_) | (with_reducible refine fun (K : _ → _ → Prop) hK => ?_) | (with_reducible show drawOK _ _ = true; kernel_rfl) | (with_reducible refine gI fun hg => ?_; try simp only [hC, reduceCtorEq] at hg; try simp only [hg]) | simp (maxSteps := 2000000) (disch := omega) only [go_sem] | (with_reducible intro hg; try simp only [hC, reduceCtorEq] at hg) | (with_reducible show List.Nodup _; decide) | (with_reducible show (_ : Bool) = false; first | rfl | (simp [*]; done)) | with_reducible exact at8_le _ _ | with_reducible exact at8_ge _ _ | (simp only [hC, reduceCtorEq]; omega) | omega | with_reducible assumption | (with_reducible show (_ : Bool) = true; first | (simp [*]; done) | (simp only [hC, reduceCtorEq]; (repeat' (first | assumption | apply And.intro)); done))))
    refine AW.loopW [1, 5] [0] (fun m xs o => ∃ i : Nat, xs = [.v (.int .i64 (mkc stVersion l k i)), .v (.int .i64 i)] ∧ o = [(b, some (((mkp stVersion l k i).map (encVersion true)).flatMap AV.cells))] ∧ m = l.length - i ∧ i ≤ l.length) l.length [(b, some ((l.map (encVersion true)).flatMap AV.cells))] (subO_one rfl) ⟨0, rfl, ?_, rfl, ?_⟩ ?_
    · rw [mkp_zero]
    · omega
    rintro m xs o ⟨i, rfl, rfl, rfl, hi⟩
    have h1 := mkc_ge (up_ge stVersion_ge) l k i
    have h2 := mkc_le (up_ge stVersion_ge) l k i
    (repeat' (first | (with_reducible first | refine Z ?_ | refine Y ?_ | (refine hK _ _ ?_; clear hK K) | exact trivial | refine And.intro ?_ ?_) | with_reducible rfl | ((with_reducible refine E ?_); (with_reducible repeat refine Y ?_); refine eF rfl ?_) | (with_reducible refine fun (K : _ → _ → Prop) hK => ?_) | (with_reducible show drawOK _ _ = true; kernel_rfl) | (with_reducible refine gI fun hg => ?_; try simp only [hC, reduceCtorEq] at hg; try simp only [hg]) | simp (maxSteps := 2000000) (disch := omega) only [go_sem] | (with_reducible intro hg; try simp only [hC, reduceCtorEq] at hg) | (with_reducible show List.Nodup _; decide) | (with_reducible show (_ : Bool) = false; first | rfl | (simp [*]; done)) | with_reducible exact at8_le _ _ | with_reducible exact at8_ge _ _ | (simp only [hC, reduceCtorEq]; omega) | omega | with_reducible assumption | (with_reducible show (_ : Bool) = true; first | (simp [*]; done) | (simp only [hC, reduceCtorEq]; (repeat' (first | assumption | apply And.intro)); done))))
    (refine AW.i rfl (fun h => ?_) (fun h => ?_) <;> try simp only [hC, reduceCtorEq] at h)
    · have h3 := mkc_le (up_ge stVersion_ge) l k (i + 1)
      rw [mkd_at h]
      rw [mkc_step h] at h3
      have hpre := mkb_len (e := encVersion true) (f := stVersion) (sz := 3) (k := k) (fun _ => rfl) hi
      have hpost : (((l.drop (i + 1)).map (encVersion true)).flatMap AV.cells).length = (l.length - (i + 1)) * 3 := by
        rw [fm_len (e := encVersion true) (sz := 3) (fun _ => rfl), List.length_drop]
      have hnx := mkd_next (e := encVersion true) (f := stVersion) (k := k) h
      generalize mkb (encVersion true) stVersion l k i = pre at hpre hnx ⊢
      generalize ((l.drop (i + 1)).map (encVersion true)).flatMap AV.cells = post at hnx hpost ⊢
      generalize e1 : at_ l i = x at *
      generalize e2 : mkc stVersion l k i = c at *
      refine AW.imp (Imp.pinE (b := b) pre [_, _, _] post (O_eq _ _ _) fun hs => ?_)
      simp (maxSteps := 2000000) (disch := omega) only [go_sem]
      have g0 := mkL_up stNode_ge x.fTree c
      simp only [stVersion] at h3
      (repeat' (first | (with_reducible first | refine Z ?_ | refine Y ?_ | (refine hK _ _ ?_; clear hK K) | exact trivial | refine And.intro ?_ ?_) | with_reducible rfl | ((with_reducible refine E ?_); (with_reducible repeat refine Y ?_); refine eF rfl ?_) | (with_reducible refine fun (K : _ → _ → Prop) hK => ?_) | (with_reducible show drawOK _ _ = true; kernel_rfl) | (with_reducible refine gI fun hg => ?_; try simp only [hC, reduceCtorEq] at hg; try simp only [hg]) | simp (maxSteps := 2000000) (disch := omega) only [go_sem] | (with_reducible intro hg; try simp only [hC, reduceCtorEq] at hg) | (with_reducible show List.Nodup _; decide) | (with_reducible show (_ : Bool) = false; first | rfl | (simp [*]; done)) | with_reducible exact at8_le _ _ | with_reducible exact at8_ge _ _ | (simp only [hC, reduceCtorEq]; omega) | omega | with_reducible assumption | (with_reducible show (_ : Bool) = true; first | (simp [*]; done) | (simp only [hC, reduceCtorEq]; (repeat' (first | assumption | apply And.intro)); done))))
      refine Imp.unpE (b := b) pre [_, _, _] post (O_eq _ _ _) ?_
      simp (maxSteps := 2000000) (disch := omega) only [go_sem]
      exact ⟨_, [_, _], _, by omega, ⟨i + 1, by rw [mkc_step h, e1, e2]; rfl, rfl, rfl, by omega⟩, rfl, subO_one hnx⟩
    · rw [mkc_end h, mkp_end h]
      (repeat' (first | (with_reducible first | refine Z ?_ | refine Y ?_ | (refine hK _ _ ?_; clear hK K) | exact trivial | refine And.intro ?_ ?_) | with_reducible rfl | ((with_reducible refine E ?_); (with_reducible repeat refine Y ?_); refine eF rfl ?_) | (with_reducible refine fun (K : _ → _ → Prop) hK => ?_) | (with_reducible show drawOK _ _ = true; kernel_rfl) | (with_reducible refine gI fun hg => ?_; try simp only [hC, reduceCtorEq] at hg; try simp only [hg]) | simp (maxSteps := 2000000) (disch := omega) only [go_sem] | (with_reducible intro hg; try simp only [hC, reduceCtorEq] at hg) | (with_reducible show List.Nodup _; decide) | (with_reducible show (_ : Bool) = false; first | rfl | (simp [*]; done)) | with_reducible exact at8_le _ _ | with_reducible exact at8_ge _ _ | (simp only [hC, reduceCtorEq]; omega) | omega | with_reducible assumption | (with_reducible show (_ : Bool) = true; first | (simp [*]; done) | (simp only [hC, reduceCtorEq]; (repeat' (first | assumption | apply And.intro)); done))))
  · have : l = [] := by simpa using e
    subst this
    refine ⟨?_, rfl⟩
    refine Ctr.of_body en126 Tryz.func126 rfl rfl fun hp => (?_); rw [Tryz.ntmps126]
    (repeat' (first | (with_reducible first | refine Z ?_ | refine Y ?_ | (refine hK _ _ ?_; clear hK K) | exact trivial | refine And.intro ?_ ?_) | (refine AW.i rfl (fun h => ?_) (fun h => ?_) <;> try simp only [hC, reduceCtorEq] at h) | with_reducible rfl | ((with_reducible refine E ?_); (with_reducible repeat refine Y ?_); refine eF rfl ?_) | (with_reducible refine fun (K : _ → _ → Prop) hK => ?_) | (with_reducible show drawOK _ _ = true; kernel_rfl) | (with_reducible refine gI fun hg => ?_; try simp only [hC, reduceCtorEq] at hg; try simp only [hg]) | simp (maxSteps := 2000000) (disch := omega) only [go_sem] | (with_reducible intro hg; try simp only [hC, reduceCtorEq] at hg) | (with_reducible show List.Nodup _; decide) | (with_reducible show (_ : Bool) = false; first | rfl | (simp [*]; done)) | with_reducible exact at8_le _ _ | with_reducible exact at8_ge _ _ | (simp only [hC, reduceCtorEq]; omega) | omega | with_reducible assumption | (with_reducible show (_ : Bool) = true; first | (simp [*]; done) | (simp only [hC, reduceCtorEq]; (repeat' (first | assumption | apply And.intro)); done))))
    refine AW.loopV [] [0, 1, 5] (fun m xs o => xs = [] ∧ o = []) 0 [] trivial ⟨rfl, rfl⟩ ?_
    rintro m xs o ⟨rfl, rfl⟩
    (repeat' (first | (with_reducible first | refine Z ?_ | refine Y ?_ | (refine hK _ _ ?_; clear hK K) | exact trivial | refine And.intro ?_ ?_) | (refine AW.i rfl (fun h => ?_) (fun h => ?_) <;> try simp only [hC, reduceCtorEq] at h) | with_reducible rfl | ((with_reducible refine E ?_); (with_reducible repeat refine Y ?_); refine eF rfl ?_) | (with_reducible refine fun (K : _ → _ → Prop) hK => ?_) | (with_reducible show drawOK _ _ = true; kernel_rfl) | (with_reducible refine gI fun hg => ?_; try simp only [hC, reduceCtorEq] at hg; try simp only [hg]) | simp (maxSteps := 2000000) (disch := omega) only [go_sem] | (with_reducible intro hg; try simp only [hC, reduceCtorEq] at hg) | (with_reducible show List.Nodup _; decide) | (with_reducible show (_ : Bool) = false; first | rfl | (simp [*]; done)) | with_reducible exact at8_le _ _ | with_reducible exact at8_ge _ _ | (simp only [hC, reduceCtorEq]; omega) | omega | with_reducible assumption | (with_reducible show (_ : Bool) = true; first | (simp [*]; done) | (simp only [hC, reduceCtorEq]; (repeat' (first | assumption | apply And.intro)); done))))
    rfl
instance markDeviceS_i (l : List GDevice) (k : Int) : BCtr lim Tryz.prog 70 15 (l.map (encDevice true)) [.v (.int .i64 k)] (.v (.int .i64 (mkL stDevice l k).2)) ((mkL stDevice l k).1.map (encDevice true)) (0 ≤ k ∧ (mkL stDevice l k).2 ≤ 1099511627776) := by
  refine BCtr.of en70 (fun b => ?_) (fun e => ?_) (by simp [mkL_len]) (map_elem (fun _ => rfl) _) (map_elem (fun _ => rfl) _)
  · simp only [List.length_map]
    refine Ctr.of_body en70 Tryz.func70 rfl rfl fun hp => (?_); rw [Tryz.ntmps70]
    have hup := mkL_up stDevice_ge l k
    (repeat' (first | (with_reducible first | refine Z ?_ | refine Y ?_ | (refine hK _ _ ?_; clear hK K) | exact trivial | refine And.intro ?_ ?_) | (refine AW.i rfl (fun h => ?_) (fun h => ?_) <;> try simp only [hC, reduceCtorEq] at h) | with_reducible rfl | ((with_reducible refine E ?_); (with_reducible repeat refine Y ?_); refine eF rfl ?_) | (with_reducible refine fun (K : _ → _ → Prop) hK => ?_) | (with_reducible show drawOK _ _ = true; kernel_rfl) | (with_reducible refine gI fun hg => ?_; try simp only [hC, reduceCtorEq] at hg; try simp only [hg]) | simp (maxSteps := 2000000) (disch := omega) only [go_sem] | (with_reducible intro hg; try simp only [hC, reduceCtorEq] at hg) | (with_reducible show List.Nodup _; decide) | (with_reducible show (_ : Bool) = false; first | rfl | (simp [*]; done)) | with_reducible exact at8_le _ _ | with_reducible exact at8_ge _ _ | (simp only [hC, reduceCtorEq]; omega) | omega | with_reducible assumption | (with_reducible show (_ : Bool) = true; first | (simp [*]; done) | (simp only [hC, reduceCtorEq]; (repeat' (first | assumption | apply And.intro)); done))))
    refine AW.loopW [1, 5] [0] (fun m xs o => ∃ i : Nat, xs = [.v (.int .i64 (mkc stDevice l k i)), .v (.int .i64 i)] ∧ o = [(b, some (((mkp stDevice l k i).map (encDevice true)).flatMap AV.cells))] ∧ m = l.length - i ∧ i ≤ l.length) l.length [(b, some ((l.map (encDevice true)).flatMap AV.cells))] (subO_one rfl) ⟨0, rfl, ?_, rfl, ?_⟩ ?_
    · rw [mkp_zero]
    · omega
    rintro m xs o ⟨i, rfl, rfl, rfl, hi⟩
    have h1 := mkc_ge (up_ge stDevice_ge) l k i
    have h2 := mkc_le (up_ge stDevice_ge) l k i
    (repeat' (first | (with_reducible first | refine Z ?_ | refine Y ?_ | (refine hK _ _ ?_; clear hK K) | exact trivial | refine And.intro ?_ ?_) | with_reducible rfl | ((with_reducible refine E ?_); (with_reducible repeat refine Y ?_); refine eF rfl ?_) | (with_reducible refine fun (K : _ → _ → Prop) hK => ?_) | (with_reducible show drawOK _ _ = true; kernel_rfl) | (with_reducible refine gI fun hg => ?_; try simp only [hC, reduceCtorEq] at hg; try simp only [hg]) | simp (maxSteps := 2000000) (disch := omega) only [go_sem] | (with_reducible intro hg; try simp only [hC, reduceCtorEq] at hg) | (with_reducible show List.Nodup _; decide) | (with_reducible show (_ : Bool) = false; first | rfl | (simp [*]; done)) | with_reducible exact at8_le _ _ | with_reducible exact at8_ge _ _ | (simp only [hC, reduceCtorEq]; omega) | omega | with_reducible assumption | (with_reducible show (_ : Bool) = true; first | (simp [*]; done) | (simp only [hC, reduceCtorEq]; (repeat' (first | assumption | apply And.intro)); done))))
    (refine AW.i rfl (fun h => ?_) (fun h => ?_) <;> try simp only [hC, reduceCtorEq] at h)
    · have h3 := mkc_le (up_ge stDevice_ge) l k (i + 1)
      rw [mkd_at h]
      rw [mkc_step h] at h3
      have hpre := mkb_len (e := encDevice true) (f := stDevice) (sz := 15) (k := k) (fun _ => rfl) hi
      have hpost : (((l.drop (i + 1)).map (encDevice true)).flatMap AV.cells).length = (l.length - (i + 1)) * 15 := by
        rw [fm_len (e := encDevice true) (sz := 15) (fun _ => rfl), List.length_drop]
      have hnx := mkd_next (e := encDevice true) (f := stDevice) (k := k) h
      generalize mkb (encDevice true) stDevice l k i = pre at hpre hnx ⊢
      generalize ((l.drop (i + 1)).map (encDevice true)).flatMap AV.cells = post at hnx hpost ⊢
      generalize e1 : at_ l i = x at *
      generalize e2 : mkc stDevice l k i = c at *
      refine AW.imp (Imp.pinE (b := b) pre [_, _, _, _, _, _, _, _, _, _, _, _, _, _, _] post (O_eq _ _ _) fun hs => ?_)
      simp (maxSteps := 2000000) (disch := omega) only [go_sem]
      have g0 := mkL_up stSchema_ge x.fStore.fSchema (c + 1)
      have g1 := mkL_up stNode_ge x.fStore.fRunning ((mkL stSchema x.fStore.fSchema (c + 1)).2)
      have g2 := mkL_up stNode_ge x.fStore.fDraft ((mkL stNode x.fStore.fRunning ((mkL stSchema x.fStore.fSchema (c + 1)).2)).2)
      have g3 := mkL_up stVersion_ge x.fStore.fPast ((mkL stNode x.fStore.fDraft ((mkL stNode x.fStore.fRunning ((mkL stSchema x.fStore.fSchema (c + 1)).2)).2)).2 + 1)
      have g4 := mkL_up stNode_ge x.fStore.fWait.fBack ((mkL stVersion x.fStore.fPast ((mkL stNode x.fStore.fDraft ((mkL stNode x.fStore.fRunning ((mkL stSchema x.fStore.fSchema (c + 1)).2)).2)).2 + 1)).2 + 1 + 1 + 1 + 1)
      have g5 := mkL_up stNode_ge x.fBase ((mkL stNode x.fStore.fWait.fBack ((mkL stVersion x.fStore.fPast ((mkL stNode x.fStore.fDraft ((mkL stNode x.fStore.fRunning ((mkL stSchema x.fStore.fSchema (c + 1)).2)).2)).2 + 1)).2 + 1 + 1 + 1 + 1)).2)
      simp only [stDevice] at h3
      (repeat' (first | (with_reducible first | refine Z ?_ | refine Y ?_ | (refine hK _ _ ?_; clear hK K) | exact trivial | refine And.intro ?_ ?_) | with_reducible rfl | ((with_reducible refine E ?_); (with_reducible repeat refine Y ?_); refine eF rfl ?_) | (with_reducible refine fun (K : _ → _ → Prop) hK => ?_) | (with_reducible show drawOK _ _ = true; kernel_rfl) | (with_reducible refine gI fun hg => ?_; try simp only [hC, reduceCtorEq] at hg; try simp only [hg]) | simp (maxSteps := 2000000) (disch := omega) only [go_sem] | (with_reducible intro hg; try simp only [hC, reduceCtorEq] at hg) | (with_reducible show List.Nodup _; decide) | (with_reducible show (_ : Bool) = false; first | rfl | (simp [*]; done)) | with_reducible exact at8_le _ _ | with_reducible exact at8_ge _ _ | (simp only [hC, reduceCtorEq]; omega) | omega | with_reducible assumption | (with_reducible show (_ : Bool) = true; first | (simp [*]; done) | (simp only [hC, reduceCtorEq]; (repeat' (first | assumption | apply And.intro)); done))))
      refine Imp.unpE (b := b) pre [_, _, _, _, _, _, _, _, _, _, _, _, _, _, _] post (O_eq _ _ _) ?_
      simp (maxSteps := 2000000) (disch := omega) only [go_sem]
      exact ⟨_, [_, _], _, by omega, ⟨i + 1, by rw [mkc_step h, e1, e2]; rfl, rfl, rfl, by omega⟩, rfl, subO_one hnx⟩
    · rw [mkc_end h, mkp_end h]
      (repeat' (first | (with_reducible first | refine Z ?_ | refine Y ?_ | (refine hK _ _ ?_; clear hK K) | exact trivial | refine And.intro ?_ ?_) | with_reducible rfl | ((with_reducible refine E ?_); (with_reducible repeat refine Y ?_); refine eF rfl ?_) | (with_reducible refine fun (K : _ → _ → Prop) hK => ?_) | (with_reducible show drawOK _ _ = true; kernel_rfl) | (with_reducible refine gI fun hg => ?_; try simp only [hC, reduceCtorEq] at hg; try simp only [hg]) | simp (maxSteps := 2000000) (disch := omega) only [go_sem] | (with_reducible intro hg; try simp only [hC, reduceCtorEq] at hg) | (with_reducible show List.Nodup _; decide) | (with_reducible show (_ : Bool) = false; first | rfl | (simp [*]; done)) | with_reducible exact at8_le _ _ | with_reducible exact at8_ge _ _ | (simp only [hC, reduceCtorEq]; omega) | omega | with_reducible assumption | (with_reducible show (_ : Bool) = true; first | (simp [*]; done) | (simp only [hC, reduceCtorEq]; (repeat' (first | assumption | apply And.intro)); done))))
  · have : l = [] := by simpa using e
    subst this
    refine ⟨?_, rfl⟩
    refine Ctr.of_body en70 Tryz.func70 rfl rfl fun hp => (?_); rw [Tryz.ntmps70]
    (repeat' (first | (with_reducible first | refine Z ?_ | refine Y ?_ | (refine hK _ _ ?_; clear hK K) | exact trivial | refine And.intro ?_ ?_) | (refine AW.i rfl (fun h => ?_) (fun h => ?_) <;> try simp only [hC, reduceCtorEq] at h) | with_reducible rfl | ((with_reducible refine E ?_); (with_reducible repeat refine Y ?_); refine eF rfl ?_) | (with_reducible refine fun (K : _ → _ → Prop) hK => ?_) | (with_reducible show drawOK _ _ = true; kernel_rfl) | (with_reducible refine gI fun hg => ?_; try simp only [hC, reduceCtorEq] at hg; try simp only [hg]) | simp (maxSteps := 2000000) (disch := omega) only [go_sem] | (with_reducible intro hg; try simp only [hC, reduceCtorEq] at hg) | (with_reducible show List.Nodup _; decide) | (with_reducible show (_ : Bool) = false; first | rfl | (simp [*]; done)) | with_reducible exact at8_le _ _ | with_reducible exact at8_ge _ _ | (simp only [hC, reduceCtorEq]; omega) | omega | with_reducible assumption | (with_reducible show (_ : Bool) = true; first | (simp [*]; done) | (simp only [hC, reduceCtorEq]; (repeat' (first | assumption | apply And.intro)); done))))
    refine AW.loopV [] [0, 1, 5] (fun m xs o => xs = [] ∧ o = []) 0 [] trivial ⟨rfl, rfl⟩ ?_
    rintro m xs o ⟨rfl, rfl⟩
    (repeat' (first | (with_reducible first | refine Z ?_ | refine Y ?_ | (refine hK _ _ ?_; clear hK K) | exact trivial | refine And.intro ?_ ?_) | (refine AW.i rfl (fun h => ?_) (fun h => ?_) <;> try simp only [hC, reduceCtorEq] at h) | with_reducible rfl | ((with_reducible refine E ?_); (with_reducible repeat refine Y ?_); refine eF rfl ?_) | (with_reducible refine fun (K : _ → _ → Prop) hK => ?_) | (with_reducible show drawOK _ _ = true; kernel_rfl) | (with_reducible refine gI fun hg => ?_; try simp only [hC, reduceCtorEq] at hg; try simp only [hg]) | simp (maxSteps := 2000000) (disch := omega) only [go_sem] | (with_reducible intro hg; try simp only [hC, reduceCtorEq] at hg) | (with_reducible show List.Nodup _; decide) | (with_reducible show (_ : Bool) = false; first | rfl | (simp [*]; done)) | with_reducible exact at8_le _ _ | with_reducible exact at8_ge _ _ | (simp only [hC, reduceCtorEq]; omega) | omega | with_reducible assumption | (with_reducible show (_ : Bool) = true; first | (simp [*]; done) | (simp only [hC, reduceCtorEq]; (repeat' (first | assumption | apply And.intro)); done))))
    rfl
instance markTaskS_i (l : List GTask) (k : Int) : BCtr lim Tryz.prog 134 3 (l.map (encTask true)) [.v (.int .i64 k)] (.v (.int .i64 (mkL stTask l k).2)) ((mkL stTask l k).1.map (encTask true)) (0 ≤ k ∧ (mkL stTask l k).2 ≤ 1099511627776) := by
  refine BCtr.of en134 (fun b => ?_) (fun e => ?_) (by simp [mkL_len]) (map_elem (fun _ => rfl) _) (map_elem (fun _ => rfl) _)
  · simp only [List.length_map]
    refine Ctr.of_body en134 Tryz.func134 rfl rfl fun hp => (?_); rw [Tryz.ntmps134]
    have hup := mkL_up stTask_ge l k
    (repeat' (first | (with_reducible first | refine Z ?_ | refine Y ?_ | (refine hK _ _ ?_; clear hK K) | exact trivial | refine And.intro ?_ ?_) | (refine AW.i rfl (fun h => ?_) (fun h => ?_) <;> try simp only [hC, reduceCtorEq] at h) | with_reducible rfl | ((with_reducible refine E ?_); (with_reducible repeat refine Y ?_); refine eF rfl ?_) | (with_reducible refine fun (K : _ → _ → Prop) hK => ?_) | (with_reducible show drawOK _ _ = true; kernel_rfl) | (with_reducible refine gI fun hg => ?_; try simp only [hC, reduceCtorEq] at hg; try simp only [hg]) | simp (maxSteps := 2000000) (disch := omega) only [go_sem] | (with_reducible intro hg; try simp only [hC, reduceCtorEq] at hg) | (with_reducible show List.Nodup _; decide) | (with_reducible show (_ : Bool) = false; first | rfl | (simp [*]; done)) | with_reducible exact at8_le _ _ | with_reducible exact at8_ge _ _ | (simp only [hC, reduceCtorEq]; omega) | omega | with_reducible assumption | (with_reducible show (_ : Bool) = true; first | (simp [*]; done) | (simp only [hC, reduceCtorEq]; (repeat' (first | assumption | apply And.intro)); done))))
    refine AW.loopW [1, 5] [0] (fun m xs o => ∃ i : Nat, xs = [.v (.int .i64 (mkc stTask l k i)), .v (.int .i64 i)] ∧ o = [(b, some (((mkp stTask l k i).map (encTask true)).flatMap AV.cells))] ∧ m = l.length - i ∧ i ≤ l.length) l.length [(b, some ((l.map (encTask true)).flatMap AV.cells))] (subO_one rfl) ⟨0, rfl, ?_, rfl, ?_⟩ ?_
    · rw [mkp_zero]
    · omega
    rintro m xs o ⟨i, rfl, rfl, rfl, hi⟩
    have h1 := mkc_ge (up_ge stTask_ge) l k i
    have h2 := mkc_le (up_ge stTask_ge) l k i
    (repeat' (first | (with_reducible first | refine Z ?_ | refine Y ?_ | (refine hK _ _ ?_; clear hK K) | exact trivial | refine And.intro ?_ ?_) | with_reducible rfl | ((with_reducible refine E ?_); (with_reducible repeat refine Y ?_); refine eF rfl ?_) | (with_reducible refine fun (K : _ → _ → Prop) hK => ?_) | (with_reducible show drawOK _ _ = true; kernel_rfl) | (with_reducible refine gI fun hg => ?_; try simp only [hC, reduceCtorEq] at hg; try simp only [hg]) | simp (maxSteps := 2000000) (disch := omega) only [go_sem] | (with_reducible intro hg; try simp only [hC, reduceCtorEq] at hg) | (with_reducible show List.Nodup _; decide) | (with_reducible show (_ : Bool) = false; first | rfl | (simp [*]; done)) | with_reducible exact at8_le _ _ | with_reducible exact at8_ge _ _ | (simp only [hC, reduceCtorEq]; omega) | omega | with_reducible assumption | (with_reducible show (_ : Bool) = true; first | (simp [*]; done) | (simp only [hC, reduceCtorEq]; (repeat' (first | assumption | apply And.intro)); done))))
    (refine AW.i rfl (fun h => ?_) (fun h => ?_) <;> try simp only [hC, reduceCtorEq] at h)
    · have h3 := mkc_le (up_ge stTask_ge) l k (i + 1)
      rw [mkd_at h]
      rw [mkc_step h] at h3
      have hpre := mkb_len (e := encTask true) (f := stTask) (sz := 3) (k := k) (fun _ => rfl) hi
      have hpost : (((l.drop (i + 1)).map (encTask true)).flatMap AV.cells).length = (l.length - (i + 1)) * 3 := by
        rw [fm_len (e := encTask true) (sz := 3) (fun _ => rfl), List.length_drop]
      have hnx := mkd_next (e := encTask true) (f := stTask) (k := k) h
      generalize mkb (encTask true) stTask l k i = pre at hpre hnx ⊢
      generalize ((l.drop (i + 1)).map (encTask true)).flatMap AV.cells = post at hnx hpost ⊢
      generalize e1 : at_ l i = x at *
      generalize e2 : mkc stTask l k i = c at *
      refine AW.imp (Imp.pinE (b := b) pre [_, _, _] post (O_eq _ _ _) fun hs => ?_)
      simp (maxSteps := 2000000) (disch := omega) only [go_sem]
      have g0 := mkL_up stNode_ge x.fTree (c + 1)
      simp only [stTask] at h3
      (repeat' (first | (with_reducible first | refine Z ?_ | refine Y ?_ | (refine hK _ _ ?_; clear hK K) | exact trivial | refine And.intro ?_ ?_) | with_reducible rfl | ((with_reducible refine E ?_); (with_reducible repeat refine Y ?_); refine eF rfl ?_) | (with_reducible refine fun (K : _ → _ → Prop) hK => ?_) | (with_reducible show drawOK _ _ = true; kernel_rfl) | (with_reducible refine gI fun hg => ?_; try simp only [hC, reduceCtorEq] at hg; try simp only [hg]) | simp (maxSteps := 2000000) (disch := omega) only [go_sem] | (with_reducible intro hg; try simp only [hC, reduceCtorEq] at hg) | (with_reducible show List.Nodup _; decide) | (with_reducible show (_ : Bool) = false; first | rfl | (simp [*]; done)) | with_reducible exact at8_le _ _ | with_reducible exact at8_ge _ _ | (simp only [hC, reduceCtorEq]; omega) | omega | with_reducible assumption | (with_reducible show (_ : Bool) = true; first | (simp [*]; done) | (simp only [hC, reduceCtorEq]; (repeat' (first | assumption | apply And.intro)); done))))
      refine Imp.unpE (b := b) pre [_, _, _] post (O_eq _ _ _) ?_
      simp (maxSteps := 2000000) (disch := omega) only [go_sem]
      exact ⟨_, [_, _], _, by omega, ⟨i + 1, by rw [mkc_step h, e1, e2]; rfl, rfl, rfl, by omega⟩, rfl, subO_one hnx⟩
    · rw [mkc_end h, mkp_end h]
      (repeat' (first | (with_reducible first | refine Z ?_ | refine Y ?_ | (refine hK _ _ ?_; clear hK K) | exact trivial | refine And.intro ?_ ?_) | with_reducible rfl | ((with_reducible refine E ?_); (with_reducible repeat refine Y ?_); refine eF rfl ?_) | (with_reducible refine fun (K : _ → _ → Prop) hK => ?_) | (with_reducible show drawOK _ _ = true; kernel_rfl) | (with_reducible refine gI fun hg => ?_; try simp only [hC, reduceCtorEq] at hg; try simp only [hg]) | simp (maxSteps := 2000000) (disch := omega) only [go_sem] | (with_reducible intro hg; try simp only [hC, reduceCtorEq] at hg) | (with_reducible show List.Nodup _; decide) | (with_reducible show (_ : Bool) = false; first | rfl | (simp [*]; done)) | with_reducible exact at8_le _ _ | with_reducible exact at8_ge _ _ | (simp only [hC, reduceCtorEq]; omega) | omega | with_reducible assumption | (with_reducible show (_ : Bool) = true; first | (simp [*]; done) | (simp only [hC, reduceCtorEq]; (repeat' (first | assumption | apply And.intro)); done))))
  · have : l = [] := by simpa using e
    subst this
    refine ⟨?_, rfl⟩
    refine Ctr.of_body en134 Tryz.func134 rfl rfl fun hp => (?_); rw [Tryz.ntmps134]
    (repeat' (first | (with_reducible first | refine Z ?_ | refine Y ?_ | (refine hK _ _ ?_; clear hK K) | exact trivial | refine And.intro ?_ ?_) | (refine AW.i rfl (fun h => ?_) (fun h => ?_) <;> try simp only [hC, reduceCtorEq] at h) | with_reducible rfl | ((with_reducible refine E ?_); (with_reducible repeat refine Y ?_); refine eF rfl ?_) | (with_reducible refine fun (K : _ → _ → Prop) hK => ?_) | (with_reducible show drawOK _ _ = true; kernel_rfl) | (with_reducible refine gI fun hg => ?_; try simp only [hC, reduceCtorEq] at hg; try simp only [hg]) | simp (maxSteps := 2000000) (disch := omega) only [go_sem] | (with_reducible intro hg; try simp only [hC, reduceCtorEq] at hg) | (with_reducible show List.Nodup _; decide) | (with_reducible show (_ : Bool) = false; first | rfl | (simp [*]; done)) | with_reducible exact at8_le _ _ | with_reducible exact at8_ge _ _ | (simp only [hC, reduceCtorEq]; omega) | omega | with_reducible assumption | (with_reducible show (_ : Bool) = true; first | (simp [*]; done) | (simp only [hC, reduceCtorEq]; (repeat' (first | assumption | apply And.intro)); done))))
    refine AW.loopV [] [0, 1, 5] (fun m xs o => xs = [] ∧ o = []) 0 [] trivial ⟨rfl, rfl⟩ ?_
    rintro m xs o ⟨rfl, rfl⟩
    (repeat' (first | (with_reducible first | refine Z ?_ | refine Y ?_ | (refine hK _ _ ?_; clear hK K) | exact trivial | refine And.intro ?_ ?_) | (refine AW.i rfl (fun h => ?_) (fun h => ?_) <;> try simp only [hC, reduceCtorEq] at h) | with_reducible rfl | ((with_reducible refine E ?_); (with_reducible repeat refine Y ?_); refine eF rfl ?_) | (with_reducible refine fun (K : _ → _ → Prop) hK => ?_) | (with_reducible show drawOK _ _ = true; kernel_rfl) | (with_reducible refine gI fun hg => ?_; try simp only [hC, reduceCtorEq] at hg; try simp only [hg]) | simp (maxSteps := 2000000) (disch := omega) only [go_sem] | (with_reducible intro hg; try simp only [hC, reduceCtorEq] at hg) | (with_reducible show List.Nodup _; decide) | (with_reducible show (_ : Bool) = false; first | rfl | (simp [*]; done)) | with_reducible exact at8_le _ _ | with_reducible exact at8_ge _ _ | (simp only [hC, reduceCtorEq]; omega) | omega | with_reducible assumption | (with_reducible show (_ : Bool) = true; first | (simp [*]; done) | (simp only [hC, reduceCtorEq]; (repeat' (first | assumption | apply And.intro)); done))))
    rfl
instance markCampaign_i (x : GCampaign) (k : Int) : ICtr lim Tryz.prog 71 true [.v (.int .i64 x.fState), .sl true 3 (x.fTasks.map (encTask true))] [.v (.int .i64 k)] (.v (.int .i64 (mkL stTask x.fTasks k).2)) [.v (.int .i64 x.fState), .sl true 3 ((mkL stTask x.fTasks k).1.map (encTask true))] (0 ≤ k ∧ (mkL stTask x.fTasks k).2 ≤ 1099511627776) := by
  refine ⟨en71, fun hp => InC.of_body Tryz.func71 rfl rfl rfl (fun hs => rfl) (fun hs => rfl) (fun hs => rfl) rfl fun hs => ?_⟩
  rw [Tryz.ntmps71]
  have g0 := mkL_up stTask_ge x.fTasks k
  (repeat' (first | (with_reducible first | refine Z ?_ | refine xO ?_ | refine Y ?_ | (refine hK _ _ ?_; clear hK K) | exact trivial | refine And.intro ?_ ?_) | (refine AW.i rfl (fun h => ?_) (fun h => ?_) <;> try simp only [hC, reduceCtorEq] at h) | with_reducible rfl | (with_reducible refine fun (K : _ → _ → Prop) hK => ?_) | (with_reducible show drawOK _ _ = true; kernel_rfl) | (with_reducible refine gI fun hg => ?_; try simp only [hC, reduceCtorEq] at hg; try simp only [hg]) | simp (maxSteps := 2000000) (disch := omega) only [go_sem] | (with_reducible intro hg; try simp only [hC, reduceCtorEq] at hg) | (with_reducible show List.Nodup _; decide) | (with_reducible show (_ : Bool) = false; first | rfl | (simp [*]; done)) | with_reducible exact at8_le _ _ | with_reducible exact at8_ge _ _ | (simp only [hC, reduceCtorEq]; omega) | omega | with_reducible assumption | (with_reducible show (_ : Bool) = true; first | (simp [*]; done) | (simp only [hC, reduceCtorEq]; (repeat' (first | assumption | apply And.intro)); done))))
  refine AW.ret (EndsG.inp hg rfl ?_)
  simp (maxSteps := 2000000) (disch := omega) only [go_sem]
instance markManager_i (x : GManager) (k : Int) : ICtr lim Tryz.prog 25 true [.sl true 3 (x.fPlan.fTemplates.map (encTemplate true)), .sl true 4 (x.fPlan.fServices.map (encService true)), .sl true 15 (x.fDevices.map (encDevice true)), .v (.int .i64 x.fCampaign.fState), .sl true 3 (x.fCampaign.fTasks.map (encTask true)), .v (.int .i64 x.fLast.fState), .sl true 3 (x.fLast.fTasks.map (encTask true)), .v (.int .i64 x.fNow)] [.v (.int .i64 k)] (.v (.int .i64 (mkL stTask x.fLast.fTasks (mkL stTask x.fCampaign.fTasks (mkL stDevice x.fDevices (mkL stService x.fPlan.fServices (mkL stTemplate x.fPlan.fTemplates k).2).2).2).2).2)) [.sl true 3 ((mkL stTemplate x.fPlan.fTemplates k).1.map (encTemplate true)), .sl true 4 ((mkL stService x.fPlan.fServices (mkL stTemplate x.fPlan.fTemplates k).2).1.map (encService true)), .sl true 15 ((mkL stDevice x.fDevices (mkL stService x.fPlan.fServices (mkL stTemplate x.fPlan.fTemplates k).2).2).1.map (encDevice true)), .v (.int .i64 x.fCampaign.fState), .sl true 3 ((mkL stTask x.fCampaign.fTasks (mkL stDevice x.fDevices (mkL stService x.fPlan.fServices (mkL stTemplate x.fPlan.fTemplates k).2).2).2).1.map (encTask true)), .v (.int .i64 x.fLast.fState), .sl true 3 ((mkL stTask x.fLast.fTasks (mkL stTask x.fCampaign.fTasks (mkL stDevice x.fDevices (mkL stService x.fPlan.fServices (mkL stTemplate x.fPlan.fTemplates k).2).2).2).2).1.map (encTask true)), .v (.int .i64 x.fNow)] (0 ≤ k ∧ (mkL stTask x.fLast.fTasks (mkL stTask x.fCampaign.fTasks (mkL stDevice x.fDevices (mkL stService x.fPlan.fServices (mkL stTemplate x.fPlan.fTemplates k).2).2).2).2).2 ≤ 1099511627776) := by
  refine ⟨en25, fun hp => InC.of_body Tryz.func25 rfl rfl rfl (fun hs => rfl) (fun hs => rfl) (fun hs => rfl) rfl fun hs => ?_⟩
  rw [Tryz.ntmps25]
  have g0 := mkL_up stTemplate_ge x.fPlan.fTemplates k
  have g1 := mkL_up stService_ge x.fPlan.fServices (mkL stTemplate x.fPlan.fTemplates k).2
  have g2 := mkL_up stDevice_ge x.fDevices (mkL stService x.fPlan.fServices (mkL stTemplate x.fPlan.fTemplates k).2).2
  have g3 := mkL_up stTask_ge x.fCampaign.fTasks (mkL stDevice x.fDevices (mkL stService x.fPlan.fServices (mkL stTemplate x.fPlan.fTemplates k).2).2).2
  have g4 := mkL_up stTask_ge x.fLast.fTasks (mkL stTask x.fCampaign.fTasks (mkL stDevice x.fDevices (mkL stService x.fPlan.fServices (mkL stTemplate x.fPlan.fTemplates k).2).2).2).2
  (repeat' (first | (with_reducible first | refine Z ?_ | refine xO ?_ | refine Y ?_ | (refine hK _ _ ?_; clear hK K) | exact trivial | refine And.intro ?_ ?_) | (refine AW.i rfl (fun h => ?_) (fun h => ?_) <;> try simp only [hC, reduceCtorEq] at h) | with_reducible rfl | (with_reducible refine fun (K : _ → _ → Prop) hK => ?_) | (with_reducible show drawOK _ _ = true; kernel_rfl) | (with_reducible refine gI fun hg => ?_; try simp only [hC, reduceCtorEq] at hg; try simp only [hg]) | simp (maxSteps := 2000000) (disch := omega) only [go_sem] | (with_reducible intro hg; try simp only [hC, reduceCtorEq] at hg) | (with_reducible show List.Nodup _; decide) | (with_reducible show (_ : Bool) = false; first | rfl | (simp [*]; done)) | with_reducible exact at8_le _ _ | with_reducible exact at8_ge _ _ | (simp only [hC, reduceCtorEq]; omega) | omega | with_reducible assumption | (with_reducible show (_ : Bool) = true; first | (simp [*]; done) | (simp only [hC, reduceCtorEq]; (repeat' (first | assumption | apply And.intro)); done))))
  refine AW.ret (EndsG.inp hg rfl ?_)
  simp (maxSteps := 2000000) (disch := omega) only [go_sem]
end Go.Proofs.YtkdchlggdcmkbaaGreat
