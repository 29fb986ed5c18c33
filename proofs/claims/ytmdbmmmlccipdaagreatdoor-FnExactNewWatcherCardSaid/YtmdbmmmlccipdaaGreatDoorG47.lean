/-
  Part of a proof: Cu3, MkY, McB, McY, AbUL.
-/
import Derived.Test.YtmdbmmmlccipdaaGreatDoorG5
import Derived.Test.YtmdbmmmlccipdaaGreatDoorG10
import Derived.Test.YtmdbmmmlccipdaaGreatDoorG13
import Derived.Test.YtmdbmmmlccipdaaGreatDoorG15
import Derived.Test.YtmdbmmmlccipdaaGreatDoorG30
import Derived.Test.YtmdbmmmlccipdaaGreatDoorG35
import Derived.Test.YtmdbmmmlccipdaaGreatDoorG40
import Derived.Test.YtmdbmmmlccipdaaGreatDoorG43
import Derived.Test.YtmdbmmmlccipdaaGreatDoorG44
import Derived.Test.YtmdbmmmlccipdaaGreatDoorG46
set_option linter.unusedSimpArgs false
set_option linter.unusedVariables false
namespace Go.Proofs.YtmdbmmmlccipdaaGreatDoor
open Go.Ab Go.Dt
set_option maxRecDepth 20000
set_option maxHeartbeats 4000000
attribute [local go_sem] frzL_str encSchemaM_frz encNodeM_frz
instance iCut_i (s : List GSchema) (l : List GNode) (cs : List Str) : Ctr lim Tryz.prog 55 [] [.sl false 19 (s.map (encSchema false)), .sl false 3 (l.map (encNode false)), .sl false 1 (cs.map AV.str)] (.sl true 3 ((l.flatMap (cutX cs s)).map (encNode true))) [] (isTree s l = true ∧ wtS s ≤ 1048576) := ⟨en55, fun h => (iCut_n (cs.length + 1) s l cs).out ⟨Nat.lt_succ_self _, h.2, fun x hx => by
  have := h.1
  simp only [isTree, Bool.and_eq_true] at this
  exact okL_mem this.2 x hx⟩⟩
theorem sCut_i (s : List GSchema) (l : List GNode) (cs : List Str) : Ctr lim Tryz.prog 63 [] [.sl false 19 (s.map (encSchema false)), .sl false 3 (l.map (encNode false)), .sl false 1 (cs.map AV.str), .sl false 1 []] (.sl true 3 ((l.flatMap (cutX cs s)).map (encNode true))) [] (isTree s l = true ∧ wtS s ≤ 1048576) := ⟨en63, fun h => by
  have := (sCut_n (cs.length + 1) s l cs []).out ⟨Nat.lt_succ_self _, h.2, fun x hx => by
    have := h.1
    simp only [isTree, Bool.and_eq_true] at this
    exact okL_mem this.2 x hx⟩
  rw [cut_tree h.1] at this
  exact this⟩
instance sCut_z (s : List GSchema) (l : List GNode) (cs : List Str) : Ctr lim Tryz.prog 63 [] [.sl false 19 (s.map (encSchema false)), .sl false 3 (l.map (encNode false)), .sl false 1 (cs.map AV.str), .v (.slice none 0 0)] (.sl true 3 ((l.flatMap (cutX cs s)).map (encNode true))) [] (isTree s l = true ∧ wtS s ≤ 1048576) := by
  exact (sCut_i s l cs).view fun F w => RepL.consM (fun _ _ h => h) (RepL.consM (fun _ _ h => h) (RepL.consM (fun _ _ h => h) (RepL.consM Rep.nilSl fun _ _ h => h)))
instance iCutTree_i (s : List GSchema) (l : List GNode) (cs : List Str) : Ctr lim Tryz.prog 11 [] [.sl false 19 (s.map (encSchema false)), .sl false 3 (l.map (encNode false)), .sl false 1 (cs.map AV.str)] (.tup [.sl true 3 ((cutT s l cs).map (encNode true)), .v (.bool (isTree s l))]) [] (wtS s ≤ 1048576 ∧ wt l ≤ 1048576) := by
  refine Ctr.of_body en11 Tryz.func11 rfl rfl fun hp => (?_); rw [Tryz.ntmps11]
  have gOn := GrOn.on
  obtain ⟨h1, h2⟩ := hp
  (refine vU ?_; with_reducible repeat' first | exact Le.l | refine Sw ?_ ?_ | intro h)
  · rw [cutT, if_neg (by rw [h]; simp), h]; try rfl
  · rw [cutT, if_pos h, h]
instance sCutTree_i (s : List GSchema) (l : List GNode) (cs : List Str) : Ctr lim Tryz.prog 18 [] [.sl false 19 (s.map (encSchema false)), .sl false 3 (l.map (encNode false)), .sl false 1 (cs.map AV.str)] (.tup [.sl true 3 ((cutT s l cs).map (encNode true)), .v (.bool (isTree s l))]) [] (wtS s ≤ 1048576 ∧ wt l ≤ 1048576) := by
  refine Ctr.of_body en18 Tryz.func18 rfl rfl fun hp => (?_); rw [Tryz.ntmps18]
  have gOn := GrOn.on
  obtain ⟨h1, h2⟩ := hp
  (refine vU ?_; with_reducible repeat' first | exact Le.l | refine Sw ?_ ?_ | intro h)
  · rw [cutT, if_neg (by rw [h]; simp), h]; try rfl
  · rw [cutT, if_pos h, h]

end Go.Proofs.YtmdbmmmlccipdaaGreatDoor
namespace Go.Proofs.YtmdbmmmlccipdaaGreatDoor
open Go.Ab Go.Dt
set_option maxRecDepth 20000
set_option maxHeartbeats 4000000
instance markRangeS_i (l : List GRange) (k : Int) : BCtr lim Tryz.prog 69 2 (l.map (encRange true)) [.v (.int .i64 k)] (.v (.int .i64 (mkL stRange l k).2)) ((mkL stRange l k).1.map (encRange true)) (0 ≤ k ∧ (mkL stRange l k).2 ≤ 1099511627776) := by
  refine BCtr.of en69 (fun b => ?_) (fun e => ?_) (by simp [mkL_len]) (map_elem (fun _ => rfl) _) (map_elem (fun _ => rfl) _)
  · simp only [List.length_map]
    refine Ctr.of_body en69 Tryz.func69 rfl rfl fun hp => (?_); rw [Tryz.ntmps69]
    have hup := mkL_up stRange_ge l k
    (refine vU ?_; with_reducible repeat' first | exact Le.l | refine Sw ?_ ?_ | intro h)
    refine AW.loopV [1, 5] [0] (fun m xs o => ∃ i : Nat, xs = [.v (.int .i64 (mkc stRange l k i)), .v (.int .i64 i)] ∧ o = [(b, some (((mkp stRange l k i).map (encRange true)).flatMap AV.cells))] ∧ m = l.length - i ∧ i ≤ l.length) l.length [(b, some ((l.map (encRange true)).flatMap AV.cells))] (subO_one rfl) ⟨0, rfl, ?_, rfl, ?_⟩ ?_
    · rw [mkp_zero]
    · omega
    rintro m xs o ⟨i, rfl, rfl, rfl, hi⟩
    have h1 := mkc_ge (up_ge stRange_ge) l k i
    have h2 := mkc_le (up_ge stRange_ge) l k i
    (refine vK ?_; with_reducible repeat' first | exact Le.l | refine Sw ?_ ?_ | intro h)
    (refine AW.i rfl (fun h => ?_) (fun h => ?_) <;> try simp only [hC, reduceCtorEq] at h)
    · have h3 := mkc_le (up_ge stRange_ge) l k (i + 1)
      rw [mkd_at h]
      rw [mkc_step h] at h3
      have hpre := mkb_len (e := encRange true) (f := stRange) (sz := 2) (k := k) (fun _ => rfl) hi
      have hpost : (((l.drop (i + 1)).map (encRange true)).flatMap AV.cells).length = (l.length - (i + 1)) * 2 := by
        rw [fm_len (e := encRange true) (sz := 2) (fun _ => rfl), List.length_drop]
      have hnx := mkd_next (e := encRange true) (f := stRange) (k := k) h
      generalize mkb (encRange true) stRange l k i = pre at hpre hnx ⊢
      generalize ((l.drop (i + 1)).map (encRange true)).flatMap AV.cells = post at hnx hpost ⊢
      generalize e1 : at_ l i = x at *
      generalize e2 : mkc stRange l k i = c at *
      simp only [stRange] at h3
      (refine vK ?_; with_reducible repeat' first | exact Le.l | refine Sw ?_ ?_ | intro h)
      exact ⟨_, [_, _], _, by omega, ⟨i + 1, by rw [mkc_step h, e1, e2]; rfl, rfl, rfl, by omega⟩, rfl, subO_one hnx⟩
    · rw [mkc_end h, mkp_end h]
      all_goals exact uU
  · have : l = [] := by simpa using e
    subst this
    refine ⟨?_, rfl⟩
    refine Ctr.of_body en69 Tryz.func69 rfl rfl fun hp => (?_); rw [Tryz.ntmps69]
    (refine vU ?_; with_reducible repeat' first | exact Le.l | refine Sw ?_ ?_ | intro h)
    refine AW.loopV [] [0, 1, 5] (fun m xs o => xs = [] ∧ o = []) 0 [] trivial ⟨rfl, rfl⟩ ?_
    rintro m xs o ⟨rfl, rfl⟩
    (refine vU ?_; with_reducible repeat' first | exact Le.l | refine Sw ?_ ?_ | intro h)
    rfl
instance markTestS_i (l : List GTest) (k : Int) : BCtr lim Tryz.prog 175 2 (l.map (encTest true)) [.v (.int .i64 k)] (.v (.int .i64 (mkL stTest l k).2)) ((mkL stTest l k).1.map (encTest true)) (0 ≤ k ∧ (mkL stTest l k).2 ≤ 1099511627776) := by
  refine BCtr.of en175 (fun b => ?_) (fun e => ?_) (by simp [mkL_len]) (map_elem (fun _ => rfl) _) (map_elem (fun _ => rfl) _)
  · simp only [List.length_map]
    refine Ctr.of_body en175 Tryz.func175 rfl rfl fun hp => (?_); rw [Tryz.ntmps175]
    have hup := mkL_up stTest_ge l k
    (refine vU ?_; with_reducible repeat' first | exact Le.l | refine Sw ?_ ?_ | intro h)
    refine AW.loopV [1, 5] [0] (fun m xs o => ∃ i : Nat, xs = [.v (.int .i64 (mkc stTest l k i)), .v (.int .i64 i)] ∧ o = [(b, some (((mkp stTest l k i).map (encTest true)).flatMap AV.cells))] ∧ m = l.length - i ∧ i ≤ l.length) l.length [(b, some ((l.map (encTest true)).flatMap AV.cells))] (subO_one rfl) ⟨0, rfl, ?_, rfl, ?_⟩ ?_
    · rw [mkp_zero]
    · omega
    rintro m xs o ⟨i, rfl, rfl, rfl, hi⟩
    have h1 := mkc_ge (up_ge stTest_ge) l k i
    have h2 := mkc_le (up_ge stTest_ge) l k i
    (refine vK ?_; with_reducible repeat' first | exact Le.l | refine Sw ?_ ?_ | intro h)
    (refine AW.i rfl (fun h => ?_) (fun h => ?_) <;> try simp only [hC, reduceCtorEq] at h)
    · have h3 := mkc_le (up_ge stTest_ge) l k (i + 1)
      rw [mkd_at h]
      rw [mkc_step h] at h3
      have hpre := mkb_len (e := encTest true) (f := stTest) (sz := 2) (k := k) (fun _ => rfl) hi
      have hpost : (((l.drop (i + 1)).map (encTest true)).flatMap AV.cells).length = (l.length - (i + 1)) * 2 := by
        rw [fm_len (e := encTest true) (sz := 2) (fun _ => rfl), List.length_drop]
      have hnx := mkd_next (e := encTest true) (f := stTest) (k := k) h
      generalize mkb (encTest true) stTest l k i = pre at hpre hnx ⊢
      generalize ((l.drop (i + 1)).map (encTest true)).flatMap AV.cells = post at hnx hpost ⊢
      generalize e1 : at_ l i = x at *
      generalize e2 : mkc stTest l k i = c at *
      simp only [stTest] at h3
      (refine vK ?_; with_reducible repeat' first | exact Le.l | refine Sw ?_ ?_ | intro h)
      exact ⟨_, [_, _], _, by omega, ⟨i + 1, by rw [mkc_step h, e1, e2]; rfl, rfl, rfl, by omega⟩, rfl, subO_one hnx⟩
    · rw [mkc_end h, mkp_end h]
      all_goals exact uU
  · have : l = [] := by simpa using e
    subst this
    refine ⟨?_, rfl⟩
    refine Ctr.of_body en175 Tryz.func175 rfl rfl fun hp => (?_); rw [Tryz.ntmps175]
    (refine vU ?_; with_reducible repeat' first | exact Le.l | refine Sw ?_ ?_ | intro h)
    refine AW.loopV [] [0, 1, 5] (fun m xs o => xs = [] ∧ o = []) 0 [] trivial ⟨rfl, rfl⟩ ?_
    rintro m xs o ⟨rfl, rfl⟩
    (refine vU ?_; with_reducible repeat' first | exact Le.l | refine Sw ?_ ?_ | intro h)
    rfl
instance markStepS_i (l : List Dt.GStep) (k : Int) : BCtr lim Tryz.prog 126 2 (l.map (encStep true)) [.v (.int .i64 k)] (.v (.int .i64 (mkL stStep l k).2)) ((mkL stStep l k).1.map (encStep true)) (0 ≤ k ∧ (mkL stStep l k).2 ≤ 1099511627776) := by
  refine BCtr.of en126 (fun b => ?_) (fun e => ?_) (by simp [mkL_len]) (map_elem (fun _ => rfl) _) (map_elem (fun _ => rfl) _)
  · simp only [List.length_map]
    refine Ctr.of_body en126 Tryz.func126 rfl rfl fun hp => (?_); rw [Tryz.ntmps126]
    have hup := mkL_up stStep_ge l k
    (refine vU ?_; with_reducible repeat' first | exact Le.l | refine Sw ?_ ?_ | intro h)
    refine AW.loopW [1, 5] [0] (fun m xs o => ∃ i : Nat, xs = [.v (.int .i64 (mkc stStep l k i)), .v (.int .i64 i)] ∧ o = [(b, some (((mkp stStep l k i).map (encStep true)).flatMap AV.cells))] ∧ m = l.length - i ∧ i ≤ l.length) l.length [(b, some ((l.map (encStep true)).flatMap AV.cells))] (subO_one rfl) ⟨0, rfl, ?_, rfl, ?_⟩ ?_
    · rw [mkp_zero]
    · omega
    rintro m xs o ⟨i, rfl, rfl, rfl, hi⟩
    have h1 := mkc_ge (up_ge stStep_ge) l k i
    have h2 := mkc_le (up_ge stStep_ge) l k i
    (refine vK ?_; with_reducible repeat' first | exact Le.l | refine Sw ?_ ?_ | intro h)
    (refine AW.i rfl (fun h => ?_) (fun h => ?_) <;> try simp only [hC, reduceCtorEq] at h)
    · have h3 := mkc_le (up_ge stStep_ge) l k (i + 1)
      rw [mkd_at h]
      rw [mkc_step h] at h3
      have hpre := mkb_len (e := encStep true) (f := stStep) (sz := 2) (k := k) (fun _ => rfl) hi
      have hpost : (((l.drop (i + 1)).map (encStep true)).flatMap AV.cells).length = (l.length - (i + 1)) * 2 := by
        rw [fm_len (e := encStep true) (sz := 2) (fun _ => rfl), List.length_drop]
      have hnx := mkd_next (e := encStep true) (f := stStep) (k := k) h
      generalize mkb (encStep true) stStep l k i = pre at hpre hnx ⊢
      generalize ((l.drop (i + 1)).map (encStep true)).flatMap AV.cells = post at hnx hpost ⊢
      generalize e1 : at_ l i = x at *
      generalize e2 : mkc stStep l k i = c at *
      refine AW.imp (Imp.pinE (b := b) pre [_, _] post (O_eq _ _ _) fun hs => ?_)
      simp (maxSteps := 2000000) (disch := omega) only [go_sem]
      have g0 := mkL_up stTest_ge x.fTests (c + 1)
      simp only [stStep] at h3
      (refine vK ?_; with_reducible repeat' first | exact Le.l | refine Sw ?_ ?_ | intro h)
      refine Imp.unpE (b := b) pre [_, _] post (O_eq _ _ _) ?_
      simp (maxSteps := 2000000) (disch := omega) only [go_sem]
      exact ⟨_, [_, _], _, by omega, ⟨i + 1, by rw [mkc_step h, e1, e2]; rfl, rfl, rfl, by omega⟩, rfl, subO_one hnx⟩
    · rw [mkc_end h, mkp_end h]
      all_goals exact uU
  · have : l = [] := by simpa using e
    subst this
    refine ⟨?_, rfl⟩
    refine Ctr.of_body en126 Tryz.func126 rfl rfl fun hp => (?_); rw [Tryz.ntmps126]
    (refine vU ?_; with_reducible repeat' first | exact Le.l | refine Sw ?_ ?_ | intro h)
    refine AW.loopV [] [0, 1, 5] (fun m xs o => xs = [] ∧ o = []) 0 [] trivial ⟨rfl, rfl⟩ ?_
    rintro m xs o ⟨rfl, rfl⟩
    (refine vU ?_; with_reducible repeat' first | exact Le.l | refine Sw ?_ ?_ | intro h)
    rfl
theorem markExprS_n : ∀ (n : Nat) (l : List GExpr) (k : Int), BCtr lim Tryz.prog 70 7 (l.map (encExpr true)) [.v (.int .i64 k)] (.v (.int .i64 (mkL stExpr l k).2)) ((mkL stExpr l k).1.map (encExpr true)) (SizeOf.sizeOf l < n ∧ 0 ≤ k ∧ (mkL stExpr l k).2 ≤ 1099511627776)
  | 0, l, k => ⟨en70, fun h => absurd h.1 (Nat.not_lt_zero _)⟩
  | n + 1, l, k => by
    have ih := markExprS_n n
    refine BCtr.of en70 (fun b => ?_) (fun e => ?_) (by simp [mkL_len]) (map_elem (fun x => by rw [encExpr_eq]; rfl) _) (map_elem (fun x => by rw [encExpr_eq]; rfl) _)
    · simp only [List.length_map]
      refine Ctr.of_body en70 Tryz.func70 rfl rfl fun hp => (?_); rw [Tryz.ntmps70]
      have hup := mkL_up stExpr_ge l k
      (refine vU ?_; with_reducible repeat' first | exact Le.l | refine Sw ?_ ?_ | intro h)
      refine AW.loopW [1, 5] [0] (fun m xs o => ∃ i : Nat, xs = [.v (.int .i64 (mkc stExpr l k i)), .v (.int .i64 i)] ∧ o = [(b, some (((mkp stExpr l k i).map (encExpr true)).flatMap AV.cells))] ∧ m = l.length - i ∧ i ≤ l.length) l.length [(b, some ((l.map (encExpr true)).flatMap AV.cells))] (subO_one rfl) ⟨0, rfl, ?_, rfl, ?_⟩ ?_
      · rw [mkp_zero]
      · omega
      rintro m xs o ⟨i, rfl, rfl, rfl, hi⟩
      have h1 := mkc_ge (up_ge stExpr_ge) l k i
      have h2 := mkc_le (up_ge stExpr_ge) l k i
      (refine vK ?_; with_reducible repeat' first | exact Le.l | refine Sw ?_ ?_ | intro h)
      (refine AW.i rfl (fun h => ?_) (fun h => ?_) <;> try simp only [hC, reduceCtorEq] at h)
      · have h3 := mkc_le (up_ge stExpr_ge) l k (i + 1)
        rw [mkd_at h]
        rw [mkc_step h] at h3
        have hpre := mkb_len (e := encExpr true) (f := stExpr) (sz := 7) (k := k) (fun x => by rw [encExpr_eq]; rfl) hi
        have hpost : (((l.drop (i + 1)).map (encExpr true)).flatMap AV.cells).length = (l.length - (i + 1)) * 7 := by
          rw [fm_len (e := encExpr true) (sz := 7) (fun x => by rw [encExpr_eq]; rfl), List.length_drop]
        have hnx := mkd_next (e := encExpr true) (f := stExpr) (k := k) h
        have hkk : SizeOf.sizeOf (at_ l i).fKids < n := by have := GExpr.kids_lt (at_mem h); omega
        rw [stExpr_eq] at hnx
        generalize mkb (encExpr true) stExpr l k i = pre at hpre hnx ⊢
        generalize ((l.drop (i + 1)).map (encExpr true)).flatMap AV.cells = post at hnx hpost ⊢
        generalize e1 : at_ l i = x at *
        generalize e2 : mkc stExpr l k i = c at *
        rw [encExpr_eq]
        simp only [encExpr_eq] at hnx
        refine AW.imp (Imp.pinE (b := b) pre [_, _, _, _, _, _, _] post (O_eq _ _ _) fun hs => ?_)
        simp (maxSteps := 2000000) (disch := omega) only [go_sem]
        have g0 := mkL_up stStep_ge x.fPath.fSteps (c + 1 + 1 + 1 + 1 + 1)
        have g1 := mkL_up stExpr_ge x.fKids ((mkL stStep x.fPath.fSteps (c + 1 + 1 + 1 + 1 + 1)).2)
        rw [stExpr_eq] at h3; simp only at h3
        (refine vK ?_; with_reducible repeat' first | exact Le.l | refine Sw ?_ ?_ | intro h)
        refine Imp.unpE (b := b) pre [_, _, _, _, _, _, _] post (O_eq _ _ _) ?_
        simp (maxSteps := 2000000) (disch := omega) only [go_sem]
        exact ⟨_, [_, _], _, by omega, ⟨i + 1, by rw [mkc_step h, e1, e2, stExpr_eq], rfl, rfl, by omega⟩, rfl, subO_one hnx⟩
      · rw [mkc_end h, mkp_end h]
        all_goals exact uU
    · have : l = [] := by simpa using e
      subst this
      refine ⟨?_, rfl⟩
      refine Ctr.of_body en70 Tryz.func70 rfl rfl fun hp => (?_); rw [Tryz.ntmps70]
      (refine vU ?_; with_reducible repeat' first | exact Le.l | refine Sw ?_ ?_ | intro h)
      refine AW.loopV [] [0, 1, 5] (fun m xs o => xs = [] ∧ o = []) 0 [] trivial ⟨rfl, rfl⟩ ?_
      rintro m xs o ⟨rfl, rfl⟩
      (refine vU ?_; with_reducible repeat' first | exact Le.l | refine Sw ?_ ?_ | intro h)
      rfl
instance markExprS_i (l : List GExpr) (k : Int) : BCtr lim Tryz.prog 70 7 (l.map (encExpr true)) [.v (.int .i64 k)] (.v (.int .i64 (mkL stExpr l k).2)) ((mkL stExpr l k).1.map (encExpr true)) (0 ≤ k ∧ (mkL stExpr l k).2 ≤ 1099511627776) := ⟨en70, fun h => (markExprS_n (SizeOf.sizeOf l + 1) l k).out ⟨Nat.lt_succ_self _, h⟩⟩
theorem markSchemaS_n : ∀ (n : Nat) (l : List GSchema) (k : Int), BCtr lim Tryz.prog 25 19 (l.map (encSchema true)) [.v (.int .i64 k)] (.v (.int .i64 (mkL stSchema l k).2)) ((mkL stSchema l k).1.map (encSchema true)) (SizeOf.sizeOf l < n ∧ 0 ≤ k ∧ (mkL stSchema l k).2 ≤ 1099511627776)
  | 0, l, k => ⟨en25, fun h => absurd h.1 (Nat.not_lt_zero _)⟩
  | n + 1, l, k => by
    have ih := markSchemaS_n n
    refine BCtr.of en25 (fun b => ?_) (fun e => ?_) (by simp [mkL_len]) (map_elem (fun x => by rw [encSchema_eq]; rfl) _) (map_elem (fun x => by rw [encSchema_eq]; rfl) _)
    · simp only [List.length_map]
      refine Ctr.of_body en25 Tryz.func25 rfl rfl fun hp => (?_); rw [Tryz.ntmps25]
      have hup := mkL_up stSchema_ge l k
      (refine vU ?_; with_reducible repeat' first | exact Le.l | refine Sw ?_ ?_ | intro h)
      refine AW.loopW [1, 5] [0] (fun m xs o => ∃ i : Nat, xs = [.v (.int .i64 (mkc stSchema l k i)), .v (.int .i64 i)] ∧ o = [(b, some (((mkp stSchema l k i).map (encSchema true)).flatMap AV.cells))] ∧ m = l.length - i ∧ i ≤ l.length) l.length [(b, some ((l.map (encSchema true)).flatMap AV.cells))] (subO_one rfl) ⟨0, rfl, ?_, rfl, ?_⟩ ?_
      · rw [mkp_zero]
      · omega
      rintro m xs o ⟨i, rfl, rfl, rfl, hi⟩
      have h1 := mkc_ge (up_ge stSchema_ge) l k i
      have h2 := mkc_le (up_ge stSchema_ge) l k i
      (refine vK ?_; with_reducible repeat' first | exact Le.l | refine Sw ?_ ?_ | intro h)
      (refine AW.i rfl (fun h => ?_) (fun h => ?_) <;> try simp only [hC, reduceCtorEq] at h)
      · have h3 := mkc_le (up_ge stSchema_ge) l k (i + 1)
        rw [mkd_at h]
        rw [mkc_step h] at h3
        have hpre := mkb_len (e := encSchema true) (f := stSchema) (sz := 19) (k := k) (fun x => by rw [encSchema_eq]; rfl) hi
        have hpost : (((l.drop (i + 1)).map (encSchema true)).flatMap AV.cells).length = (l.length - (i + 1)) * 19 := by
          rw [fm_len (e := encSchema true) (sz := 19) (fun x => by rw [encSchema_eq]; rfl), List.length_drop]
        have hnx := mkd_next (e := encSchema true) (f := stSchema) (k := k) h
        have hkk : SizeOf.sizeOf (at_ l i).fKids < n := by have := GSchema.kids_lt (at_mem h); omega
        rw [stSchema_eq] at hnx
        generalize mkb (encSchema true) stSchema l k i = pre at hpre hnx ⊢
        generalize ((l.drop (i + 1)).map (encSchema true)).flatMap AV.cells = post at hnx hpost ⊢
        generalize e1 : at_ l i = x at *
        generalize e2 : mkc stSchema l k i = c at *
        rw [encSchema_eq]
        simp only [encSchema_eq] at hnx
        refine AW.imp (Imp.pinE (b := b) pre [_, _, _, _, _, _, _, _, _, _, _, _, _, _, _, _, _, _, _] post (O_eq _ _ _) fun hs => ?_)
        simp (maxSteps := 2000000) (disch := omega) only [go_sem]
        have g0 := mkL_up stRange_ge x.fType.fRanges (c + 1 + 1 + 1)
        have g1 := mkL_up stString_ge x.fType.fNames ((mkL stRange x.fType.fRanges (c + 1 + 1 + 1)).2)
        have g2 := mkL_up stString_ge x.fKeys ((mkL stString x.fType.fNames ((mkL stRange x.fType.fRanges (c + 1 + 1 + 1)).2)).2 + 1 + 1)
        have g3 := mkL_up stString_ge x.fUnique ((mkL stString x.fKeys ((mkL stString x.fType.fNames ((mkL stRange x.fType.fRanges (c + 1 + 1 + 1)).2)).2 + 1 + 1)).2)
        have g4 := mkL_up stExpr_ge x.fWhen ((mkL stString x.fUnique ((mkL stString x.fKeys ((mkL stString x.fType.fNames ((mkL stRange x.fType.fRanges (c + 1 + 1 + 1)).2)).2 + 1 + 1)).2)).2 + 1 + 1 + 1 + 1 + 1 + 1 + 1)
        have g5 := mkL_up stExpr_ge x.fMust ((mkL stExpr x.fWhen ((mkL stString x.fUnique ((mkL stString x.fKeys ((mkL stString x.fType.fNames ((mkL stRange x.fType.fRanges (c + 1 + 1 + 1)).2)).2 + 1 + 1)).2)).2 + 1 + 1 + 1 + 1 + 1 + 1 + 1)).2)
        have g6 := mkL_up stSchema_ge x.fKids ((mkL stExpr x.fMust ((mkL stExpr x.fWhen ((mkL stString x.fUnique ((mkL stString x.fKeys ((mkL stString x.fType.fNames ((mkL stRange x.fType.fRanges (c + 1 + 1 + 1)).2)).2 + 1 + 1)).2)).2 + 1 + 1 + 1 + 1 + 1 + 1 + 1)).2)).2)
        rw [stSchema_eq] at h3; simp only at h3
        (refine vK ?_; with_reducible repeat' first | exact Le.l | refine Sw ?_ ?_ | intro h)
        refine Imp.unpE (b := b) pre [_, _, _, _, _, _, _, _, _, _, _, _, _, _, _, _, _, _, _] post (O_eq _ _ _) ?_
        simp (maxSteps := 2000000) (disch := omega) only [go_sem]
        exact ⟨_, [_, _], _, by omega, ⟨i + 1, by rw [mkc_step h, e1, e2, stSchema_eq], rfl, rfl, by omega⟩, rfl, subO_one hnx⟩
      · rw [mkc_end h, mkp_end h]
        all_goals exact uU
    · have : l = [] := by simpa using e
      subst this
      refine ⟨?_, rfl⟩
      refine Ctr.of_body en25 Tryz.func25 rfl rfl fun hp => (?_); rw [Tryz.ntmps25]
      (refine vU ?_; with_reducible repeat' first | exact Le.l | refine Sw ?_ ?_ | intro h)
      refine AW.loopV [] [0, 1, 5] (fun m xs o => xs = [] ∧ o = []) 0 [] trivial ⟨rfl, rfl⟩ ?_
      rintro m xs o ⟨rfl, rfl⟩
      (refine vU ?_; with_reducible repeat' first | exact Le.l | refine Sw ?_ ?_ | intro h)
      rfl
instance markSchemaS_i (l : List GSchema) (k : Int) : BCtr lim Tryz.prog 25 19 (l.map (encSchema true)) [.v (.int .i64 k)] (.v (.int .i64 (mkL stSchema l k).2)) ((mkL stSchema l k).1.map (encSchema true)) (0 ≤ k ∧ (mkL stSchema l k).2 ≤ 1099511627776) := ⟨en25, fun h => (markSchemaS_n (SizeOf.sizeOf l + 1) l k).out ⟨Nat.lt_succ_self _, h⟩⟩
theorem markNodeS_n : ∀ (n : Nat) (l : List GNode) (k : Int), BCtr lim Tryz.prog 26 3 (l.map (encNode true)) [.v (.int .i64 k)] (.v (.int .i64 (mkL stNode l k).2)) ((mkL stNode l k).1.map (encNode true)) (SizeOf.sizeOf l < n ∧ 0 ≤ k ∧ (mkL stNode l k).2 ≤ 1099511627776)
  | 0, l, k => ⟨en26, fun h => absurd h.1 (Nat.not_lt_zero _)⟩
  | n + 1, l, k => by
    have ih := markNodeS_n n
    refine BCtr.of en26 (fun b => ?_) (fun e => ?_) (by simp [mkL_len]) (map_elem (fun x => by rw [encNode_eq]; rfl) _) (map_elem (fun x => by rw [encNode_eq]; rfl) _)
    · simp only [List.length_map]
      refine Ctr.of_body en26 Tryz.func26 rfl rfl fun hp => (?_); rw [Tryz.ntmps26]
      have hup := mkL_up stNode_ge l k
      (refine vU ?_; with_reducible repeat' first | exact Le.l | refine Sw ?_ ?_ | intro h)
      refine AW.loopW [1, 5] [0] (fun m xs o => ∃ i : Nat, xs = [.v (.int .i64 (mkc stNode l k i)), .v (.int .i64 i)] ∧ o = [(b, some (((mkp stNode l k i).map (encNode true)).flatMap AV.cells))] ∧ m = l.length - i ∧ i ≤ l.length) l.length [(b, some ((l.map (encNode true)).flatMap AV.cells))] (subO_one rfl) ⟨0, rfl, ?_, rfl, ?_⟩ ?_
      · rw [mkp_zero]
      · omega
      rintro m xs o ⟨i, rfl, rfl, rfl, hi⟩
      have h1 := mkc_ge (up_ge stNode_ge) l k i
      have h2 := mkc_le (up_ge stNode_ge) l k i
      (refine vK ?_; with_reducible repeat' first | exact Le.l | refine Sw ?_ ?_ | intro h)
      (refine AW.i rfl (fun h => ?_) (fun h => ?_) <;> try simp only [hC, reduceCtorEq] at h)
      · have h3 := mkc_le (up_ge stNode_ge) l k (i + 1)
        rw [mkd_at h]
        rw [mkc_step h] at h3
        have hpre := mkb_len (e := encNode true) (f := stNode) (sz := 3) (k := k) (fun x => by rw [encNode_eq]; rfl) hi
        have hpost : (((l.drop (i + 1)).map (encNode true)).flatMap AV.cells).length = (l.length - (i + 1)) * 3 := by
          rw [fm_len (e := encNode true) (sz := 3) (fun x => by rw [encNode_eq]; rfl), List.length_drop]
        have hnx := mkd_next (e := encNode true) (f := stNode) (k := k) h
        have hkk : SizeOf.sizeOf (at_ l i).fKids < n := by have := GNode.kids_lt (at_mem h); omega
        rw [stNode_eq] at hnx
        generalize mkb (encNode true) stNode l k i = pre at hpre hnx ⊢
        generalize ((l.drop (i + 1)).map (encNode true)).flatMap AV.cells = post at hnx hpost ⊢
        generalize e1 : at_ l i = x at *
        generalize e2 : mkc stNode l k i = c at *
        rw [encNode_eq]
        simp only [encNode_eq] at hnx
        refine AW.imp (Imp.pinE (b := b) pre [_, _, _] post (O_eq _ _ _) fun hs => ?_)
        simp (maxSteps := 2000000) (disch := omega) only [go_sem]
        have g0 := mkL_up stNode_ge x.fKids (c + 1 + 1)
        rw [stNode_eq] at h3; simp only at h3
        (refine vK ?_; with_reducible repeat' first | exact Le.l | refine Sw ?_ ?_ | intro h)
        refine Imp.unpE (b := b) pre [_, _, _] post (O_eq _ _ _) ?_
        simp (maxSteps := 2000000) (disch := omega) only [go_sem]
        exact ⟨_, [_, _], _, by omega, ⟨i + 1, by rw [mkc_step h, e1, e2, stNode_eq], rfl, rfl, by omega⟩, rfl, subO_one hnx⟩
      · rw [mkc_end h, mkp_end h]
        all_goals exact uU
    · have : l = [] := by simpa using e
      subst this
      refine ⟨?_, rfl⟩
      refine Ctr.of_body en26 Tryz.func26 rfl rfl fun hp => (?_); rw [Tryz.ntmps26]
      (refine vU ?_; with_reducible repeat' first | exact Le.l | refine Sw ?_ ?_ | intro h)
      refine AW.loopV [] [0, 1, 5] (fun m xs o => xs = [] ∧ o = []) 0 [] trivial ⟨rfl, rfl⟩ ?_
      rintro m xs o ⟨rfl, rfl⟩
      (refine vU ?_; with_reducible repeat' first | exact Le.l | refine Sw ?_ ?_ | intro h)
      rfl
instance markNodeS_i (l : List GNode) (k : Int) : BCtr lim Tryz.prog 26 3 (l.map (encNode true)) [.v (.int .i64 k)] (.v (.int .i64 (mkL stNode l k).2)) ((mkL stNode l k).1.map (encNode true)) (0 ≤ k ∧ (mkL stNode l k).2 ≤ 1099511627776) := ⟨en26, fun h => (markNodeS_n (SizeOf.sizeOf l + 1) l k).out ⟨Nat.lt_succ_self _, h⟩⟩
theorem heldNodeS_n : ∀ (n : Nat) (l : List GNode) (k : Int), Ctr lim Tryz.prog 28 [] [.sl false 3 ((mkL stNode l k).1.map (encNode false)), .v (.int .i64 k)] (.v (.int .i64 (mkL stNode l k).2)) [] (SizeOf.sizeOf l < n ∧ 0 ≤ k ∧ (mkL stNode l k).2 ≤ 1099511627776)
  | 0, l, k => ⟨en28, fun h => absurd h.1 (Nat.not_lt_zero _)⟩
  | n + 1, l, k => by
    have ih := heldNodeS_n n
    refine Ctr.of_body en28 Tryz.func28 rfl rfl fun hp => (?_); rw [Tryz.ntmps28]
    have hup := mkL_up stNode_ge l k
    have hml := mkL_len (f := stNode) l k
    (refine vU ?_; with_reducible repeat' first | exact Le.l | refine Sw ?_ ?_ | intro h)
    refine AW.loopV [1, 5] [0] (fun m xs o => ∃ i : Nat, xs = [.v (.int .i64 (mkc stNode l k i)), .v (.int .i64 i)] ∧ o = [] ∧ m = l.length - i ∧ i ≤ l.length) l.length [] trivial ⟨0, rfl, rfl, rfl, ?_⟩ ?_
    · omega
    rintro m xs o ⟨i, rfl, rfl, rfl, hi⟩
    have h1 := mkc_ge (up_ge stNode_ge) l k i
    have h2 := mkc_le (up_ge stNode_ge) l k i
    (refine vK ?_; with_reducible repeat' first | exact Le.l | refine Sw ?_ ?_ | intro h)
    (refine AW.i rfl (fun h => ?_) (fun h => ?_) <;> try simp only [hC, reduceCtorEq] at h)
    · rw [hml] at h
      have h3 := mkc_le (up_ge stNode_ge) l k (i + 1)
      have hat := mkL_at (f := stNode) (k := k) h
      rw [mkc_step h] at h3
      have hlt := h
      have hkk : SizeOf.sizeOf (at_ l i).fKids < n := by have := GNode.kids_lt (at_mem h); omega
      rw [stNode_eq] at h3 hat
      simp only at h3 hat
      have g0 := mkL_up stNode_ge (at_ l i).fKids ((mkc stNode l k i) + 1 + 1)
      have hat0 : (at_ (mkL stNode l k).1 i).fName = mkT ((mkc stNode l k i)) := by rw [hat]; rfl
      have hat1 : (at_ (mkL stNode l k).1 i).fValue = mkT ((mkc stNode l k i) + 1) := by rw [hat]; rfl
      have hat2 : (at_ (mkL stNode l k).1 i).fKids = (mkL stNode (at_ l i).fKids ((mkc stNode l k i) + 1 + 1)).1 := by rw [hat]; rfl
      (repeat' first | (with_reducible first | refine Z ?_ | refine Y ?_ | (refine hK _ _ ?_; clear hK K) | refine And.intro ?_ ?_ | exact Ct | intro (K : _ → _ → Prop) hK | (refine gI fun hg => ?_; try simp only [hC, reduceCtorEq] at hg; try simp only [hg])) | (refine AW.i rfl (fun h => ?_) (fun h => ?_) <;> try simp only [hC, reduceCtorEq] at h) | ((with_reducible refine E ?_; repeat refine Y ?_); refine eF rfl ?_) | simp (disch := omega) only [go_sem, hat0, hat1, hat2, beq_self_eq_true, bne_self_eq_false, Bool.not_true] | (with_reducible intro hg; try simp only [hC, reduceCtorEq] at hg) | exact Cl | fail)
      exact ⟨_, [_, _], [], by omega, ⟨i + 1, by rw [mkc_step hlt, stNode_eq], rfl, rfl, by omega⟩, rfl, trivial⟩
    · rw [hml] at h
      rw [mkc_end h]
      all_goals exact uU
instance heldNodeS_i (l : List GNode) (k : Int) : Ctr lim Tryz.prog 28 [] [.sl false 3 ((mkL stNode l k).1.map (encNode false)), .v (.int .i64 k)] (.v (.int .i64 (mkL stNode l k).2)) [] (0 ≤ k ∧ (mkL stNode l k).2 ≤ 1099511627776) := ⟨en28, fun h => (heldNodeS_n (SizeOf.sizeOf l + 1) l k).out ⟨Nat.lt_succ_self _, h⟩⟩
end Go.Proofs.YtmdbmmmlccipdaaGreatDoor
namespace Go.Dt
open Go.Ab
theorem szSl_lenB {α : Type} {f : α → Int → Int} {l : List α} {r : Int} (h : 0 ≤ szSl f l r) : (l.length : Int) ≤ r := by
  rcases Int.lt_or_le (r - l.length) 0 with h4 | h4
  · rw [szSl_neg h4] at h; omega
  · omega
end Go.Dt
namespace Go.Dt
open Go.Ab
theorem thn_posK {a : Int} {k : Int → Int} (h : 0 ≤ a) : thn a k = k a := by unfold thn; rw [if_neg (by omega)]
theorem mkL_capm {α : Type} {f : α → Int → α × Int} {s : α → Int → Int} (hs : ∀ x r, 0 ≤ r → s x r ≤ r) (l : List α) (hf : ∀ x ∈ l, ∀ k r, 0 ≤ r → 0 ≤ s x r → (f x k).2 ≤ k + 32 + 32 * (r - s x r)) (k r : Int) (h0 : 0 ≤ r) (h : 0 ≤ szSl s l r) : (mkL f l k).2 ≤ k + 32 * (r - szSl s l r) := by
  have key : ∀ (l : List α), (∀ x ∈ l, ∀ k r, 0 ≤ r → 0 ≤ s x r → (f x k).2 ≤ k + 32 + 32 * (r - s x r)) → ∀ (k r : Int), 0 ≤ r → 0 ≤ szGo s l r → (mkL f l k).2 ≤ k + 32 * l.length + 32 * (r - szGo s l r) := by
    intro l
    induction l with
    | nil => intro _ k r h0 _; simp [mkL, szGo]
    | cons x xs ih =>
      intro hf k r h0 h
      rw [szGo] at h ⊢
      obtain ⟨a0, h⟩ := thn_get h
      rw [thn_posK a0]
      have h1 := hf x (by simp) k r h0 a0
      have h2 := ih (fun y hy => hf y (by simp [hy])) (f x k).2 (s x r) a0 h
      simp only [mkL, List.length_cons]
      omega
  have h4 := szSl_lenB h
  rw [szSl_pos (by omega)] at h ⊢
  have := key l hf k (r - l.length) (by omega) h
  omega
theorem mkL_cap {α : Type} {f : α → Int → α × Int} {s : α → Int → Int} (hs : ∀ x r, 0 ≤ r → s x r ≤ r) (hf : ∀ x k r, 0 ≤ r → 0 ≤ s x r → (f x k).2 ≤ k + 32 + 32 * (r - s x r)) (l : List α) (k r : Int) (h0 : 0 ≤ r) (h : 0 ≤ szSl s l r) : (mkL f l k).2 ≤ k + 32 * (r - szSl s l r) :=
  mkL_capm hs l (fun x _ => hf x) k r h0 h
theorem stString_cap (x : Str) (k r : Int) (h0 : 0 ≤ r) (h : 0 ≤ szStr x r) : (stString x k).2 ≤ k + 32 + 32 * (r - szStr x r) := by
  have := szStr_le x r h0
  unfold stString; simp only; omega
end Go.Dt
namespace Go.Dt
open Go.Ab
theorem stRange_cap (x : GRange) (k r : Int) (h0 : 0 ≤ r) (h : 0 ≤ szRange x r) : (stRange x k).2 ≤ k + 32 + 32 * (r - szRange x r) := by
  simp only [stRange]
  unfold szRange; omega
def inType (x : GType) (k : Int) : Int := (mkL stString x.fNames ((mkL stRange x.fRanges (k + 1)).2)).2 + 1 + 1
theorem inType_cap (x : GType) (k r : Int) (h0 : 0 ≤ r) (h : 0 ≤ szType x r) : inType x k ≤ k + 3 + 32 * (r - szType x r) := by
  unfold inType
  unfold szType at h ⊢
  obtain ⟨a0, h⟩ := thn_get h
  rw [thn_posK a0]
  have q0 := mkL_cap szRange_le stRange_cap x.fRanges (k + 1) r h0 a0
  obtain ⟨a1, h⟩ := thn_get h
  rw [thn_posK a1]
  have q1 := mkL_cap szStr_le stString_cap x.fNames ((mkL stRange x.fRanges (k + 1)).2) (szSl szRange x.fRanges r) a0 a1
  obtain ⟨a2, h⟩ := thn_get h
  rw [thn_posK a2]
  have q2 := szStr_le x.fPattern (szSl szStr x.fNames (szSl szRange x.fRanges r)) a1
  obtain ⟨a3, h⟩ := thn_get h
  rw [thn_posK a3]
  have q3 := szStr_le x.fPath (szStr x.fPattern (szSl szStr x.fNames (szSl szRange x.fRanges r))) a2
  simp only [id]
  omega
def tpType (x : GType) (k : Int) : Unit × Int := ((), (mkL stString x.fNames ((mkL stRange x.fRanges k).2)).2)
theorem stTest_cap (x : GTest) (k r : Int) (h0 : 0 ≤ r) (h : 0 ≤ szTest x r) : (stTest x k).2 ≤ k + 32 + 32 * (r - szTest x r) := by
  simp only [stTest]
  unfold szTest at h ⊢
  obtain ⟨a0, h⟩ := thn_get h
  rw [thn_posK a0]
  have q0 := szStr_le x.fName r h0
  obtain ⟨a1, h⟩ := thn_get h
  rw [thn_posK a1]
  have q1 := szStr_le x.fValue (szStr x.fName r) a0
  simp only [id]
  omega
theorem stStep_cap (x : GStep) (k r : Int) (h0 : 0 ≤ r) (h : 0 ≤ szStep x r) : (stStep x k).2 ≤ k + 32 + 32 * (r - szStep x r) := by
  simp only [stStep]
  unfold szStep at h ⊢
  obtain ⟨a0, h⟩ := thn_get h
  rw [thn_posK a0]
  have q0 := szStr_le x.fName r h0
  obtain ⟨a1, h⟩ := thn_get h
  rw [thn_posK a1]
  have q1 := mkL_cap szTest_le stTest_cap x.fTests (k + 1) (szStr x.fName r) a0 a1
  simp only [id]
  omega
def inPath (x : GPath) (k : Int) : Int := (mkL stStep x.fSteps (k + 1 + 1)).2
theorem inPath_cap (x : GPath) (k r : Int) (h0 : 0 ≤ r) (h : 0 ≤ szPath x r) : inPath x k ≤ k + 2 + 32 * (r - szPath x r) := by
  unfold inPath
  unfold szPath at h ⊢
  obtain ⟨a0, h⟩ := thn_get h
  rw [thn_posK a0]
  have q0 := mkL_cap szStep_le stStep_cap x.fSteps (k + 1 + 1) r h0 a0
  simp only [id]
  omega
def tpPath (x : GPath) (k : Int) : Unit × Int := ((), (mkL stStep x.fSteps k).2)
theorem stExpr_cap (x : GExpr) (k r : Int) (h0 : 0 ≤ r) (h : 0 ≤ szExpr x r) : (stExpr x k).2 ≤ k + 32 + 32 * (r - szExpr x r) := by
  rw [stExpr_eq]; simp only
  rw [szExpr_eq] at h ⊢
  obtain ⟨a0, h⟩ := thn_get h
  rw [thn_posK a0]
  have q0 := szStr_le x.fText r h0
  obtain ⟨a1, h⟩ := thn_get h
  rw [thn_posK a1]
  have q1 := inPath_cap x.fPath (k + 1 + 1 + 1) (szStr x.fText r) a0 a1
  simp only [inPath] at q1
  obtain ⟨a2, h⟩ := thn_get h
  rw [thn_posK a2]
  have q2 := mkL_capm szExpr_le x.fKids (fun y hy => stExpr_cap y) ((mkL stStep x.fPath.fSteps (k + 1 + 1 + 1 + 1 + 1)).2) (szPath x.fPath (szStr x.fText r)) a1 a2
  simp only [id]
  omega
termination_by SizeOf.sizeOf x
decreasing_by have := List.sizeOf_lt_of_mem hy; cases x; simp [GExpr.fKids] at *; omega
theorem stSchema_cap (x : GSchema) (k r : Int) (h0 : 0 ≤ r) (h : 0 ≤ szSchema x r) : (stSchema x k).2 ≤ k + 32 + 32 * (r - szSchema x r) := by
  rw [stSchema_eq]; simp only
  rw [szSchema_eq] at h ⊢
  obtain ⟨a0, h⟩ := thn_get h
  rw [thn_posK a0]
  have q0 := szStr_le x.fName r h0
  obtain ⟨a1, h⟩ := thn_get h
  rw [thn_posK a1]
  have q1 := inType_cap x.fType (k + 1 + 1) (szStr x.fName r) a0 a1
  simp only [inType] at q1
  obtain ⟨a2, h⟩ := thn_get h
  rw [thn_posK a2]
  have q2 := mkL_cap szStr_le stString_cap x.fKeys ((mkL stString x.fType.fNames ((mkL stRange x.fType.fRanges (k + 1 + 1 + 1)).2)).2 + 1 + 1) (szType x.fType (szStr x.fName r)) a1 a2
  obtain ⟨a3, h⟩ := thn_get h
  rw [thn_posK a3]
  have q3 := mkL_cap szStr_le stString_cap x.fUnique ((mkL stString x.fKeys ((mkL stString x.fType.fNames ((mkL stRange x.fType.fRanges (k + 1 + 1 + 1)).2)).2 + 1 + 1)).2) (szSl szStr x.fKeys (szType x.fType (szStr x.fName r))) a2 a3
  obtain ⟨a4, h⟩ := thn_get h
  rw [thn_posK a4]
  have q4 := szStr_le x.fDefault (szSl szStr x.fUnique (szSl szStr x.fKeys (szType x.fType (szStr x.fName r)))) a3
  obtain ⟨a5, h⟩ := thn_get h
  rw [thn_posK a5]
  have q5 := mkL_cap szExpr_le stExpr_cap x.fWhen ((mkL stString x.fUnique ((mkL stString x.fKeys ((mkL stString x.fType.fNames ((mkL stRange x.fType.fRanges (k + 1 + 1 + 1)).2)).2 + 1 + 1)).2)).2 + 1 + 1 + 1 + 1 + 1 + 1 + 1) (szStr x.fDefault (szSl szStr x.fUnique (szSl szStr x.fKeys (szType x.fType (szStr x.fName r))))) a4 a5
  obtain ⟨a6, h⟩ := thn_get h
  rw [thn_posK a6]
  have q6 := mkL_cap szExpr_le stExpr_cap x.fMust ((mkL stExpr x.fWhen ((mkL stString x.fUnique ((mkL stString x.fKeys ((mkL stString x.fType.fNames ((mkL stRange x.fType.fRanges (k + 1 + 1 + 1)).2)).2 + 1 + 1)).2)).2 + 1 + 1 + 1 + 1 + 1 + 1 + 1)).2) (szSl szExpr x.fWhen (szStr x.fDefault (szSl szStr x.fUnique (szSl szStr x.fKeys (szType x.fType (szStr x.fName r)))))) a5 a6
  obtain ⟨a7, h⟩ := thn_get h
  rw [thn_posK a7]
  have q7 := mkL_capm szSchema_le x.fKids (fun y hy => stSchema_cap y) ((mkL stExpr x.fMust ((mkL stExpr x.fWhen ((mkL stString x.fUnique ((mkL stString x.fKeys ((mkL stString x.fType.fNames ((mkL stRange x.fType.fRanges (k + 1 + 1 + 1)).2)).2 + 1 + 1)).2)).2 + 1 + 1 + 1 + 1 + 1 + 1 + 1)).2)).2) (szSl szExpr x.fMust (szSl szExpr x.fWhen (szStr x.fDefault (szSl szStr x.fUnique (szSl szStr x.fKeys (szType x.fType (szStr x.fName r))))))) a6 a7
  simp only [id]
  omega
termination_by SizeOf.sizeOf x
decreasing_by have := List.sizeOf_lt_of_mem hy; cases x; simp [GSchema.fKids] at *; omega
theorem stNode_cap (x : GNode) (k r : Int) (h0 : 0 ≤ r) (h : 0 ≤ szNode x r) : (stNode x k).2 ≤ k + 32 + 32 * (r - szNode x r) := by
  rw [stNode_eq]; simp only
  rw [szNode_eq] at h ⊢
  obtain ⟨a0, h⟩ := thn_get h
  rw [thn_posK a0]
  have q0 := szStr_le x.fName r h0
  obtain ⟨a1, h⟩ := thn_get h
  rw [thn_posK a1]
  have q1 := szStr_le x.fValue (szStr x.fName r) a0
  obtain ⟨a2, h⟩ := thn_get h
  rw [thn_posK a2]
  have q2 := mkL_capm szNode_le x.fKids (fun y hy => stNode_cap y) (k + 1 + 1) (szStr x.fValue (szStr x.fName r)) a1 a2
  simp only [id]
  omega
termination_by SizeOf.sizeOf x
decreasing_by have := List.sizeOf_lt_of_mem hy; cases x; simp [GNode.fKids] at *; omega
end Go.Dt
namespace Go.Ab
end Go.Ab
