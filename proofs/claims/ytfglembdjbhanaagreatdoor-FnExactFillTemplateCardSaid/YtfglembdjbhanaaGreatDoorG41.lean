/-
  Part of a proof: MkZ.
-/
import Derived.Test.YtfglembdjbhanaaGreatDoorG14
import Derived.Test.YtfglembdjbhanaaGreatDoorG19
import Derived.Test.YtfglembdjbhanaaGreatDoorG20
import Derived.Test.YtfglembdjbhanaaGreatDoorG38
set_option linter.unusedSimpArgs false
set_option linter.unusedVariables false
namespace Go.Proofs.YtfglembdjbhanaaGreatDoor
open Go.Ab Go.Dt
set_option maxRecDepth 20000
set_option maxHeartbeats 4000000
instance markRangeS_i (l : List GRange) (k : Int) : BCtr lim Tryz.prog 102 2 (l.map (encRange true)) [.v (.int .i64 k)] (.v (.int .i64 (mkL stRange l k).2)) ((mkL stRange l k).1.map (encRange true)) (0 ≤ k ∧ (mkL stRange l k).2 ≤ 1099511627776) := by
  refine BCtr.of en102 (fun b => ?_) (fun e => ?_) (by simp [mkL_len]) (map_elem (fun _ => rfl) _) (map_elem (fun _ => rfl) _)
  · simp only [List.length_map]
    refine Ctr.of_body en102 Tryz.func102 rfl rfl fun hp => (?_); rw [Tryz.ntmps102]
    have hup := mkL_up stRange_ge l k
    (refine vU ?_; with_reducible repeat' first | exact Le.l | refine Sw ?_ ?_ | intro h)
    refine AW.loopV [1, 5] [0] (fun m xs o => ∃ i : Nat, xs = [.v (.int .i64 (mkc stRange l k i)), .v (.int .i64 i)] ∧ o = [(b, some (((mkp stRange l k i).map (encRange true)).flatMap AV.cells))] ∧ m = l.length - i ∧ i ≤ l.length) l.length [(b, some ((l.map (encRange true)).flatMap AV.cells))] (subO_one rfl) ⟨0, rfl, ?_, rfl, ?_⟩ ?_
    · rw [mkp_zero]
    · omega
    rintro m xs o ⟨i, rfl, rfl, rfl, hi⟩
    have h1 := mkc_ge (up_ge stRange_ge) l k i
    have h2 := mkc_le (up_ge stRange_ge) l k i
    (refine vK ?_; with_reducible repeat' first | exact Le.l | refine Sw ?_ ?_ | intro h)
    (refine AW.i rfl (fun h => ?_) (fun h => ?_) <;> try simp only [hC, reduceCtorEq] at h)
    · have h3 := mkc_le (up_ge stRange_ge) l k (i + 1)
      rw [mkd_at h]
      rw [mkc_step h] at h3
      have hpre := mkb_len (e := encRange true) (f := stRange) (sz := 2) (k := k) (fun _ => rfl) hi
      have hpost : (((l.drop (i + 1)).map (encRange true)).flatMap AV.cells).length = (l.length - (i + 1)) * 2 := by
        rw [fm_len (e := encRange true) (sz := 2) (fun _ => rfl), List.length_drop]
      have hnx := mkd_next (e := encRange true) (f := stRange) (k := k) h
      generalize mkb (encRange true) stRange l k i = pre at hpre hnx ⊢
      generalize ((l.drop (i + 1)).map (encRange true)).flatMap AV.cells = post at hnx hpost ⊢
      generalize e1 : at_ l i = x at *
      generalize e2 : mkc stRange l k i = c at *
      simp only [stRange] at h3
      (refine vK ?_; with_reducible repeat' first | exact Le.l | refine Sw ?_ ?_ | intro h)
      exact ⟨_, [_, _], _, by omega, ⟨i + 1, by rw [mkc_step h, e1, e2]; rfl, rfl, rfl, by omega⟩, rfl, subO_one hnx⟩
    · rw [mkc_end h, mkp_end h]
      all_goals exact uU
  · have : l = [] := by simpa using e
    subst this
    refine ⟨?_, rfl⟩
    refine Ctr.of_body en102 Tryz.func102 rfl rfl fun hp => (?_); rw [Tryz.ntmps102]
    (refine vU ?_; with_reducible repeat' first | exact Le.l | refine Sw ?_ ?_ | intro h)
    refine AW.loopV [] [0, 1, 5] (fun m xs o => xs = [] ∧ o = []) 0 [] trivial ⟨rfl, rfl⟩ ?_
    rintro m xs o ⟨rfl, rfl⟩
    (refine vU ?_; with_reducible repeat' first | exact Le.l | refine Sw ?_ ?_ | intro h)
    rfl
instance markParamS_i (l : List GParam) (k : Int) : BCtr lim Tryz.prog 68 6 (l.map (encParam true)) [.v (.int .i64 k)] (.v (.int .i64 (mkL stParam l k).2)) ((mkL stParam l k).1.map (encParam true)) (0 ≤ k ∧ (mkL stParam l k).2 ≤ 1099511627776) := by
  refine BCtr.of en68 (fun b => ?_) (fun e => ?_) (by simp [mkL_len]) (map_elem (fun _ => rfl) _) (map_elem (fun _ => rfl) _)
  · simp only [List.length_map]
    refine Ctr.of_body en68 Tryz.func68 rfl rfl fun hp => (?_); rw [Tryz.ntmps68]
    have hup := mkL_up stParam_ge l k
    (refine vU ?_; with_reducible repeat' first | exact Le.l | refine Sw ?_ ?_ | intro h)
    refine AW.loopW [1, 5] [0] (fun m xs o => ∃ i : Nat, xs = [.v (.int .i64 (mkc stParam l k i)), .v (.int .i64 i)] ∧ o = [(b, some (((mkp stParam l k i).map (encParam true)).flatMap AV.cells))] ∧ m = l.length - i ∧ i ≤ l.length) l.length [(b, some ((l.map (encParam true)).flatMap AV.cells))] (subO_one rfl) ⟨0, rfl, ?_, rfl, ?_⟩ ?_
    · rw [mkp_zero]
    · omega
    rintro m xs o ⟨i, rfl, rfl, rfl, hi⟩
    have h1 := mkc_ge (up_ge stParam_ge) l k i
    have h2 := mkc_le (up_ge stParam_ge) l k i
    (refine vK ?_; with_reducible repeat' first | exact Le.l | refine Sw ?_ ?_ | intro h)
    (refine AW.i rfl (fun h => ?_) (fun h => ?_) <;> try simp only [hC, reduceCtorEq] at h)
    · have h3 := mkc_le (up_ge stParam_ge) l k (i + 1)
      rw [mkd_at h]
      rw [mkc_step h] at h3
      have hpre := mkb_len (e := encParam true) (f := stParam) (sz := 6) (k := k) (fun _ => rfl) hi
      have hpost : (((l.drop (i + 1)).map (encParam true)).flatMap AV.cells).length = (l.length - (i + 1)) * 6 := by
        rw [fm_len (e := encParam true) (sz := 6) (fun _ => rfl), List.length_drop]
      have hnx := mkd_next (e := encParam true) (f := stParam) (k := k) h
      generalize mkb (encParam true) stParam l k i = pre at hpre hnx ⊢
      generalize ((l.drop (i + 1)).map (encParam true)).flatMap AV.cells = post at hnx hpost ⊢
      generalize e1 : at_ l i = x at *
      generalize e2 : mkc stParam l k i = c at *
      refine AW.imp (Imp.pinE (b := b) pre [_, _, _, _, _, _] post (O_eq _ _ _) fun hs => ?_)
      simp (maxSteps := 2000000) (disch := omega) only [go_sem]
      have g0 := mkL_up stRange_ge x.fType.fRanges (c + 1 + 1)
      have g1 := mkL_up stString_ge x.fType.fNames ((mkL stRange x.fType.fRanges (c + 1 + 1)).2)
      simp only [stParam] at h3
      (refine vK ?_; with_reducible repeat' first | exact Le.l | refine Sw ?_ ?_ | intro h)
      refine Imp.unpE (b := b) pre [_, _, _, _, _, _] post (O_eq _ _ _) ?_
      simp (maxSteps := 2000000) (disch := omega) only [go_sem]
      exact ⟨_, [_, _], _, by omega, ⟨i + 1, by rw [mkc_step h, e1, e2]; rfl, rfl, rfl, by omega⟩, rfl, subO_one hnx⟩
    · rw [mkc_end h, mkp_end h]
      all_goals exact uU
  · have : l = [] := by simpa using e
    subst this
    refine ⟨?_, rfl⟩
    refine Ctr.of_body en68 Tryz.func68 rfl rfl fun hp => (?_); rw [Tryz.ntmps68]
    (refine vU ?_; with_reducible repeat' first | exact Le.l | refine Sw ?_ ?_ | intro h)
    refine AW.loopV [] [0, 1, 5] (fun m xs o => xs = [] ∧ o = []) 0 [] trivial ⟨rfl, rfl⟩ ?_
    rintro m xs o ⟨rfl, rfl⟩
    (refine vU ?_; with_reducible repeat' first | exact Le.l | refine Sw ?_ ?_ | intro h)
    rfl
theorem markNodeS_n : ∀ (n : Nat) (l : List GNode) (k : Int), BCtr lim Tryz.prog 24 3 (l.map (encNode true)) [.v (.int .i64 k)] (.v (.int .i64 (mkL stNode l k).2)) ((mkL stNode l k).1.map (encNode true)) (SizeOf.sizeOf l < n ∧ 0 ≤ k ∧ (mkL stNode l k).2 ≤ 1099511627776)
  | 0, l, k => ⟨en24, fun h => absurd h.1 (Nat.not_lt_zero _)⟩
  | n + 1, l, k => by
    have ih := markNodeS_n n
    refine BCtr.of en24 (fun b => ?_) (fun e => ?_) (by simp [mkL_len]) (map_elem (fun x => by rw [encNode_eq]; rfl) _) (map_elem (fun x => by rw [encNode_eq]; rfl) _)
    · simp only [List.length_map]
      refine Ctr.of_body en24 Tryz.func24 rfl rfl fun hp => (?_); rw [Tryz.ntmps24]
      have hup := mkL_up stNode_ge l k
      (refine vU ?_; with_reducible repeat' first | exact Le.l | refine Sw ?_ ?_ | intro h)
      refine AW.loopW [1, 5] [0] (fun m xs o => ∃ i : Nat, xs = [.v (.int .i64 (mkc stNode l k i)), .v (.int .i64 i)] ∧ o = [(b, some (((mkp stNode l k i).map (encNode true)).flatMap AV.cells))] ∧ m = l.length - i ∧ i ≤ l.length) l.length [(b, some ((l.map (encNode true)).flatMap AV.cells))] (subO_one rfl) ⟨0, rfl, ?_, rfl, ?_⟩ ?_
      · rw [mkp_zero]
      · omega
      rintro m xs o ⟨i, rfl, rfl, rfl, hi⟩
      have h1 := mkc_ge (up_ge stNode_ge) l k i
      have h2 := mkc_le (up_ge stNode_ge) l k i
      (refine vK ?_; with_reducible repeat' first | exact Le.l | refine Sw ?_ ?_ | intro h)
      (refine AW.i rfl (fun h => ?_) (fun h => ?_) <;> try simp only [hC, reduceCtorEq] at h)
      · have h3 := mkc_le (up_ge stNode_ge) l k (i + 1)
        rw [mkd_at h]
        rw [mkc_step h] at h3
        have hpre := mkb_len (e := encNode true) (f := stNode) (sz := 3) (k := k) (fun x => by rw [encNode_eq]; rfl) hi
        have hpost : (((l.drop (i + 1)).map (encNode true)).flatMap AV.cells).length = (l.length - (i + 1)) * 3 := by
          rw [fm_len (e := encNode true) (sz := 3) (fun x => by rw [encNode_eq]; rfl), List.length_drop]
        have hnx := mkd_next (e := encNode true) (f := stNode) (k := k) h
        have hkk : SizeOf.sizeOf (at_ l i).fKids < n := by have := GNode.kids_lt (at_mem h); omega
        rw [stNode_eq] at hnx
        generalize mkb (encNode true) stNode l k i = pre at hpre hnx ⊢
        generalize ((l.drop (i + 1)).map (encNode true)).flatMap AV.cells = post at hnx hpost ⊢
        generalize e1 : at_ l i = x at *
        generalize e2 : mkc stNode l k i = c at *
        rw [encNode_eq]
        simp only [encNode_eq] at hnx
        refine AW.imp (Imp.pinE (b := b) pre [_, _, _] post (O_eq _ _ _) fun hs => ?_)
        simp (maxSteps := 2000000) (disch := omega) only [go_sem]
        have g0 := mkL_up stNode_ge x.fKids (c + 1 + 1)
        rw [stNode_eq] at h3; simp only at h3
        (refine vK ?_; with_reducible repeat' first | exact Le.l | refine Sw ?_ ?_ | intro h)
        refine Imp.unpE (b := b) pre [_, _, _] post (O_eq _ _ _) ?_
        simp (maxSteps := 2000000) (disch := omega) only [go_sem]
        exact ⟨_, [_, _], _, by omega, ⟨i + 1, by rw [mkc_step h, e1, e2, stNode_eq], rfl, rfl, by omega⟩, rfl, subO_one hnx⟩
      · rw [mkc_end h, mkp_end h]
        all_goals exact uU
    · have : l = [] := by simpa using e
      subst this
      refine ⟨?_, rfl⟩
      refine Ctr.of_body en24 Tryz.func24 rfl rfl fun hp => (?_); rw [Tryz.ntmps24]
      (refine vU ?_; with_reducible repeat' first | exact Le.l | refine Sw ?_ ?_ | intro h)
      refine AW.loopV [] [0, 1, 5] (fun m xs o => xs = [] ∧ o = []) 0 [] trivial ⟨rfl, rfl⟩ ?_
      rintro m xs o ⟨rfl, rfl⟩
      (refine vU ?_; with_reducible repeat' first | exact Le.l | refine Sw ?_ ?_ | intro h)
      rfl
instance markNodeS_i (l : List GNode) (k : Int) : BCtr lim Tryz.prog 24 3 (l.map (encNode true)) [.v (.int .i64 k)] (.v (.int .i64 (mkL stNode l k).2)) ((mkL stNode l k).1.map (encNode true)) (0 ≤ k ∧ (mkL stNode l k).2 ≤ 1099511627776) := ⟨en24, fun h => (markNodeS_n (SizeOf.sizeOf l + 1) l k).out ⟨Nat.lt_succ_self _, h⟩⟩
theorem heldNodeS_n : ∀ (n : Nat) (l : List GNode) (k : Int), Ctr lim Tryz.prog 25 [] [.sl false 3 ((mkL stNode l k).1.map (encNode false)), .v (.int .i64 k)] (.v (.int .i64 (mkL stNode l k).2)) [] (SizeOf.sizeOf l < n ∧ 0 ≤ k ∧ (mkL stNode l k).2 ≤ 1099511627776)
  | 0, l, k => ⟨en25, fun h => absurd h.1 (Nat.not_lt_zero _)⟩
  | n + 1, l, k => by
    have ih := heldNodeS_n n
    refine Ctr.of_body en25 Tryz.func25 rfl rfl fun hp => (?_); rw [Tryz.ntmps25]
    have hup := mkL_up stNode_ge l k
    have hml := mkL_len (f := stNode) l k
    (refine vU ?_; with_reducible repeat' first | exact Le.l | refine Sw ?_ ?_ | intro h)
    refine AW.loopV [1, 5] [0] (fun m xs o => ∃ i : Nat, xs = [.v (.int .i64 (mkc stNode l k i)), .v (.int .i64 i)] ∧ o = [] ∧ m = l.length - i ∧ i ≤ l.length) l.length [] trivial ⟨0, rfl, rfl, rfl, ?_⟩ ?_
    · omega
    rintro m xs o ⟨i, rfl, rfl, rfl, hi⟩
    have h1 := mkc_ge (up_ge stNode_ge) l k i
    have h2 := mkc_le (up_ge stNode_ge) l k i
    (refine vK ?_; with_reducible repeat' first | exact Le.l | refine Sw ?_ ?_ | intro h)
    (refine AW.i rfl (fun h => ?_) (fun h => ?_) <;> try simp only [hC, reduceCtorEq] at h)
    · rw [hml] at h
      have h3 := mkc_le (up_ge stNode_ge) l k (i + 1)
      have hat := mkL_at (f := stNode) (k := k) h
      rw [mkc_step h] at h3
      have hlt := h
      have hkk : SizeOf.sizeOf (at_ l i).fKids < n := by have := GNode.kids_lt (at_mem h); omega
      rw [stNode_eq] at h3 hat
      simp only at h3 hat
      have g0 := mkL_up stNode_ge (at_ l i).fKids ((mkc stNode l k i) + 1 + 1)
      have hat0 : (at_ (mkL stNode l k).1 i).fName = mkT ((mkc stNode l k i)) := by rw [hat]; rfl
      have hat1 : (at_ (mkL stNode l k).1 i).fValue = mkT ((mkc stNode l k i) + 1) := by rw [hat]; rfl
      have hat2 : (at_ (mkL stNode l k).1 i).fKids = (mkL stNode (at_ l i).fKids ((mkc stNode l k i) + 1 + 1)).1 := by rw [hat]; rfl
      (repeat' first | (with_reducible first | refine Z ?_ | refine Y ?_ | (refine hK _ _ ?_; clear hK K) | refine And.intro ?_ ?_ | exact Ct | intro (K : _ → _ → Prop) hK | (refine gI fun hg => ?_; try simp only [hC, reduceCtorEq] at hg; try simp only [hg])) | (refine AW.i rfl (fun h => ?_) (fun h => ?_) <;> try simp only [hC, reduceCtorEq] at h) | ((with_reducible refine E ?_; repeat refine Y ?_); refine eF rfl ?_) | simp (disch := omega) only [go_sem, hat0, hat1, hat2, beq_self_eq_true, bne_self_eq_false, Bool.not_true] | (with_reducible intro hg; try simp only [hC, reduceCtorEq] at hg) | exact Cl | fail)
      exact ⟨_, [_, _], [], by omega, ⟨i + 1, by rw [mkc_step hlt, stNode_eq], rfl, rfl, by omega⟩, rfl, trivial⟩
    · rw [hml] at h
      rw [mkc_end h]
      all_goals exact uU
instance heldNodeS_i (l : List GNode) (k : Int) : Ctr lim Tryz.prog 25 [] [.sl false 3 ((mkL stNode l k).1.map (encNode false)), .v (.int .i64 k)] (.v (.int .i64 (mkL stNode l k).2)) [] (0 ≤ k ∧ (mkL stNode l k).2 ≤ 1099511627776) := ⟨en25, fun h => (heldNodeS_n (SizeOf.sizeOf l + 1) l k).out ⟨Nat.lt_succ_self _, h⟩⟩
instance markTemplate_i (x : GTemplate) (k : Int) : ICtr lim Tryz.prog 22 true [.str x.fName, .sl true 6 (x.fParams.map (encParam true)), .sl true 3 (x.fBody.map (encNode true))] [.v (.int .i64 k)] (.v (.int .i64 (mkL stNode x.fBody (mkL stParam x.fParams k).2).2)) [.str x.fName, .sl true 6 ((mkL stParam x.fParams k).1.map (encParam true)), .sl true 3 ((mkL stNode x.fBody (mkL stParam x.fParams k).2).1.map (encNode true))] (0 ≤ k ∧ (mkL stNode x.fBody (mkL stParam x.fParams k).2).2 ≤ 1099511627776) := by
  refine ⟨en22, fun hp => InC.of_body Tryz.func22 rfl rfl rfl (fun hs => rfl) (fun hs => rfl) (fun hs => rfl) rfl fun hs => ?_⟩
  rw [Tryz.ntmps22]
  have g0 := mkL_up stParam_ge x.fParams k
  have g1 := mkL_up stNode_ge x.fBody (mkL stParam x.fParams k).2
  (refine bX ?_; with_reducible repeat' first | exact Le.l | refine Sw ?_ ?_ | intro h)
  refine AW.ret (EndsG.inp h rfl ?_)
  simp (maxSteps := 2000000) (disch := omega) only [go_sem]
instance markArgS_i (l : List GArg) (k : Int) : BCtr lim Tryz.prog 23 2 (l.map (encArg true)) [.v (.int .i64 k)] (.v (.int .i64 (mkL stArg l k).2)) ((mkL stArg l k).1.map (encArg true)) (0 ≤ k ∧ (mkL stArg l k).2 ≤ 1099511627776) := by
  refine BCtr.of en23 (fun b => ?_) (fun e => ?_) (by simp [mkL_len]) (map_elem (fun _ => rfl) _) (map_elem (fun _ => rfl) _)
  · simp only [List.length_map]
    refine Ctr.of_body en23 Tryz.func23 rfl rfl fun hp => (?_); rw [Tryz.ntmps23]
    have hup := mkL_up stArg_ge l k
    (refine vU ?_; with_reducible repeat' first | exact Le.l | refine Sw ?_ ?_ | intro h)
    refine AW.loopV [1, 5] [0] (fun m xs o => ∃ i : Nat, xs = [.v (.int .i64 (mkc stArg l k i)), .v (.int .i64 i)] ∧ o = [(b, some (((mkp stArg l k i).map (encArg true)).flatMap AV.cells))] ∧ m = l.length - i ∧ i ≤ l.length) l.length [(b, some ((l.map (encArg true)).flatMap AV.cells))] (subO_one rfl) ⟨0, rfl, ?_, rfl, ?_⟩ ?_
    · rw [mkp_zero]
    · omega
    rintro m xs o ⟨i, rfl, rfl, rfl, hi⟩
    have h1 := mkc_ge (up_ge stArg_ge) l k i
    have h2 := mkc_le (up_ge stArg_ge) l k i
    (refine vK ?_; with_reducible repeat' first | exact Le.l | refine Sw ?_ ?_ | intro h)
    (refine AW.i rfl (fun h => ?_) (fun h => ?_) <;> try simp only [hC, reduceCtorEq] at h)
    · have h3 := mkc_le (up_ge stArg_ge) l k (i + 1)
      rw [mkd_at h]
      rw [mkc_step h] at h3
      have hpre := mkb_len (e := encArg true) (f := stArg) (sz := 2) (k := k) (fun _ => rfl) hi
      have hpost : (((l.drop (i + 1)).map (encArg true)).flatMap AV.cells).length = (l.length - (i + 1)) * 2 := by
        rw [fm_len (e := encArg true) (sz := 2) (fun _ => rfl), List.length_drop]
      have hnx := mkd_next (e := encArg true) (f := stArg) (k := k) h
      generalize mkb (encArg true) stArg l k i = pre at hpre hnx ⊢
      generalize ((l.drop (i + 1)).map (encArg true)).flatMap AV.cells = post at hnx hpost ⊢
      generalize e1 : at_ l i = x at *
      generalize e2 : mkc stArg l k i = c at *
      simp only [stArg] at h3
      (refine vK ?_; with_reducible repeat' first | exact Le.l | refine Sw ?_ ?_ | intro h)
      exact ⟨_, [_, _], _, by omega, ⟨i + 1, by rw [mkc_step h, e1, e2]; rfl, rfl, rfl, by omega⟩, rfl, subO_one hnx⟩
    · rw [mkc_end h, mkp_end h]
      all_goals exact uU
  · have : l = [] := by simpa using e
    subst this
    refine ⟨?_, rfl⟩
    refine Ctr.of_body en23 Tryz.func23 rfl rfl fun hp => (?_); rw [Tryz.ntmps23]
    (refine vU ?_; with_reducible repeat' first | exact Le.l | refine Sw ?_ ?_ | intro h)
    refine AW.loopV [] [0, 1, 5] (fun m xs o => xs = [] ∧ o = []) 0 [] trivial ⟨rfl, rfl⟩ ?_
    rintro m xs o ⟨rfl, rfl⟩
    (refine vU ?_; with_reducible repeat' first | exact Le.l | refine Sw ?_ ?_ | intro h)
    rfl
end Go.Proofs.YtfglembdjbhanaaGreatDoor
