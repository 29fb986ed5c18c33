/-
  Part of a proof: Cu1.
-/
import Derived.Test.YtmdbmmmlccipdaaGreatDoorG35
import Derived.Test.YtmdbmmmlccipdaaGreatDoorG37
import Derived.Test.YtmdbmmmlccipdaaGreatDoorG39
set_option linter.unusedSimpArgs false
set_option linter.unusedVariables false
namespace Go.Proofs.YtmdbmmmlccipdaaGreatDoor
open Go.Ab Go.Dt
set_option maxRecDepth 20000
set_option maxHeartbeats 4000000
theorem strTail (cs : List Str) : List.drop (Int.toNat 1) (List.take cs.length (cs.map AV.str)) = (cs.drop 1).map AV.str := by
  rw [List.take_of_length_le (by simp), List.map_drop]; try rfl
attribute [local go_sem] frzL_str encSchemaM_frz encNodeM_frz schAll schOne nms_idx schF nodF strTail
instance iCopyNode_1 (x : GNode) : Ctr lim Tryz.prog 91 [] [.sl false 3 [.agg [.str x.fName, .str x.fValue, .sl false 3 (x.fKids.map (encNode false))]]] (.sl true 3 [encNode true x]) [] True := by
  have := iCopyNodes_i [x]
  rw [show List.map (encNode false) [x] = [.agg [.str x.fName, .str x.fValue, .sl false 3 (x.fKids.map (encNode false))]] by rw [List.map_cons, List.map_nil, encNode_eq], show List.map (encNode true) [x] = [encNode true x] from rfl] at this
  exact this
theorem iCut_n : ∀ (n : Nat) (s : List GSchema) (l : List GNode) (cs : List Str), Ctr lim Tryz.prog 55 [] [.sl false 19 (s.map (encSchema false)), .sl false 3 (l.map (encNode false)), .sl false 1 (cs.map AV.str)] (.sl true 3 ((l.flatMap (cutX cs s)).map (encNode true))) [] (cs.length < n ∧ wtS s ≤ 1048576 ∧ ∀ x ∈ l, okX (dk s) x)
  | 0, _, _, _ => ⟨en55, fun h => absurd h.1 (Nat.not_lt_zero _)⟩
  | n + 1, s, l, cs => by
    have ih1 : ∀ (s : List GSchema) (x : GNode) (cs : List Str), Ctr lim Tryz.prog 55 [] [.sl false 19 (s.map (encSchema false)), .sl false 3 [.agg [.str x.fName, .str x.fValue, .sl false 3 (x.fKids.map (encNode false))]], .sl false 1 (cs.map AV.str)] (.sl true 3 ((cutX cs s x).map (encNode true))) [] (cs.length < n ∧ wtS s ≤ 1048576 ∧ okX (dk s) x) := fun s x cs => by
      have := iCut_n n s [x] cs
      rw [show List.map (encNode false) [x] = [.agg [.str x.fName, .str x.fValue, .sl false 3 (x.fKids.map (encNode false))]] by rw [List.map_cons, List.map_nil, encNode_eq], List.flatMap_cons, List.flatMap_nil, List.append_nil] at this
      exact ⟨en55, fun h => this.out ⟨h.1, h.2.1, fun y hy => by rw [List.mem_singleton.1 hy]; exact h.2.2⟩⟩
    refine Ctr.of_body en55 Tryz.func55 rfl rfl fun hp => (?_); rw [Tryz.ntmps55]
    have gOn := GrOn.on
    obtain ⟨hs, h1, h3⟩ := hp
    have hc := cnt_wtS s
    refine AW.fact 1 fun hf => ?_
    simp (disch := omega) only [go_sem] at hf
    (refine vK ?_; with_reducible repeat' first | exact Le.l | refine Sw ?_ ?_ | intro h)
    (refine AW.i rfl (fun h => ?_) (fun h => ?_) <;> try simp only [hC, reduceCtorEq] at h)
    · (refine vU ?_; with_reducible repeat' first | exact Le.l | refine Sw ?_ ?_ | intro h)
      rw [show cs = [] from List.length_eq_zero_iff.1 (by omega), cut_nil]
    have h0 := h
    clear h
    (refine vK ?_; with_reducible repeat' first | exact Le.l | refine Sw ?_ ?_ | intro h)
    refine AW.loopV [7, 23] [0, 2, 21, 22] (fun m xs o => ∃ k : Nat, xs = [.sl true 3 (((l.take k).flatMap (cutX cs s)).map (encNode true)), .v (.int .i64 k)] ∧ o = [] ∧ m = l.length - k ∧ k ≤ l.length) l.length [] trivial ⟨0, ?_, rfl, rfl, ?_⟩ ?_
    · rfl
    · omega
    rintro m xs o ⟨k, rfl, rfl, rfl, hk⟩
    have hlen := flat_take_le (cutX_le cs s) l k
    (refine vK ?_; with_reducible repeat' first | exact Le.l | refine Sw ?_ ?_ | intro h)
    (refine AW.i rfl (fun h => ?_) (fun h => ?_) <;> try simp only [hC, reduceCtorEq] at h)
    · have hlk := h
      have hx := h3 _ (at_mem h)
      have hfs := flat_step (f := cutX cs s) h
      clear h
      (refine vK ?_; with_reducible repeat' first | exact Le.l | refine Sw ?_ ?_ | intro h)
      (refine AW.i rfl (fun h => ?_) (fun h => ?_) <;> try simp only [hC, reduceCtorEq] at h)
      · (refine vU ?_; with_reducible repeat' first | exact Le.l | refine Sw ?_ ?_ | intro h)
        exact ⟨_, [_, _], _, by omega, ⟨k + 1, by rw [hfs, cutX_ne h0 h, List.append_nil], rfl, rfl, by omega⟩, rfl, by simp (maxSteps := 2000000) (disch := omega) only [go_sem]⟩
      have hnm := h
      clear h
      have hx0 := hx.1
      have hnp := dk_wt _ _ (okX_at hx).2
      rename Nat => b1
      haveI fz : ∀ (sz : Nat) (x : AV) (l : List AV) (C : List Nat) (K : AV → List Nat → Prop), Rl (bsK sz (x :: l) C (K := ⟨K⟩)) (K (.sl false sz (AV.frzL (x :: l))) C) := fun _ _ _ _ _ => ⟨.inr⟩
      (refine vK ?_; with_reducible repeat' first | exact Le.l | refine Sw ?_ ?_ | intro h)
      rename Nat => b2
      (refine AW.i rfl (fun h => ?_) (fun h => ?_) <;> try simp only [hC, reduceCtorEq] at h)
      · (refine vU ?_; with_reducible repeat' first | exact Le.l | refine Sw ?_ ?_ | intro h)
        exact ⟨_, [_, _], _, by omega, ⟨k + 1, by rw [hfs, cutX_one h hnm, List.map_append, List.map_cons, List.map_nil, encNode_eq], rfl, rfl, by omega⟩, rfl, by simp (maxSteps := 2000000) (disch := omega) only [go_sem]⟩
      have h1' := h
      clear h
      (refine vK ?_; with_reducible repeat' first | exact Le.l | refine Sw ?_ ?_ | intro h)
      (refine AW.i rfl (fun h => ?_) (fun h => ?_) <;> try simp only [hC, reduceCtorEq] at h)
      · (refine vU ?_; with_reducible repeat' first | exact Le.l | refine Sw ?_ ?_ | intro h)
        exact ⟨_, [_, _], _, by omega, ⟨k + 1, by rw [hfs, cutX_leaf h0 h1' hnm (by omega), List.append_nil], rfl, rfl, by omega⟩, rfl, by simp (maxSteps := 2000000) (disch := omega) only [go_sem]⟩
      have hkd : (at_ (dk s) (idx (nmP (at_ l k).fName) (dk s)).toNat).fKind = 1 ∨ (at_ (dk s) (idx (nmP (at_ l k).fName) (dk s)).toNat).fKind = 2 := by omega
      have hkk := (okN_kids hx.2 (by omega)).2.1
      clear h
      (refine vK ?_; with_reducible repeat' first | exact Le.l | refine Sw ?_ ?_ | intro h)
      refine AW.fact 59 fun hf2 => ?_
      simp (disch := omega) only [go_sem] at hf2
      refine AW.loopV [12, 61] [0, 2, 7, 9, 10, 21, 22, 23, 59, 60] (fun m xs o => ∃ j : Nat, xs = [.sl true 3 (((((at_ l k).fKids.take j).flatMap (cutK (at_ (dk s) (idx (nmP (at_ l k).fName) (dk s)).toNat) (cs.drop 1)))).map (encNode true)), .v (.int .i64 j)] ∧ o = [(b2, some [.v (.int .i64 (at_ (dk s) (idx (nmP (at_ l k).fName) (dk s)).toNat).fKind), .str (at_ (dk s) (idx (nmP (at_ l k).fName) (dk s)).toNat).fName, .v (.int .i64 (at_ (dk s) (idx (nmP (at_ l k).fName) (dk s)).toNat).fType.fKind), .sl false 2 ((at_ (dk s) (idx (nmP (at_ l k).fName) (dk s)).toNat).fType.fRanges.map (encRange false)), .sl false 1 ((at_ (dk s) (idx (nmP (at_ l k).fName) (dk s)).toNat).fType.fNames.map AV.str), .str (at_ (dk s) (idx (nmP (at_ l k).fName) (dk s)).toNat).fType.fPattern, .str (at_ (dk s) (idx (nmP (at_ l k).fName) (dk s)).toNat).fType.fPath, .sl false 1 ((at_ (dk s) (idx (nmP (at_ l k).fName) (dk s)).toNat).fKeys.map AV.str), .sl false 1 ((at_ (dk s) (idx (nmP (at_ l k).fName) (dk s)).toNat).fUnique.map AV.str), .str (at_ (dk s) (idx (nmP (at_ l k).fName) (dk s)).toNat).fDefault, .v (.bool (at_ (dk s) (idx (nmP (at_ l k).fName) (dk s)).toNat).fGiven), .v (.bool (at_ (dk s) (idx (nmP (at_ l k).fName) (dk s)).toNat).fNeeded), .v (.bool (at_ (dk s) (idx (nmP (at_ l k).fName) (dk s)).toNat).fPresent), .v (.bool (at_ (dk s) (idx (nmP (at_ l k).fName) (dk s)).toNat).fFixed), .v (.int .i64 (at_ (dk s) (idx (nmP (at_ l k).fName) (dk s)).toNat).fMin), .v (.int .i64 (at_ (dk s) (idx (nmP (at_ l k).fName) (dk s)).toNat).fMax), .sl false 7 ((at_ (dk s) (idx (nmP (at_ l k).fName) (dk s)).toNat).fWhen.map (encExpr false)), .sl false 7 ((at_ (dk s) (idx (nmP (at_ l k).fName) (dk s)).toNat).fMust.map (encExpr false)), .sl false 19 ((at_ (dk s) (idx (nmP (at_ l k).fName) (dk s)).toNat).fKids.map (encSchema false))]), (b1, some [.str (at_ l k).fName, .str (at_ l k).fValue, .sl false 3 ((at_ l k).fKids.map (encNode false))])] ∧ m = (at_ l k).fKids.length - j ∧ j ≤ (at_ l k).fKids.length) (at_ l k).fKids.length [(b2, some [.v (.int .i64 (at_ (dk s) (idx (nmP (at_ l k).fName) (dk s)).toNat).fKind), .str (at_ (dk s) (idx (nmP (at_ l k).fName) (dk s)).toNat).fName, .v (.int .i64 (at_ (dk s) (idx (nmP (at_ l k).fName) (dk s)).toNat).fType.fKind), .sl false 2 ((at_ (dk s) (idx (nmP (at_ l k).fName) (dk s)).toNat).fType.fRanges.map (encRange false)), .sl false 1 ((at_ (dk s) (idx (nmP (at_ l k).fName) (dk s)).toNat).fType.fNames.map AV.str), .str (at_ (dk s) (idx (nmP (at_ l k).fName) (dk s)).toNat).fType.fPattern, .str (at_ (dk s) (idx (nmP (at_ l k).fName) (dk s)).toNat).fType.fPath, .sl false 1 ((at_ (dk s) (idx (nmP (at_ l k).fName) (dk s)).toNat).fKeys.map AV.str), .sl false 1 ((at_ (dk s) (idx (nmP (at_ l k).fName) (dk s)).toNat).fUnique.map AV.str), .str (at_ (dk s) (idx (nmP (at_ l k).fName) (dk s)).toNat).fDefault, .v (.bool (at_ (dk s) (idx (nmP (at_ l k).fName) (dk s)).toNat).fGiven), .v (.bool (at_ (dk s) (idx (nmP (at_ l k).fName) (dk s)).toNat).fNeeded), .v (.bool (at_ (dk s) (idx (nmP (at_ l k).fName) (dk s)).toNat).fPresent), .v (.bool (at_ (dk s) (idx (nmP (at_ l k).fName) (dk s)).toNat).fFixed), .v (.int .i64 (at_ (dk s) (idx (nmP (at_ l k).fName) (dk s)).toNat).fMin), .v (.int .i64 (at_ (dk s) (idx (nmP (at_ l k).fName) (dk s)).toNat).fMax), .sl false 7 ((at_ (dk s) (idx (nmP (at_ l k).fName) (dk s)).toNat).fWhen.map (encExpr false)), .sl false 7 ((at_ (dk s) (idx (nmP (at_ l k).fName) (dk s)).toNat).fMust.map (encExpr false)), .sl false 19 ((at_ (dk s) (idx (nmP (at_ l k).fName) (dk s)).toNat).fKids.map (encSchema false))]), (b1, some [.str (at_ l k).fName, .str (at_ l k).fValue, .sl false 3 ((at_ l k).fKids.map (encNode false))])] gO ⟨0, rfl, rfl, rfl, by omega⟩ ?_
      rintro m xs o ⟨j, rfl, rfl, rfl, hj⟩
      have hlen2 := flat_take_le (cutK_le (at_ (dk s) (idx (nmP (at_ l k).fName) (dk s)).toNat) (cs.drop 1)) (at_ l k).fKids j
      (refine vK ?_; with_reducible repeat' first | exact Le.l | refine Sw ?_ ?_ | intro h)
      (refine AW.i rfl (fun h => ?_) (fun h => ?_) <;> try simp only [hC, reduceCtorEq] at h)
      · have hks := flat_step (f := cutK (at_ (dk s) (idx (nmP (at_ l k).fName) (dk s)).toNat) (cs.drop 1)) h
        have hox := okL_mem hkk _ (at_mem h)
        have hjk := h
        clear h
        have hc1 := cutX_le (cs.drop 1) (at_ (dk s) (idx (nmP (at_ l k).fName) (dk s)).toNat).fKids (at_ (at_ l k).fKids j)
        have hcs : (cs.drop 1).length < n := by rw [List.length_drop]; omega
        (refine vU ?_; with_reducible repeat' first | exact Le.l | refine Sw ?_ ?_ | intro h)
        · exact ⟨_, [_, _], _, by omega, ⟨j + 1, by rw [hks, cutK, if_pos h, List.map_append, List.map_cons, List.map_nil, encNode_eq], rfl, rfl, by omega⟩, rfl, by simp (maxSteps := 2000000) (disch := omega) only [go_sem]⟩
        · exact ⟨_, [_, _], _, by omega, ⟨j + 1, by rw [hks, cutK, if_neg (by rw [h]; simp), List.map_append], rfl, rfl, by omega⟩, rfl, by simp (maxSteps := 2000000) (disch := omega) only [go_sem]⟩
      clear fz
      have hj2 : (at_ l k).fKids.take j = (at_ l k).fKids := List.take_of_length_le (by omega)
      clear h
      rw [hj2]
      have hcd := cutX_kids h0 h1' hnm hkd
      (refine vU ?_; with_reducible repeat' first | exact Le.l | refine Sw ?_ ?_ | intro h)
      · rename_i h'
        exact ⟨_, [_, _], _, by omega, ⟨k + 1, by rw [hfs, hcd, if_pos ⟨h'.1, h'.2, List.length_eq_zero_iff.1 (by omega)⟩, List.append_nil], rfl, rfl, by omega⟩, rfl, by simp (maxSteps := 2000000) (disch := omega) only [go_sem]⟩
      · exact ⟨_, [_, _], _, by omega, ⟨k + 1, by rw [hfs, hcd, if_neg (fun c => h (by rw [c.2.2]; try rfl)), List.map_append, List.map_cons, List.map_nil, encNode_eq]; try rfl, rfl, rfl, by omega⟩, rfl, by simp (maxSteps := 2000000) (disch := omega) only [go_sem]⟩
      · rename_i h'
        exact ⟨_, [_, _], _, by omega, ⟨k + 1, by rw [hfs, hcd, if_neg (fun c => by have := h' c.1; rw [c.2.1] at this; cases this), List.map_append, List.map_cons, List.map_nil, encNode_eq]; try rfl, rfl, rfl, by omega⟩, rfl, by simp (maxSteps := 2000000) (disch := omega) only [go_sem]⟩
    · (refine vU ?_; with_reducible repeat' first | exact Le.l | refine Sw ?_ ?_ | intro h)
      rw [List.take_of_length_le (by omega)]

end Go.Proofs.YtmdbmmmlccipdaaGreatDoor
