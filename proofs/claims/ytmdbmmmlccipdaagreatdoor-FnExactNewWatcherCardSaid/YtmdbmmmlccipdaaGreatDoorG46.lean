/-
  Part of a proof: ScD, ScE, Tr2, Tn4, Tn5, Ct2, Cu2, Rs6, AbAgg.
-/
import Derived.Test.YtmdbmmmlccipdaaGreatDoorG4
import Derived.Test.YtmdbmmmlccipdaaGreatDoorG17
import Derived.Test.YtmdbmmmlccipdaaGreatDoorG34
import Derived.Test.YtmdbmmmlccipdaaGreatDoorG37
import Derived.Test.YtmdbmmmlccipdaaGreatDoorG38
import Derived.Test.YtmdbmmmlccipdaaGreatDoorG39
import Derived.Test.YtmdbmmmlccipdaaGreatDoorG41
import Derived.Test.YtmdbmmmlccipdaaGreatDoorG42
import Derived.Test.YtmdbmmmlccipdaaGreatDoorG43
import Derived.Test.YtmdbmmmlccipdaaGreatDoorG45
set_option linter.unusedSimpArgs false
set_option linter.unusedVariables false
namespace Go.Proofs.YtmdbmmmlccipdaaGreatDoor
open Go.Ab Go.Dt
set_option maxRecDepth 20000
set_option maxHeartbeats 4000000
attribute [local go_sem] frzL_str encSchemaM_frz schAll schOne
theorem kT_own {l : List GSchema} {k : Nat} (h : k < l.length) (e : ¬ idx (nmP (at_ l k).fName) l = k) (kind : Int) (fr : Bool) (p : Nat) : kT l kind fr p = false := by
  rw [kT, own_no h e]; try rfl
theorem kT_dat {l : List GSchema} {k : Nat} (h : k < (dk l).length) (e : ¬ idx (nmP (at_ (dk l) k).fName) (dk l) = k) (kind : Int) (fr : Bool) (p : Nat) : kT l kind fr p = false := by
  rw [kT, own_no h e]; simp
theorem kT_kids {l : List GSchema} {k : Nat} {kind : Int} {fr : Bool} {p : Nat} (h : kS (l.drop k) kind fr p = false) (e : kS (l.drop k) kind fr p = kS l kind fr p) : kT l kind fr p = false := by
  rw [kT, ← e, h]; simp
theorem own_all {l : List GSchema} (h : ∀ k < l.length, idx (nmP (at_ l k).fName) l = k) : diffs (nmS l) = true := by
  have : ∀ n, n ≤ l.length → allTo (fun j => !cont ((nmS l).take j) (at_ (nmS l) j)) n = true := by
    intro n
    induction n with
    | zero => intro _; rfl
    | succ n ih =>
      intro hn
      exact allTo_step (ih (by omega)) (by rw [(own_iff (by omega)).1 (h n (by omega))]; try rfl)
  rw [diffs, nmS, List.length_map, ← nmS]
  exact this _ (Nat.le_refl _)
theorem kT_end {l : List GSchema} {kind : Int} {fr : Bool} {p : Nat} (h1 : ∀ k < l.length, idx (nmP (at_ l k).fName) l = k) (h2 : ∀ k < (dk l).length, idx (nmP (at_ (dk l) k).fName) (dk l) = k) (h3 : kS l kind fr p = true) : kT l kind fr p = (decide (p ≤ 8) || l.isEmpty) := by
  rw [kT, own_all h1, own_all h2, h3]; simp
theorem own_step {P : Nat → Prop} {k : Nat} (h : ∀ j < k, P j) (e : P k) : ∀ j < k + 1, P j := fun j hj => by
  rcases Nat.lt_or_ge j k with q | q
  · exact h j q
  · rw [show j = k by omega]; exact e
theorem sKids_n : ∀ (n : Nat) (l : List GSchema) (kind : Int) (fr : Bool) (p : Nat), Ctr lim Tryz.prog 112 [] [.sl false 19 (l.map (encSchema false)), .v (.int .i64 kind), .v (.bool fr), .v (.int .i64 p)] (.v (.bool (kT l kind fr p))) [] (SizeOf.sizeOf l < n ∧ wtS l ≤ 1048576 ∧ p + depS l ≤ 2097152)
  | 0, l, _, _, _ => ⟨en112, fun h => absurd h.1 (Nat.not_lt_zero _)⟩
  | n + 1, l, kind, fr, p => by
    have ih := sKids_n n
    refine Ctr.of_body en112 Tryz.func112 rfl rfl fun hp => (?_); rw [Tryz.ntmps112]
    have gOn := GrOn.on
    obtain ⟨hs, hb, hq⟩ := hp
    have hc := cnt_wtS l
    have hdl := dk_len l
    refine AW.fact 0 fun hf => ?_
    simp (disch := omega) only [go_sem] at hf
    (refine vU ?_; with_reducible repeat' first | exact Le.l | refine Sw ?_ ?_ | intro h)
    refine AW.loopV [10] [0, 1, 2, 3, 9] (fun m xs o => ∃ k : Nat, xs = [.v (.int .i64 k)] ∧ o = [] ∧ m = l.length - k ∧ k ≤ l.length ∧ (∀ j < k, idx (nmP (at_ l j).fName) l = j) ∧ kS (l.drop k) kind fr p = kS l kind fr p) l.length [] trivial ⟨0, ?_, rfl, rfl, ?_, ?_, rfl⟩ ?_
    · rfl
    · omega
    · intro j hj; omega
    rintro m xs o ⟨k, rfl, rfl, rfl, hk, hW, hR⟩
    have hi := idx_ge (nmP (at_ l k).fName) l
    have hj := idx_lt (p := nmP (at_ l k).fName) l
    (refine vK ?_; with_reducible repeat' first | exact Le.l | refine Sw ?_ ?_ | intro h)
    (refine AW.i rfl (fun h => ?_) (fun h => ?_) <;> try simp only [hC, reduceCtorEq] at h)
    · have hw := wtS_kid (at_mem h)
      have hsz := GSchema.kids_lt (at_mem h)
      have hS := kS_at h kind fr p
      have hdp := depS_kid (at_mem h)
      (refine vU ?_; with_reducible repeat' first | exact Le.l | refine Sw ?_ ?_ | intro h)
      · simp only [len_z] at h
        simp only [bne, beq_dec] at h
        rcases h with ((h | h) | h) | h
        · rw [kT_own (by assumption) h]
        · rw [kT_kids (k := k) (by rw [hS]; grind) hR]
        · rw [kT_kids (k := k) (by rw [hS, h]; simp) hR]
        · rw [kT_kids (k := k) (by rw [hS, h]; simp) hR]
      · simp only [len_z] at h
        simp only [bne, beq_dec] at h
        refine ⟨_, [_], [], by omega, ⟨k + 1, rfl, rfl, rfl, by omega, own_step hW h.1.1.1, ?_⟩, rfl, trivial⟩
        rw [← hR, hS]; grind
    · (refine vU ?_; with_reducible repeat' first | exact Le.l | refine Sw ?_ ?_ | intro h)
      refine AW.loopV [12] [0, 3, 9] (fun m xs o => ∃ k : Nat, xs = [.v (.int .i64 k)] ∧ o = [] ∧ m = (dk l).length - k ∧ k ≤ (dk l).length ∧ (∀ j < k, idx (nmP (at_ (dk l) j).fName) (dk l) = j)) (dk l).length [] trivial ⟨0, ?_, rfl, rfl, ?_, ?_⟩ ?_
      · rfl
      · omega
      · intro j hj; omega
      rintro m xs o ⟨i, rfl, rfl, rfl, hi, hV⟩
      (refine vU ?_; with_reducible repeat' first | exact Le.l | refine Sw ?_ ?_ | intro h)
      · rw [kT_dat (by assumption) h]
      · exact ⟨_, [_], [], by omega, ⟨i + 1, rfl, rfl, rfl, by omega, own_step hV h⟩, rfl, trivial⟩
      · rw [kT_end (fun j hj => hW j (by omega)) (fun j hj => hV j (by omega)) (by rw [← hR, drop_end (by assumption), kS]), len_z, show decide ((p : Int) ≤ 8) = decide (p ≤ 8) from decide_eq_decide.2 (by omega)]

end Go.Proofs.YtmdbmmmlccipdaaGreatDoor
namespace Go.Proofs.YtmdbmmmlccipdaaGreatDoor
open Go.Ab Go.Dt
set_option maxRecDepth 20000
set_option maxHeartbeats 4000000
instance iKids_i (l : List GSchema) (kind : Int) (bd : Bool) : Ctr lim Tryz.prog 155 [] [.sl false 19 (l.map (encSchema false)), .v (.int .i64 kind), .v (.bool bd)] (.v (.bool (kR l kind bd))) [] (wtS l ≤ 1048576) := ⟨en155, fun h => (iKids_n (SizeOf.sizeOf l + 1) l kind bd).out ⟨Nat.lt_succ_self _, h⟩⟩
instance sKids_i (l : List GSchema) (kind : Int) (fr : Bool) : Ctr lim Tryz.prog 112 [] [.sl false 19 (l.map (encSchema false)), .v (.int .i64 kind), .v (.bool fr), .v (.int .i64 1)] (.v (.bool (kT l kind fr 1))) [] (wtS l ≤ 1048576) := ⟨en112, fun h => (sKids_n (SizeOf.sizeOf l + 1) l kind fr 1).out ⟨Nat.lt_succ_self _, h, by have := dep_wtS l; omega⟩⟩
instance iIsSchema_i (l : List GSchema) : Ctr lim Tryz.prog 106 [] [.sl false 19 (l.map (encSchema false))] (.v (.bool (isSchema l))) [] (wtS l ≤ 1048576) := by
  refine Ctr.of_body en106 Tryz.func106 rfl rfl fun hp => (?_); rw [Tryz.ntmps106]
  have gOn := GrOn.on
  have h1 := cnt_wtS l
  have h2 := dep_wtS l
  (refine vU ?_; with_reducible repeat' first | exact Le.l | refine Sw ?_ ?_ | intro h)
  refine congrArg (fun b => AV.v (.bool b)) ?_
  rw [isSchema, show decide ((cntS l : Int) ≤ 60) = decide (cntS l ≤ 60) from decide_eq_decide.2 (by omega), show decide ((depS l : Int) ≤ 8) = decide (depS l ≤ 8) from decide_eq_decide.2 (by omega)]
instance sIsSchema_i (l : List GSchema) : Ctr lim Tryz.prog 56 [] [.sl false 19 (l.map (encSchema false))] (.v (.bool (isSchema l))) [] (wtS l ≤ 1048576) := by
  refine Ctr.of_body en56 Tryz.func56 rfl rfl fun hp => (?_); rw [Tryz.ntmps56]
  have gOn := GrOn.on
  have h1 := cnt_wtS l
  (refine vU ?_; with_reducible repeat' first | exact Le.l | refine Sw ?_ ?_ | intro h)
  rw [isSchema_spec]

end Go.Proofs.YtmdbmmmlccipdaaGreatDoor
namespace Go.Dt
open Go Go.Ab
/-- a node that is right has its key -/
theorem okN_key {n : GSchema} {x : GNode} (h : okN n x = true) : kyB n x = true := by
  by_cases h2 : n.fKind = 2
  · rw [okN, if_neg (by omega), if_pos h2] at h
    simp only [Bool.and_eq_true] at h
    exact h.1.1
  · exact (ky_one h2).2
section
variable {d : List GSchema} {l : List GNode} {k : Nat}
theorem okR_no (hk : k < l.length) (h : idx (nmP (at_ l k).fName) d < 0) : okL d (prv l k) (l.drop k) = false := by
  rw [okL_at hk, show decide (0 ≤ idx (nmP (at_ l k).fName) d) = false by simp; omega]; try rfl
theorem okR_bad (hk : k < l.length) (h : okN (at_ d (idx (nmP (at_ l k).fName) d).toNat) (at_ l k) = false) : okL d (prv l k) (l.drop k) = false := by
  rw [okL_at hk, h]; simp
theorem okR_bef (hk : k < l.length) (h0 : 0 < k) (h : befS d (at_ l (k - 1)) (at_ l k) = false) : okL d (prv l k) (l.drop k) = false := by
  rw [okL_at hk]
  obtain ⟨j, rfl⟩ : ∃ j, k = j + 1 := ⟨k - 1, by omega⟩
  rw [show j + 1 - 1 = j by omega] at h
  rw [show befO d (prv l (j + 1)) (at_ l (j + 1)) = befS d (at_ l j) (at_ l (j + 1)) from rfl, h]; simp
theorem okR_good (hk : k < l.length) (h0 : 0 ≤ idx (nmP (at_ l k).fName) d) (h1 : okN (at_ d (idx (nmP (at_ l k).fName) d).toNat) (at_ l k) = true) (h2 : 0 < k → befS d (at_ l (k - 1)) (at_ l k) = true) : okL d (prv l k) (l.drop k) = okL d (prv l (k + 1)) (l.drop (k + 1)) := by
  rw [okL_at hk, h1, show decide (0 ≤ idx (nmP (at_ l k).fName) d) = true by simpa using h0]
  have : befO d (prv l k) (at_ l k) = true := by
    cases k with
    | zero => rfl
    | succ j => exact h2 (by omega)
  rw [this]; simp
end
end Go.Dt
namespace Go.Proofs.YtmdbmmmlccipdaaGreatDoor
open Go.Ab Go.Dt
set_option maxRecDepth 20000
set_option maxHeartbeats 4000000
attribute [local go_sem] frzL_str encSchemaM_frz encNodeM_frz schAll schOne nms_idx

instance sDataKids_c (l : List GSchema) : Ctr lim Tryz.prog 59 [] [.sl false 19 (l.map (encSchema false))] (.sl false 19 ((dk l).map (encSchema false))) [] (cntS l ≤ 1048576) :=
  Ctr.of_pure en59 fun c => by
    have := ((sDataKids_n (SizeOf.sizeOf l + 1) l).pure ⟨Nat.lt_succ_self _, c⟩).frz
    simpa only [AV.frz, AV.frzL, encSchemaM_frz, cond_true] using this
theorem sNode_n (n : Nat) (ih : ∀ (d : List GSchema) (l : List GNode), Ctr lim Tryz.prog 58 [] [.sl false 19 (d.map (encSchema false)), .sl false 3 (l.map (encNode false))] (.v (.bool (okL d none l))) [] (SizeOf.sizeOf l < n ∧ (∀ y ∈ d, wtS y.fKids ≤ 1048576) ∧ wt l ≤ 1048576)) (c : GSchema) (x : GNode) : Ctr lim Tryz.prog 114 [] [.agg [.v (.int .i64 c.fKind), .str c.fName, .v (.int .i64 c.fType.fKind), .sl false 2 (c.fType.fRanges.map (encRange false)), .sl false 1 (c.fType.fNames.map AV.str), .str c.fType.fPattern, .str c.fType.fPath, .sl false 1 (c.fKeys.map AV.str), .sl false 1 (c.fUnique.map AV.str), .str c.fDefault, .v (.bool c.fGiven), .v (.bool c.fNeeded), .v (.bool c.fPresent), .v (.bool c.fFixed), .v (.int .i64 c.fMin), .v (.int .i64 c.fMax), .sl false 7 (c.fWhen.map (encExpr false)), .sl false 7 (c.fMust.map (encExpr false)), .sl false 19 (c.fKids.map (encSchema false))], .agg [.str x.fName, .str x.fValue, .sl false 3 (x.fKids.map (encNode false))]] (.v (.bool (okN c x))) [] (SizeOf.sizeOf x.fKids < n ∧ wtS c.fKids ≤ 1048576 ∧ wt x.fKids ≤ 1048576 ∧ x.fValue.length ≤ 1048576) := by
  refine Ctr.of_body en114 Tryz.func114 rfl rfl fun hp => (?_); rw [Tryz.ntmps114]
  have gOn := GrOn.on
  obtain ⟨h2, h3, h4, h5⟩ := hp
  have hc := cnt_wtS c.fKids
  have hd : ∀ y ∈ dk c.fKids, wtS y.fKids ≤ 1048576 := fun y hy => by have := dk_wt _ y hy; omega
  cases hk : kyB c x
  · haveI := sKey_n c x
    (refine vU ?_; with_reducible repeat' first | exact Le.l | refine Sw ?_ ?_ | intro h)
    all_goals try refine congrArg (fun b => AV.v (.bool b)) ?_
    · rw [okN, if_pos (by omega), len_z]
    · rw [okN, if_pos (by omega), len_z]
    · rw [okN, if_neg (by omega), if_pos h, hk]; try rfl
    · exact hd _ h
    · rw [okN, if_neg (by omega), if_neg (by omega), decP, len_p, emp_beq]
  · haveI := sKey_y c x
    (refine vU ?_; with_reducible repeat' first | exact Le.l | refine Sw ?_ ?_ | intro h)
    all_goals try refine congrArg (fun b => AV.v (.bool b)) ?_
    · rw [okN, if_pos (by omega), len_z]
    · rw [okN, if_pos (by omega), len_z]
    · exact hd _ h
    · rw [okN, if_neg (by omega), if_pos h, hk, emp_beq]; try rfl
    · exact hd _ h
    · rw [okN, if_neg (by omega), if_neg (by omega), decP, len_p, emp_beq]
theorem sRight_n : ∀ (n : Nat) (d : List GSchema) (l : List GNode), Ctr lim Tryz.prog 58 [] [.sl false 19 (d.map (encSchema false)), .sl false 3 (l.map (encNode false))] (.v (.bool (okL d none l))) [] (SizeOf.sizeOf l < n ∧ (∀ y ∈ d, wtS y.fKids ≤ 1048576) ∧ wt l ≤ 1048576)
  | 0, _, l => ⟨en58, fun h => absurd h.1 (Nat.not_lt_zero _)⟩
  | n + 1, d, l => by
    have ih := sNode_n n (sRight_n n)
    refine Ctr.of_body en58 Tryz.func58 rfl rfl fun hp => (?_); rw [Tryz.ntmps58]
    have gOn := GrOn.on
    obtain ⟨hs, hb, hv⟩ := hp
    refine AW.fact 1 fun hf => ?_
    simp (disch := omega) only [go_sem] at hf
    (refine vU ?_; with_reducible repeat' first | exact Le.l | refine Sw ?_ ?_ | intro h)
    refine AW.loopV [5] [0, 1] (fun m xs o => ∃ k : Nat, xs = [.v (.int .i64 k)] ∧ o = [] ∧ m = l.length - k ∧ k ≤ l.length ∧ (∀ j < k, okX d (at_ l j)) ∧ okL d (prv l k) (l.drop k) = okL d none l) l.length [] trivial ⟨0, ?_, rfl, rfl, ?_, ?_, rfl⟩ ?_
    · rfl
    · omega
    · intro j hj; omega
    rintro m xs o ⟨k, rfl, rfl, rfl, hk, hW, hR⟩
    (refine vK ?_; with_reducible repeat' first | exact Le.l | refine Sw ?_ ?_ | intro h)
    (refine AW.i rfl (fun h => ?_) (fun h => ?_) <;> try simp only [hC, reduceCtorEq] at h)
    · have hw := wt_kid (l := l) h
      have hkx := fun hq => hb _ (idx_hit (p := nmP (at_ l k).fName) (l := d) hq).2.2
      have hky := fun hq => (idx_hit (p := nmP (at_ l k).fName) (l := d) hq).1
      have hsz := GNode.kids_lt (at_mem h)
      (refine vU ?_; with_reducible repeat' first | exact Le.l | refine Sw ?_ ?_ | intro h)
      · exact (hW _ (by omega)).1
      · exact okN_key (hW _ (by omega)).2
      · rw [h]; exact okN_key (by grind)
      · rw [← hR]
        rcases h with (h | h) | ⟨h1, h2⟩
        · rw [okR_no (by assumption) h]
        · rw [okR_bad (by assumption) h]
        · rw [okR_bef (by assumption) (by omega) (by rw [← h2]; congr 2; omega)]
      · obtain ⟨⟨h1, h2⟩, h3⟩ := h
        refine ⟨_, [_], [], by omega, ⟨k + 1, rfl, rfl, rfl, by omega, fun j hj => ?_, ?_⟩, rfl, trivial⟩
        · rcases Nat.lt_or_ge j k with q | q
          · exact hW j q
          · rw [show j = k by omega]; exact ⟨h1, h2⟩
        · rw [← hR, okR_good (by assumption) h1 h2 fun q => by rw [← h3 (by omega)]; congr 2; omega]
    · (refine vU ?_; with_reducible repeat' first | exact Le.l | refine Sw ?_ ?_ | intro h)
      rw [← hR, drop_end h, okL]

end Go.Proofs.YtmdbmmmlccipdaaGreatDoor
namespace Go.Proofs.YtmdbmmmlccipdaaGreatDoor
open Go.Ab Go.Dt
set_option maxRecDepth 20000
set_option maxHeartbeats 4000000
attribute [local go_sem] frzL_str encSchemaM_frz
instance iRight_i (s : List GSchema) (l : List GNode) : Ctr lim Tryz.prog 108 [] [.sl false 19 (s.map (encSchema false)), .sl false 3 (l.map (encNode false))] (.v (.bool (okL (dk s) none l))) [] (wtS s ≤ 1048576 ∧ wt l ≤ 1048576) := ⟨en108, fun h => (iRight_n (SizeOf.sizeOf l + 1) s l).out ⟨Nat.lt_succ_self _, h⟩⟩
instance sRight_i (d : List GSchema) (l : List GNode) : Ctr lim Tryz.prog 58 [] [.sl false 19 (d.map (encSchema false)), .sl false 3 (l.map (encNode false))] (.v (.bool (okL d none l))) [] ((∀ y ∈ d, wtS y.fKids ≤ 1048576) ∧ wt l ≤ 1048576) := ⟨en58, fun h => (sRight_n (SizeOf.sizeOf l + 1) d l).out ⟨Nat.lt_succ_self _, h⟩⟩
instance iIsTree_i (s : List GSchema) (l : List GNode) : Ctr lim Tryz.prog 54 [] [.sl false 19 (s.map (encSchema false)), .sl false 3 (l.map (encNode false))] (.v (.bool (isTree s l))) [] (wtS s ≤ 1048576 ∧ wt l ≤ 1048576) := by
  refine Ctr.of_body en54 Tryz.func54 rfl rfl fun hp => (?_); rw [Tryz.ntmps54]
  have gOn := GrOn.on
  obtain ⟨h1, h2⟩ := hp
  (refine vU ?_; with_reducible repeat' first | exact Le.l | refine Sw ?_ ?_ | intro h)
  refine congrArg (fun b => AV.v (.bool b)) ?_
  rw [isTree, show decide ((cnt l : Int) ≤ 120) = decide (cnt l ≤ 120) from decide_eq_decide.2 (by omega)]
instance sIsTree_i (s : List GSchema) (l : List GNode) : Ctr lim Tryz.prog 12 [] [.sl false 19 (s.map (encSchema false)), .sl false 3 (l.map (encNode false))] (.v (.bool (isTree s l))) [] (wtS s ≤ 1048576 ∧ wt l ≤ 1048576) := by
  refine Ctr.of_body en12 Tryz.func12 rfl rfl fun hp => (?_); rw [Tryz.ntmps12]
  have gOn := GrOn.on
  obtain ⟨h1, h2⟩ := hp
  have hc := cnt_wtS s
  have hd : ∀ y ∈ dk s, wtS y.fKids ≤ 1048576 := fun y hy => by have := dk_wt _ y hy; omega
  have e1 : decide (0 ≤ l13g l (120 - l.length)) = decide (cnt l ≤ 120) := by
    apply decide_eq_decide.2
    unfold cnt
    rcases Int.lt_or_le (120 - (l.length : Int)) 0 with h | h
    · rw [l13g_neg l h]; omega
    · have := (l13g_eq l _ h).1; omega
  (refine vU ?_; with_reducible repeat' first | exact Le.l | refine Sw ?_ ?_ | intro h)
  · exact hd _ h
  · refine congrArg (fun b => AV.v (.bool b)) ?_
    rw [isTree, e1]

end Go.Proofs.YtmdbmmmlccipdaaGreatDoor
namespace Go.Dt
open Go Go.Ab
section
variable {d : List GSchema} {x : GNode} {cs ks : List Str}
theorem cutS_nil (h : (cs.length : Int) = 0) : cutS cs d ks x = [x] := by
  rw [show cs = [] from List.length_eq_zero_iff.1 (by omega), cutS]
theorem cutS_key (h0 : ¬ (cs.length : Int) = 0) (h : ¬ (at_ d (idx (nmP x.fName) d).toNat).fName = at_ cs 0 ∨ ((at_ d (idx (nmP x.fName) d).toNat).fKind = 3 ∨ (at_ d (idx (nmP x.fName) d).toNat).fKind = 4) ∧ 1 < (cs.length : Int)) : cutS cs d ks x = if cont ks (at_ d (idx (nmP x.fName) d).toNat).fName = true then [x] else [] := by
  cases cs with
  | nil => simp at h0
  | cons c cs =>
    simp only [cutS]
    rw [if_pos]
    rcases h with h | h
    · exact .inl h
    · refine .inr ⟨h.1, fun e => ?_⟩
      have := h.2; rw [e] at this; simp at this
theorem cutS_kids (h0 : ¬ (cs.length : Int) = 0) (h : (at_ d (idx (nmP x.fName) d).toNat).fName = at_ cs 0) (h1 : ((at_ d (idx (nmP x.fName) d).toNat).fKind = 3 ∨ (at_ d (idx (nmP x.fName) d).toNat).fKind = 4) → (cs.length : Int) ≤ 1) : cutS cs d ks x = if ¬ (at_ d (idx (nmP x.fName) d).toNat).fKind = 1 ∨ (at_ d (idx (nmP x.fName) d).toNat).fPresent = true ∨ ¬ x.fKids.flatMap (cutS (cs.drop 1) (dk (at_ d (idx (nmP x.fName) d).toNat).fKids) (at_ d (idx (nmP x.fName) d).toNat).fKeys) = [] then [.mk (at_ d (idx (nmP x.fName) d).toNat).fName x.fValue (x.fKids.flatMap (cutS (cs.drop 1) (dk (at_ d (idx (nmP x.fName) d).toNat).fKids) (at_ d (idx (nmP x.fName) d).toNat).fKeys))] else [] := by
  cases cs with
  | nil => simp at h0
  | cons c cs =>
    simp only [cutS]
    rw [if_neg]
    · rfl
    rintro (h2 | h2)
    · exact h2 h
    · have := h1 h2.1
      exact h2.2 (List.length_eq_zero_iff.1 (by simp at this; omega))
end
theorem keep_y {A B : Prop} {K : List GNode} (h : (A ∨ B) ∨ 0 < (K.length : Int)) : A ∨ B ∨ ¬ K = [] := by
  rcases h with (h | h) | h
  · exact .inl h
  · exact .inr (.inl h)
  · exact .inr (.inr fun e => by rw [e] at h; simp at h)
theorem keep_n {k : Int} {b : Bool} {K : List GNode} (h : (k = 1 ∧ b = false) ∧ (K.length : Int) ≤ 0) : ¬ (¬ k = 1 ∨ b = true ∨ ¬ K = []) := by
  rintro (g | g | g)
  · exact g h.1.1
  · rw [h.1.2] at g; cases g
  · exact g (List.length_eq_zero_iff.1 (by omega))
theorem sliceOne {α : Type} [Inhabited α] {f : α → AV} {l : List α} {k : Nat} (h : k < l.length) : List.drop k (List.take (k + 1) (l.map f)) = [f (at_ l k)] := by
  rw [← List.map_take, take_at' h, List.map_append, List.drop_append_of_le_length (by rw [List.length_map, List.length_take]; omega), List.drop_of_length_le (by rw [List.length_map, List.length_take]; omega)]; try rfl
end Go.Dt
namespace Go.Proofs.YtmdbmmmlccipdaaGreatDoor
open Go.Ab Go.Dt
set_option maxRecDepth 20000
set_option maxHeartbeats 4000000
theorem strTail2 (cs : List Str) : List.drop (Int.toNat 1) (List.take cs.length (cs.map AV.str)) = (cs.drop 1).map AV.str := by
  rw [List.take_of_length_le (by simp), List.map_drop]; try rfl
attribute [local go_sem] frzL_str encSchemaM_frz encNodeM_frz schAll schOne nms_idx schF nodF strTail2 sliceOne
instance sCopyNode_1 (x : GNode) : Ctr lim Tryz.prog 88 [] [.sl false 3 [.agg [.str x.fName, .str x.fValue, .sl false 3 (x.fKids.map (encNode false))]]] (.sl true 3 [encNode true x]) [] True := by
  have := sCopyNodes_i [x]
  rw [show List.map (encNode false) [x] = [.agg [.str x.fName, .str x.fValue, .sl false 3 (x.fKids.map (encNode false))]] by rw [List.map_cons, List.map_nil, encNode_eq], show List.map (encNode true) [x] = [encNode true x] from rfl] at this
  exact this
theorem sCut_n : ∀ (n : Nat) (s : List GSchema) (l : List GNode) (cs ks : List Str), Ctr lim Tryz.prog 63 [] [.sl false 19 (s.map (encSchema false)), .sl false 3 (l.map (encNode false)), .sl false 1 (cs.map AV.str), .sl false 1 (ks.map AV.str)] (.sl true 3 ((l.flatMap (cutS cs (dk s) ks)).map (encNode true))) [] (cs.length < n ∧ wtS s ≤ 1048576 ∧ ∀ x ∈ l, okX (dk s) x)
  | 0, _, _, _, _ => ⟨en63, fun h => absurd h.1 (Nat.not_lt_zero _)⟩
  | n + 1, s, l, cs, ks => by
    have ih := sCut_n n
    refine Ctr.of_body en63 Tryz.func63 rfl rfl fun hp => (?_); rw [Tryz.ntmps63]
    have gOn := GrOn.on
    obtain ⟨hs, h1, h3⟩ := hp
    have hc := cnt_wtS s
    refine AW.fact 1 fun hf => ?_
    simp (disch := omega) only [go_sem] at hf
    (refine vK ?_; with_reducible repeat' first | exact Le.l | refine Sw ?_ ?_ | intro h)
    refine AW.loopV [10, 11] [1, 2, 3, 9] (fun m xs o => ∃ k : Nat, xs = [.sl true 3 (((l.take k).flatMap (cutS cs (dk s) ks)).map (encNode true)), .v (.int .i64 k)] ∧ o = [] ∧ m = l.length - k ∧ k ≤ l.length) l.length [] trivial ⟨0, ?_, rfl, rfl, ?_⟩ ?_
    · rfl
    · omega
    rintro m xs o ⟨k, rfl, rfl, rfl, hk⟩
    have hlen := flat_take_le (cutS_le cs (dk s) ks) l k
    (refine vK ?_; with_reducible repeat' first | exact Le.l | refine Sw ?_ ?_ | intro h)
    (refine AW.i rfl (fun h => ?_) (fun h => ?_) <;> try simp only [hC, reduceCtorEq] at h)
    · have hlk := h
      have hx := h3 _ (at_mem h)
      have hx0 := hx.1
      have hx1 := idx_lt (p := nmP (at_ l k).fName) (dk s)
      have hfs := flat_step (f := cutS cs (dk s) ks) h
      have hnp := dk_wt _ _ (okX_at hx).2
      clear h
      (refine vK ?_; with_reducible repeat' first | exact Le.l | refine Sw ?_ ?_ | intro h)
      rename Nat => b1
      (refine AW.i rfl (fun h => ?_) (fun h => ?_) <;> try simp only [hC, reduceCtorEq] at h)
      · (refine vU ?_; with_reducible repeat' first | exact Le.l | refine Sw ?_ ?_ | intro h)
        exact ⟨_, [_, _], _, by omega, ⟨k + 1, by rw [hfs, cutS_nil h, List.map_append, List.map_cons, List.map_nil, encNode_eq], rfl, rfl, by omega⟩, rfl, by simp (maxSteps := 2000000) (disch := omega) only [go_sem]⟩
      have h0 := h
      clear h
      (refine vK ?_; with_reducible repeat' first | exact Le.l | refine Sw ?_ ?_ | intro h)
      (refine AW.i rfl (fun h => ?_) (fun h => ?_) <;> try simp only [hC, reduceCtorEq] at h)
      · have hcd := cutS_key (ks := ks) h0 h
        clear h
        (refine vU ?_; with_reducible repeat' first | exact Le.l | refine Sw ?_ ?_ | intro h)
        · exact ⟨_, [_, _], _, by omega, ⟨k + 1, by rw [hfs, hcd, if_pos h, List.map_append, List.map_cons, List.map_nil, encNode_eq], rfl, rfl, by omega⟩, rfl, by simp (maxSteps := 2000000) (disch := omega) only [go_sem]⟩
        · exact ⟨_, [_, _], _, by omega, ⟨k + 1, by rw [hfs, hcd, if_neg (by rw [h]; simp), List.append_nil], rfl, rfl, by omega⟩, rfl, by simp (maxSteps := 2000000) (disch := omega) only [go_sem]⟩
      have hcd := cutS_kids (ks := ks) h0 h.1 h.2
      have hkl : ((at_ (dk s) (idx (nmP (at_ l k).fName) (dk s)).toNat).fKind = 3 ∨ (at_ (dk s) (idx (nmP (at_ l k).fName) (dk s)).toNat).fKind = 4) → (at_ l k).fKids = [] := okN_leaf hx.2
      have hokk : ∀ y ∈ (at_ l k).fKids, okX (dk (at_ (dk s) (idx (nmP (at_ l k).fName) (dk s)).toNat).fKids) y := fun y hy => by
        by_cases hq : (at_ (dk s) (idx (nmP (at_ l k).fName) (dk s)).toNat).fKind = 3 ∨ (at_ (dk s) (idx (nmP (at_ l k).fName) (dk s)).toNat).fKind = 4
        · rw [hkl hq] at hy; simp at hy
        · exact okL_mem (okN_kids hx.2 hq).2.1 y hy
      have hcs : (cs.drop 1).length < n := by rw [List.length_drop]; omega
      clear h
      (refine vN ?_; with_reducible repeat' first | exact Le.l | refine Sw ?_ ?_ | intro h)
      first | refine AW.sdrwnA ?_ | refine AW.drwnA ?_
      (refine vN ?_; with_reducible repeat' first | exact Le.l | refine Sw ?_ ?_ | intro h)
      · exact hokk _ (by assumption)
      rename Nat => b2
      refine AW.imp (Imp.unfoldO2 (b0 := b2) (k := 2) (sz := 3) (l := ((at_ l k).fKids.flatMap (cutS (cs.drop 1) (dk (at_ (dk s) (idx (nmP (at_ l k).fName) (dk s)).toNat).fKids) (at_ (dk s) (idx (nmP (at_ l k).fName) (dk s)).toNat).fKeys)).map (encNode true)) (O_eq _ _ _) rfl (map_elem (fun x => by rw [encNode_eq]; try rfl) _) (fun b3 hb3 => ?_) (fun hnil => ?_))
      · have hb1 := hb3.nf
        simp only [go_sem] at hb1
        simp only [List.set_cons_zero, List.set_cons_succ, List.length_map]
        (refine vK ?_; with_reducible repeat' first | exact Le.l | refine Sw ?_ ?_ | intro h)
        (refine AW.i rfl (fun h => ?_) (fun h => ?_) <;> try simp only [hC, reduceCtorEq] at h)
        · refine AW.imp (Imp.foldO (b0 := b2) (k := 2) (b := b3) (sz := 3) (len := ((at_ l k).fKids.flatMap (cutS (cs.drop 1) (dk (at_ (dk s) (idx (nmP (at_ l k).fName) (dk s)).toNat).fKids) (at_ (dk s) (idx (nmP (at_ l k).fName) (dk s)).toNat).fKeys)).length) (cells0 := [.str (at_ (dk s) (idx (nmP (at_ l k).fName) (dk s)).toNat).fName, .str (at_ l k).fValue, .arr b3 0 ((at_ l k).fKids.flatMap (cutS (cs.drop 1) (dk (at_ (dk s) (idx (nmP (at_ l k).fName) (dk s)).toNat).fKids) (at_ (dk s) (idx (nmP (at_ l k).fName) (dk s)).toNat).fKeys)).length 3]) (cells := (((at_ l k).fKids.flatMap (cutS (cs.drop 1) (dk (at_ (dk s) (idx (nmP (at_ l k).fName) (dk s)).toNat).fKids) (at_ (dk s) (idx (nmP (at_ l k).fName) (dk s)).toNat).fKeys)).map (encNode true)).flatMap AV.cells) (l := ((at_ l k).fKids.flatMap (cutS (cs.drop 1) (dk (at_ (dk s) (idx (nmP (at_ l k).fName) (dk s)).toNat).fKids) (at_ (dk s) (idx (nmP (at_ l k).fName) (dk s)).toNat).fKeys)).map (encNode true)) gO rfl gO (by grind) (by rw [List.length_map]) (by rw [List.take_of_length_le]; rw [flat_elem_len (sz := 3) (map_elem (fun x => by rw [encNode_eq]; try rfl) _), List.length_map]; exact Nat.le_refl _) (map_elem (fun x => by rw [encNode_eq]; try rfl) _) ?_)
          simp only [List.set_cons_zero, List.set_cons_succ]
          (refine vU ?_; with_reducible repeat' first | exact Le.l | refine Sw ?_ ?_ | intro h)
          exact ⟨_, [_, _], _, by omega, ⟨k + 1, by rw [hfs, hcd, if_pos (keep_y h), List.map_append, List.map_cons, List.map_nil, encNode_eq]; try rfl, rfl, rfl, by omega⟩, rfl, by simp (maxSteps := 2000000) (disch := omega) only [go_sem]⟩
        · (refine vU ?_; with_reducible repeat' first | exact Le.l | refine Sw ?_ ?_ | intro h)
          exact ⟨_, [_, _], _, by omega, ⟨k + 1, by rw [hfs, hcd, if_neg (keep_n h), List.append_nil], rfl, rfl, by omega⟩, rfl, by simp (maxSteps := 2000000) (disch := omega) only [go_sem]⟩
      · simp only [List.set_cons_zero, List.set_cons_succ]
        have hkn : ((at_ l k).fKids.flatMap (cutS (cs.drop 1) (dk (at_ (dk s) (idx (nmP (at_ l k).fName) (dk s)).toNat).fKids) (at_ (dk s) (idx (nmP (at_ l k).fName) (dk s)).toNat).fKeys)) = [] := by simpa using hnil
        (refine vK ?_; with_reducible repeat' first | exact Le.l | refine Sw ?_ ?_ | intro h)
        (refine AW.i rfl (fun h => ?_) (fun h => ?_) <;> try simp only [hC, reduceCtorEq] at h)
        · refine AW.imp (Imp.nilOT (b := b2) 3 [.str (at_ (dk s) (idx (nmP (at_ l k).fName) (dk s)).toNat).fName, .str (at_ l k).fValue] [] gO ?_)
          (refine vU ?_; with_reducible repeat' first | exact Le.l | refine Sw ?_ ?_ | intro h)
          rw [hkn] at hcd
          exact ⟨_, [_, _], _, by omega, ⟨k + 1, by rw [hfs, hcd, if_pos (keep_y (K := []) h), List.map_append, List.map_cons, List.map_nil, encNode_eq]; try rfl, rfl, rfl, by omega⟩, rfl, by simp (maxSteps := 2000000) (disch := omega) only [go_sem]⟩
        · (refine vU ?_; with_reducible repeat' first | exact Le.l | refine Sw ?_ ?_ | intro h)
          rw [hkn] at hcd
          exact ⟨_, [_, _], _, by omega, ⟨k + 1, by rw [hfs, hcd, if_neg (keep_n (K := []) h), List.append_nil], rfl, rfl, by omega⟩, rfl, by simp (maxSteps := 2000000) (disch := omega) only [go_sem]⟩
    · (refine vU ?_; with_reducible repeat' first | exact Le.l | refine Sw ?_ ?_ | intro h)
      rw [List.take_of_length_le (by omega)]

end Go.Proofs.YtmdbmmmlccipdaaGreatDoor
namespace Go.Dt
open Go Go.Ab
theorem cnt_cons (x : GNode) (l : List GNode) : cnt (x :: l) = 1 + cnt x.fKids + cnt l := by
  cases x; simp only [cnt, kc, List.length_cons, GNode.fKids]; omega
theorem cnt_app : ∀ (a b : List GNode), cnt (a ++ b) = cnt a + cnt b
  | [], b => by simp [cnt, kc]
  | x :: a, b => by rw [List.cons_append, cnt_cons, cnt_cons, cnt_app a b]; omega
theorem cnt_nil : cnt [] = 0 := by simp [cnt, kc]
theorem cnt_flat {f : GNode → List GNode} : ∀ {l : List GNode}, (∀ x ∈ l, cnt (f x) ≤ 1 + cnt x.fKids) → cnt (l.flatMap f) ≤ cnt l
  | [], _ => by simp
  | x :: xs, h => by
    rw [List.flatMap_cons, cnt_app, cnt_cons]
    have := h x (by simp); have := cnt_flat (f := f) (l := xs) fun y hy => h y (by simp [hy]); omega
theorem cnt_cutX : ∀ (cs : List Str) (s : List GSchema) (x : GNode), cnt (cutX cs s x) ≤ 1 + cnt x.fKids
  | [], s, x => by rw [cutX, cnt_cons, cnt_nil]; omega
  | c :: cs, s, x => by
    simp only [cutX]
    split
    · split
      · rw [cnt_cons, cnt_nil]; omega
      · split
        · split
          · rw [cnt_nil]; omega
          · rw [cnt_cons, cnt_nil]
            simp only [GNode.fKids]
            have := cnt_flat (l := x.fKids) (f := fun k => if cont (at_ (dk s) (idx (nmP x.fName) (dk s)).toNat).fKeys k.fName = true then [k] else cutX cs (at_ (dk s) (idx (nmP x.fName) (dk s)).toNat).fKids k) fun y _ => by
              split
              · rw [cnt_cons, cnt_nil]; omega
              · exact cnt_cutX cs _ y
            cases x; simp only [GNode.fKids] at *; omega
        · rw [cnt_nil]; omega
    · rw [cnt_nil]; omega
mutual
theorem stN_cnt : ∀ (x : GNode) (k : Int), (stNode x k).2 = k + 2 * (1 + cnt x.fKids : Nat)
  | .mk n v ks, k => by simp only [stNode, GNode.fKids]; rw [stNs_cnt ks]; omega
theorem stNs_cnt : ∀ (l : List GNode) (k : Int), (stNodes l k).2 = k + 2 * (cnt l : Nat)
  | [], k => by simp [stNodes, cnt, kc]
  | x :: xs, k => by simp only [stNodes]; rw [stNs_cnt xs, stN_cnt x, cnt_cons]; omega
end
theorem mkN_cnt (l : List GNode) (k : Int) : (mkL stNode l k).2 = k + 2 * (cnt l : Nat) := by rw [← stNodes_eq, stNs_cnt]
/-- what the program cuts out of a tree -/
def cutT (s : List GSchema) (l : List GNode) (cs : List Str) : List GNode := if isTree s l = true then l.flatMap (cutX cs s) else []
theorem cutT_cap (s : List GSchema) (l : List GNode) (cs : List Str) {r : Int} (h0 : 0 ≤ r) (h1 : r ≤ 1048576) (h : 0 ≤ szSl szNode l r) : (mkL stNode (cutT s l cs) 1).2 ≤ 2097153 := by
  rw [mkN_cnt, cutT]
  have h2 := wt_fit h0 h
  have h3 := cnt_le l
  split
  · have := cnt_flat (f := cutX cs s) (l := l) fun x _ => cnt_cutX cs s x
    omega
  · rw [cnt_nil]; omega
end Go.Dt
namespace Go.Ab
end Go.Ab
namespace Go.Ab
theorem RepL.consM {L : Nat → Nat} {F : Nat → Prop} {w : World} {x x' : AV} {xs xs' : List AV} (h : ∀ y fp, Rep L F w x y fp → Rep L F w x' y fp) (hs : ∀ vs fp, RepL L F w xs vs fp → RepL L F w xs' vs fp) : ∀ vs fp, RepL L F w (x :: xs) vs fp → RepL L F w (x' :: xs') vs fp := by
  intro vs fp r
  simp only [RepL] at r ⊢
  obtain ⟨y, vs', f1, f2, e1, e2, hx, hxs⟩ := r
  exact ⟨y, vs', f1, f2, e1, e2, h _ _ hx, hs _ _ hxs⟩
theorem Rep.nilSl {L : Nat → Nat} {F : Nat → Prop} {w : World} {o : Bool} {sz : Nat} (y : Value) (fp : List Nat) (h : Rep L F w (.v (.slice none 0 0)) y fp) : Rep L F w (.sl o sz []) y fp := by
  simp only [Rep] at h ⊢
  exact .inl ⟨.inl h.1, trivial, h.2⟩
/-- arguments of another view -/
theorem Ctr.view {L : Nat → Nat} {P : Program} {f : FuncId} {args args' : List AV} {res : AV} {cs : List (Option (List AV))} {pre : Prop} (h : Ctr L P f [] args res cs pre) (ha : ∀ F w vs fp, RepL L F w args' vs fp → RepL L F w args vs fp) : Ctr L P f [] args' res [] pre :=
  Ctr.of_pure h.en fun hp w F vs a b r => h.pure hp w F vs a b (ha _ _ _ _ r)
end Go.Ab
