/-
  Part of a proof: Tn4, Tn5, AbAgg, Cm1, Cm2, AbUL, La18, Shut18, AbTab.
-/
import Derived.Test.YtmdbmmmlccipdaaGreatDoorRows
import Derived.JoinedOf
import Derived.KernelRfl
import Derived.Lib.LaidTab
import Derived.Lay
import Derived.MakeChecks
import Derived.Test.YtmdbmmmlccipdaaGreatDoorG4
import Derived.Test.YtmdbmmmlccipdaaGreatDoorG5
import Derived.Test.YtmdbmmmlccipdaaGreatDoorG23
import Derived.Test.YtmdbmmmlccipdaaGreatDoorG25
import Derived.Test.YtmdbmmmlccipdaaGreatDoorG26
import Derived.Test.YtmdbmmmlccipdaaGreatDoorG28
import Derived.Test.YtmdbmmmlccipdaaGreatDoorG29
import Derived.Test.YtmdbmmmlccipdaaGreatDoorG30
import Derived.Test.YtmdbmmmlccipdaaGreatDoorG33
import Derived.Test.YtmdbmmmlccipdaaGreatDoorG38
import Derived.Test.YtmdbmmmlccipdaaGreatDoorG39
import Derived.Test.YtmdbmmmlccipdaaGreatDoorG41
import Derived.Test.YtmdbmmmlccipdaaGreatDoorG42
set_option linter.unusedSimpArgs false
set_option linter.unusedVariables false
namespace Go.Proofs.YtmdbmmmlccipdaaGreatDoor
open Go.Ab Go.Dt
set_option maxRecDepth 20000
set_option maxHeartbeats 4000000
attribute [local go_sem] frzL_str encSchemaM_frz encNodeM_frz schAll schOne nms_idx

instance sDataKids_c (l : List GSchema) : Ctr lim Tryz.prog 59 [] [.sl false 19 (l.map (encSchema false))] (.sl false 19 ((dk l).map (encSchema false))) [] (cntS l ≤ 1048576) :=
  Ctr.of_pure en59 fun c => by
    have := ((sDataKids_n (SizeOf.sizeOf l + 1) l).pure ⟨Nat.lt_succ_self _, c⟩).frz
    simpa only [AV.frz, AV.frzL, encSchemaM_frz, cond_true] using this
theorem sNode_n (n : Nat) (ih : ∀ (d : List GSchema) (l : List GNode), Ctr lim Tryz.prog 58 [] [.sl false 19 (d.map (encSchema false)), .sl false 3 (l.map (encNode false))] (.v (.bool (okL d none l))) [] (SizeOf.sizeOf l < n ∧ (∀ y ∈ d, wtS y.fKids ≤ 1048576) ∧ wt l ≤ 1048576)) (c : GSchema) (x : GNode) : Ctr lim Tryz.prog 114 [] [.agg [.v (.int .i64 c.fKind), .str c.fName, .v (.int .i64 c.fType.fKind), .sl false 2 (c.fType.fRanges.map (encRange false)), .sl false 1 (c.fType.fNames.map AV.str), .str c.fType.fPattern, .str c.fType.fPath, .sl false 1 (c.fKeys.map AV.str), .sl false 1 (c.fUnique.map AV.str), .str c.fDefault, .v (.bool c.fGiven), .v (.bool c.fNeeded), .v (.bool c.fPresent), .v (.bool c.fFixed), .v (.int .i64 c.fMin), .v (.int .i64 c.fMax), .sl false 7 (c.fWhen.map (encExpr false)), .sl false 7 (c.fMust.map (encExpr false)), .sl false 19 (c.fKids.map (encSchema false))], .agg [.str x.fName, .str x.fValue, .sl false 3 (x.fKids.map (encNode false))]] (.v (.bool (okN c x))) [] (SizeOf.sizeOf x.fKids < n ∧ wtS c.fKids ≤ 1048576 ∧ wt x.fKids ≤ 1048576 ∧ x.fValue.length ≤ 1048576) := by
  refine Ctr.of_body en114 Tryz.func114 rfl rfl fun hp => (?_); rw [Tryz.ntmps114]
  have gOn := GrOn.on
  obtain ⟨h2, h3, h4, h5⟩ := hp
  have hc := cnt_wtS c.fKids
  have hd : ∀ y ∈ dk c.fKids, wtS y.fKids ≤ 1048576 := fun y hy => by have := dk_wt _ y hy; omega
  cases hk : kyB c x
  · haveI := sKey_n c x
    (refine vU ?_; with_reducible repeat' first | exact Le.l | refine Sw ?_ ?_ | intro h)
    all_goals try refine congrArg (fun b => AV.v (.bool b)) ?_
    · rw [okN, if_pos (by omega), len_z]
    · rw [okN, if_pos (by omega), len_z]
    · rw [okN, if_neg (by omega), if_pos h, hk]; try rfl
    · exact hd _ h
    · rw [okN, if_neg (by omega), if_neg (by omega), decP, len_p, emp_beq]
  · haveI := sKey_y c x
    (refine vU ?_; with_reducible repeat' first | exact Le.l | refine Sw ?_ ?_ | intro h)
    all_goals try refine congrArg (fun b => AV.v (.bool b)) ?_
    · rw [okN, if_pos (by omega), len_z]
    · rw [okN, if_pos (by omega), len_z]
    · exact hd _ h
    · rw [okN, if_neg (by omega), if_pos h, hk, emp_beq]; try rfl
    · exact hd _ h
    · rw [okN, if_neg (by omega), if_neg (by omega), decP, len_p, emp_beq]
theorem sRight_n : ∀ (n : Nat) (d : List GSchema) (l : List GNode), Ctr lim Tryz.prog 58 [] [.sl false 19 (d.map (encSchema false)), .sl false 3 (l.map (encNode false))] (.v (.bool (okL d none l))) [] (SizeOf.sizeOf l < n ∧ (∀ y ∈ d, wtS y.fKids ≤ 1048576) ∧ wt l ≤ 1048576)
  | 0, _, l => ⟨en58, fun h => absurd h.1 (Nat.not_lt_zero _)⟩
  | n + 1, d, l => by
    have ih := sNode_n n (sRight_n n)
    refine Ctr.of_body en58 Tryz.func58 rfl rfl fun hp => (?_); rw [Tryz.ntmps58]
    have gOn := GrOn.on
    obtain ⟨hs, hb, hv⟩ := hp
    refine AW.fact 1 fun hf => ?_
    simp (disch := omega) only [go_sem] at hf
    (refine vU ?_; with_reducible repeat' first | exact Le.l | refine Sw ?_ ?_ | intro h)
    refine AW.loopV [5] [0, 1] (fun m xs o => ∃ k : Nat, xs = [.v (.int .i64 k)] ∧ o = [] ∧ m = l.length - k ∧ k ≤ l.length ∧ (∀ j < k, okX d (at_ l j)) ∧ okL d (prv l k) (l.drop k) = okL d none l) l.length [] trivial ⟨0, ?_, rfl, rfl, ?_, ?_, rfl⟩ ?_
    · rfl
    · omega
    · intro j hj; omega
    rintro m xs o ⟨k, rfl, rfl, rfl, hk, hW, hR⟩
    (refine vK ?_; with_reducible repeat' first | exact Le.l | refine Sw ?_ ?_ | intro h)
    (refine AW.i rfl (fun h => ?_) (fun h => ?_) <;> try simp only [hC, reduceCtorEq] at h)
    · have hw := wt_kid (l := l) h
      have hkx := fun hq => hb _ (idx_hit (p := nmP (at_ l k).fName) (l := d) hq).2.2
      have hky := fun hq => (idx_hit (p := nmP (at_ l k).fName) (l := d) hq).1
      have hsz := GNode.kids_lt (at_mem h)
      (refine vU ?_; with_reducible repeat' first | exact Le.l | refine Sw ?_ ?_ | intro h)
      · exact (hW _ (by omega)).1
      · exact okN_key (hW _ (by omega)).2
      · rw [h]; exact okN_key (by grind)
      · rw [← hR]
        rcases h with (h | h) | ⟨h1, h2⟩
        · rw [okR_no (by assumption) h]
        · rw [okR_bad (by assumption) h]
        · rw [okR_bef (by assumption) (by omega) (by rw [← h2]; congr 2; omega)]
      · obtain ⟨⟨h1, h2⟩, h3⟩ := h
        refine ⟨_, [_], [], by omega, ⟨k + 1, rfl, rfl, rfl, by omega, fun j hj => ?_, ?_⟩, rfl, trivial⟩
        · rcases Nat.lt_or_ge j k with q | q
          · exact hW j q
          · rw [show j = k by omega]; exact ⟨h1, h2⟩
        · rw [← hR, okR_good (by assumption) h1 h2 fun q => by rw [← h3 (by omega)]; congr 2; omega]
    · (refine vU ?_; with_reducible repeat' first | exact Le.l | refine Sw ?_ ?_ | intro h)
      rw [← hR, drop_end h, okL]

end Go.Proofs.YtmdbmmmlccipdaaGreatDoor
namespace Go.Proofs.YtmdbmmmlccipdaaGreatDoor
open Go.Ab Go.Dt
set_option maxRecDepth 20000
set_option maxHeartbeats 4000000
attribute [local go_sem] frzL_str encSchemaM_frz
instance iRight_i (s : List GSchema) (l : List GNode) : Ctr lim Tryz.prog 108 [] [.sl false 19 (s.map (encSchema false)), .sl false 3 (l.map (encNode false))] (.v (.bool (okL (dk s) none l))) [] (wtS s ≤ 1048576 ∧ wt l ≤ 1048576) := ⟨en108, fun h => (iRight_n (SizeOf.sizeOf l + 1) s l).out ⟨Nat.lt_succ_self _, h⟩⟩
instance sRight_i (d : List GSchema) (l : List GNode) : Ctr lim Tryz.prog 58 [] [.sl false 19 (d.map (encSchema false)), .sl false 3 (l.map (encNode false))] (.v (.bool (okL d none l))) [] ((∀ y ∈ d, wtS y.fKids ≤ 1048576) ∧ wt l ≤ 1048576) := ⟨en58, fun h => (sRight_n (SizeOf.sizeOf l + 1) d l).out ⟨Nat.lt_succ_self _, h⟩⟩
instance iIsTree_i (s : List GSchema) (l : List GNode) : Ctr lim Tryz.prog 54 [] [.sl false 19 (s.map (encSchema false)), .sl false 3 (l.map (encNode false))] (.v (.bool (isTree s l))) [] (wtS s ≤ 1048576 ∧ wt l ≤ 1048576) := by
  refine Ctr.of_body en54 Tryz.func54 rfl rfl fun hp => (?_); rw [Tryz.ntmps54]
  have gOn := GrOn.on
  obtain ⟨h1, h2⟩ := hp
  (refine vU ?_; with_reducible repeat' first | exact Le.l | refine Sw ?_ ?_ | intro h)
  refine congrArg (fun b => AV.v (.bool b)) ?_
  rw [isTree, show decide ((cnt l : Int) ≤ 120) = decide (cnt l ≤ 120) from decide_eq_decide.2 (by omega)]
instance sIsTree_i (s : List GSchema) (l : List GNode) : Ctr lim Tryz.prog 12 [] [.sl false 19 (s.map (encSchema false)), .sl false 3 (l.map (encNode false))] (.v (.bool (isTree s l))) [] (wtS s ≤ 1048576 ∧ wt l ≤ 1048576) := by
  refine Ctr.of_body en12 Tryz.func12 rfl rfl fun hp => (?_); rw [Tryz.ntmps12]
  have gOn := GrOn.on
  obtain ⟨h1, h2⟩ := hp
  have hc := cnt_wtS s
  have hd : ∀ y ∈ dk s, wtS y.fKids ≤ 1048576 := fun y hy => by have := dk_wt _ y hy; omega
  have e1 : decide (0 ≤ l13g l (120 - l.length)) = decide (cnt l ≤ 120) := by
    apply decide_eq_decide.2
    unfold cnt
    rcases Int.lt_or_le (120 - (l.length : Int)) 0 with h | h
    · rw [l13g_neg l h]; omega
    · have := (l13g_eq l _ h).1; omega
  (refine vU ?_; with_reducible repeat' first | exact Le.l | refine Sw ?_ ?_ | intro h)
  · exact hd _ h
  · refine congrArg (fun b => AV.v (.bool b)) ?_
    rw [isTree, e1]

end Go.Proofs.YtmdbmmmlccipdaaGreatDoor
namespace Go.Ab
theorem RepL.slMem {L : Nat → Nat} {F : Nat → Prop} {w : World} : ∀ {l : List AV} {vs : List Value} {fp : List Nat} {own : Bool} {sz : Nat} {xs : List AV}, RepL L F w l vs fp → .sl own sz xs ∈ l → xs.length ≤ L sz
  | [], _, _, _, _, _, _, h => by cases h
  | x :: xs, vs, fp, own, sz, ys, r, h => by
    simp only [RepL] at r
    obtain ⟨y, vs', f1, f2, _, _, hx, hxs⟩ := r
    rcases List.mem_cons.1 h with rfl | h
    · simp only [Rep] at hx
      rcases hx with ⟨_, rfl, _⟩ | ⟨b, off, cap, vals, fp', _, _, h2, _⟩
      · simp
      · exact h2
    · exact RepL.slMem hxs h
/-- lengths of slices in a struct are within the limits -/
theorem AW.aggSl {L : Nat → Nat} {P : Program} {c : Code} {n : Nat} {t : List (Nat × AV)} {o : List (Nat × Option (List AV))} {Q : Exit → AS → Prop} (i : Nat) {l xs : List AV} {own : Bool} {sz : Nat} (hi : T t i = .agg l) (hm : .sl own sz xs ∈ l) (h : xs.length ≤ L sz → AW L P c ⟨n, t, o⟩ Q) : AW L P c ⟨n, t, o⟩ Q := by
  intro B F0 w0 a w hd
  refine h ?_ B F0 w0 a w hd
  obtain ⟨F, ow, fp, fs, h⟩ := hd
  have hr := h.slots i
  simp only at hr
  rw [hi] at hr
  simp only [Rep] at hr
  obtain ⟨vs, _, hl⟩ := hr
  exact hl.slMem hm
end Go.Ab
namespace Go.Ab
theorem Rep.nilSl {L : Nat → Nat} {F : Nat → Prop} {w : World} {o : Bool} {sz : Nat} (y : Value) (fp : List Nat) (h : Rep L F w (.v (.slice none 0 0)) y fp) : Rep L F w (.sl o sz []) y fp := by
  simp only [Rep] at h ⊢
  exact .inl ⟨.inl h.1, trivial, h.2⟩
/-- arguments of another view -/
theorem Ctr.view {L : Nat → Nat} {P : Program} {f : FuncId} {args args' : List AV} {res : AV} {cs : List (Option (List AV))} {pre : Prop} (h : Ctr L P f [] args res cs pre) (ha : ∀ F w vs fp, RepL L F w args' vs fp → RepL L F w args vs fp) : Ctr L P f [] args' res [] pre :=
  Ctr.of_pure h.en fun hp w F vs a b r => h.pure hp w F vs a b (ha _ _ _ _ r)
end Go.Ab
namespace Go.Proofs.YtmdbmmmlccipdaaGreatDoor
open Go.Ab Go.Dt
set_option maxRecDepth 20000
set_option maxHeartbeats 4000000
attribute [local go_sem] frzL_str encSchemaM_frz encNodeM_frz schAll schOne
instance iFits_i (L : Nat → Nat) (c t : Int) : Ctr L Tryz.prog 83 [] [.v (.int .i64 c), .v (.int .i64 t)] (.v (.bool (fitsC c t))) [] True := by
  refine Ctr.of_body en83 Tryz.func83 rfl rfl fun hp => (?_); rw [Tryz.ntmps83]
  have gOn := GrOn.on
  (refine vU ?_; with_reducible repeat' first | exact Le.l | refine Sw ?_ ?_ | intro h)
  all_goals refine congrArg (fun b => AV.v (.bool b)) ?_
  all_goals unfold fitsC; grind
instance sFits_i (L : Nat → Nat) (c t : Int) : Ctr L Tryz.prog 78 [] [.v (.int .i64 c), .v (.int .i64 t)] (.v (.bool (fitsC c t))) [] True := by
  refine Ctr.of_body en78 Tryz.func78 rfl rfl fun hp => (?_); rw [Tryz.ntmps78]
  have gOn := GrOn.on
  (refine vU ?_; with_reducible repeat' first | exact Le.l | refine Sw ?_ ?_ | intro h)
  all_goals refine congrArg (fun b => AV.v (.bool b)) ?_
  all_goals unfold fitsC; grind
instance iIsCamp_i (l : List GDevice) (x : GCampaign) : Ctr lim Tryz.prog 39 [] [.sl false 15 (l.map (encDevice false)), .agg [.v (.int .i64 x.fState), .sl false 3 (x.fTasks.map (encTask false))]] (.v (.bool (isCamp l x))) [] ((∀ d ∈ l, wtS d.fStore.fSchema ≤ 1048576) ∧ ∀ t ∈ x.fTasks, wt t.fTree ≤ 1048576) := by
  refine Ctr.of_body en39 Tryz.func39 rfl rfl fun hp => (?_); rw [Tryz.ntmps39]
  have gOn := GrOn.on
  obtain ⟨h1, h2⟩ := hp
  refine AW.fact 0 fun hf => ?_
  simp (disch := omega) only [go_sem] at hf
  (refine vK ?_; with_reducible repeat' first | exact Le.l | refine Sw ?_ ?_ | intro h)
  (refine AW.i rfl (fun h => ?_) (fun h => ?_) <;> try simp only [hC, reduceCtorEq] at h)
  · (refine vU ?_; with_reducible repeat' first | exact Le.l | refine Sw ?_ ?_ | intro h)
    refine congrArg (fun b => AV.v (.bool b)) ?_
    rw [isCamp, stOk, emp_len]; grind
  have hst : stOk x = true := by rw [stOk, emp_len]; grind
  (refine vK ?_; with_reducible repeat' first | exact Le.l | refine Sw ?_ ?_ | intro h)
  refine AW.fact 30 fun hg => ?_
  simp (disch := omega) only [go_sem] at hg
  refine AW.loopV [5, 32] [0, 3, 30, 31] (fun m xs o => ∃ k : Nat, xs = [.sl true 1 (((x.fTasks.take k).map GTask.fDevice).map AV.str), .v (.int .i64 k)] ∧ o = [] ∧ m = x.fTasks.length - k ∧ k ≤ x.fTasks.length ∧ ∀ y ∈ x.fTasks.take k, (!taskOk l x.fState y) = false) x.fTasks.length [] trivial ⟨0, ?_, rfl, rfl, ?_, ?_⟩ ?_
  · rfl
  · omega
  · simp
  rintro m xs o ⟨k, rfl, rfl, rfl, hk, hR⟩
  have hlen : (List.take k x.fTasks).length = k := by rw [List.length_take]; omega
  have hj := idx_lt (p := dvP (at_ x.fTasks k).fDevice) l
  have hi := fun hq => h1 _ (idx_hit (p := dvP (at_ x.fTasks k).fDevice) (l := l) hq).2.2
  have ht : k < x.fTasks.length → wt (at_ x.fTasks k).fTree ≤ 1048576 := fun h => h2 _ (at_mem h)
  (refine vU ?_; with_reducible repeat' first | exact Le.l | refine Sw ?_ ?_ | intro h)
  · rw [camp_no (by assumption) (by rw [taskOk, dvT]; grind)]
  · rename_i h'
    rw [camp_no (by assumption) (by rw [taskOk, dvT]; grind)]
  · rename_i h'
    exact ⟨_, [_, _], _, by omega, ⟨k + 1, by rw [tk1m (by assumption)], rfl, rfl, by omega, take_step' (by assumption) hR (by rw [taskOk, dvT]; grind)⟩, rfl, by simp (maxSteps := 2000000) (disch := omega) only [go_sem]⟩
  · rw [camp_end h hR hst, take_all h]
instance sIsCamp_i (l : List GDevice) (x : GCampaign) : Ctr lim Tryz.prog 36 [] [.sl false 15 (l.map (encDevice false)), .agg [.v (.int .i64 x.fState), .sl false 3 (x.fTasks.map (encTask false))]] (.v (.bool (isCamp l x))) [] ((∀ d ∈ l, wtS d.fStore.fSchema ≤ 1048576) ∧ ∀ t ∈ x.fTasks, wt t.fTree ≤ 1048576) := by
  refine Ctr.of_body en36 Tryz.func36 rfl rfl fun hp => (?_); rw [Tryz.ntmps36]
  have gOn := GrOn.on
  obtain ⟨h1, h2⟩ := hp
  refine AW.fact 0 fun hf => ?_
  simp (disch := omega) only [go_sem] at hf
  refine AW.aggSl 1 rfl (xs := x.fTasks.map (encTask false)) (own := false) (sz := 3) (by simp) fun hg => ?_
  simp (disch := omega) only [go_sem] at hg
  (refine vK ?_; with_reducible repeat' first | exact Le.l | refine Sw ?_ ?_ | intro h)
  refine AW.loopV [5] [0, 3] (fun m xs o => ∃ k : Nat, xs = [.v (.int .i64 k)] ∧ o = [] ∧ m = x.fTasks.length - k ∧ k ≤ x.fTasks.length ∧ (∀ y ∈ x.fTasks.take k, (!taskOk l x.fState y) = false) ∧ allTo (fun i => !cont ((x.fTasks.map GTask.fDevice).take i) (at_ (x.fTasks.map GTask.fDevice) i)) k = true) x.fTasks.length [] trivial ⟨0, ?_, rfl, rfl, ?_, ?_, rfl⟩ ?_
  · rfl
  · omega
  · simp
  rintro m xs o ⟨k, rfl, rfl, rfl, hk, hR, hQ⟩
  have hj := idx_lt (p := dvP (at_ x.fTasks k).fDevice) l
  have hi := fun hq => h1 _ (idx_hit (p := dvP (at_ x.fTasks k).fDevice) (l := l) hq).2.2
  have ht : k < x.fTasks.length → wt (at_ x.fTasks k).fTree ≤ 1048576 := fun h => h2 _ (at_mem h)
  (refine vK ?_; with_reducible repeat' first | exact Le.l | refine Sw ?_ ?_ | intro h)
  (refine AW.i rfl (fun h => ?_) (fun h => ?_) <;> try simp only [hC, reduceCtorEq] at h)
  · have hlk := h
    clear h
    (refine vK ?_; with_reducible repeat' first | exact Le.l | refine Sw ?_ ?_ | intro h)
    rename Nat => b1
    refine AW.loopV [8] [0, 3, 5, 6, 7] (fun m xs o => ∃ j : Nat, xs = [.v (.int .i64 j)] ∧ o = [(b1, some [.str (at_ x.fTasks k).fDevice, .sl false 3 ((at_ x.fTasks k).fTree.map (encNode false)), .v (.int .i64 (at_ x.fTasks k).fState)])] ∧ m = k - j ∧ j ≤ k ∧ ∀ y ∈ ((x.fTasks.map GTask.fDevice).take k).take j, (y == (at_ x.fTasks k).fDevice) = false) k [(b1, some [.str (at_ x.fTasks k).fDevice, .sl false 3 ((at_ x.fTasks k).fTree.map (encNode false)), .v (.int .i64 (at_ x.fTasks k).fState)])] gO ⟨0, rfl, rfl, rfl, by omega, by simp⟩ ?_
    rintro m xs o ⟨j, rfl, rfl, rfl, hjk, hT⟩
    (refine vK ?_; with_reducible repeat' first | exact Le.l | refine Sw ?_ ?_ | intro h)
    (refine AW.i rfl (fun h => ?_) (fun h => ?_) <;> try simp only [hC, reduceCtorEq] at h)
    · (refine vU ?_; with_reducible repeat' first | exact Le.l | refine Sw ?_ ?_ | intro h)
      · rw [camp_dup (by assumption) hlk h]
      · exact ⟨_, [_], _, by omega, ⟨j + 1, rfl, rfl, rfl, by omega, take_step' (by rw [List.length_take, List.length_map]; omega) hT (by rw [at_take (by assumption), at_mapF (by omega)]; simpa using h)⟩, rfl, by simp (maxSteps := 2000000) (disch := omega) only [go_sem]⟩
    · rw [show j = k by omega, List.take_take, Nat.min_self] at hT
      clear h
      (refine vU ?_; with_reducible repeat' first | exact Le.l | refine Sw ?_ ?_ | intro h)
      · rw [camp_no hlk (by rw [taskOk, dvT]; grind)]
      · exact ⟨_, [_], _, by omega, ⟨k + 1, rfl, rfl, rfl, by omega, take_step' hlk hR (by rw [taskOk, dvT]; grind), allTo_step hQ (by rw [at_mapF hlk, cont_free hT]; try rfl)⟩, rfl, by simp (maxSteps := 2000000) (disch := omega) only [go_sem]⟩
  · (refine vU ?_; with_reducible repeat' first | exact Le.l | refine Sw ?_ ?_ | intro h)
    rw [camp_fin h hk hR hQ, stOk, len_z]
    refine congrArg (fun b => AV.v (.bool b)) ?_
    grind

end Go.Proofs.YtmdbmmmlccipdaaGreatDoor
namespace Go.Dt
open Go Go.Ab
theorem devs_fit {l : List GDevice} {r : Int} (h0 : 0 ≤ r) (h1 : r ≤ 1048576) (h : 0 ≤ szSl szDevice l r) : ∀ d ∈ l, wtS d.fStore.fSchema ≤ 1048576 := by
  intro d hd
  obtain ⟨r', p, q, s⟩ := (szSl_fit szDevice szDevice_le l r h0 h).2 d hd
  unfold szDevice at s
  obtain ⟨a, s⟩ := thn_get s
  obtain ⟨b, s⟩ := thn_get s
  unfold szStore at b
  obtain ⟨c, _⟩ := thn_get b
  have e1 := wtS_fit a c
  have e2 := szStr_le d.fName r' p
  omega
theorem tasks_fit {x : GCampaign} {r : Int} (h0 : 0 ≤ r) (h1 : r ≤ 1048576) (h : 0 ≤ szCampaign x r) : ∀ t ∈ x.fTasks, wt t.fTree ≤ 1048576 := by
  intro t ht
  unfold szCampaign at h
  obtain ⟨a, _⟩ := thn_get h
  obtain ⟨r', p, q, s⟩ := (szSl_fit szTask szTask_le x.fTasks r h0 a).2 t ht
  unfold szTask at s
  obtain ⟨b, s⟩ := thn_get s
  obtain ⟨c, _⟩ := thn_get s
  have e1 := wt_fit b c
  have e2 := szStr_le t.fDevice r' p
  omega
end Go.Dt
namespace Go.Ab
theorem vL {A0 A1 A2 A3 A4 A5 A6 A7 A8 A9 A10 A11 G : Prop} (r : (Lf A0 (Lf A1 (Lf A2 (Lf A3 (Lf A4 (Lf A5 (Lf A6 (Lf A7 (Lf A8 (Lf A9 (Lf A10 (Lf A11 Le))))))))))))) (h : Wk A0 A1 A2 A3 A4 A5 A6 A7 A8 A9 A10 A11 G := by
  constructor
  · intro r0 r1 r2 r3 r4 r5 r6 r7 r8 r9 r10 r11 m
    (repeat' first | (with_reducible first | (refine X fun hg => ?_) | refine Z ?_ | refine Y ?_ | (refine hK _ _ ?_; try clear hK K) | refine And.intro ?_ ?_ | exact Ct | intro (K : _ → _ → Prop) hK | (refine gI fun hg => ?_; try simp only [hC, reduceCtorEq] at hg; try simp only [hg])) | (refine AW.i rfl (fun hg => ?_) (fun hg => ?_) <;> try simp only [hC, reduceCtorEq] at hg) | ((with_reducible refine E ?_; repeat refine Y ?_); refine eF rfl ?_) | simp (maxSteps := 2000000) (disch := omega) only [go_sem] | (with_reducible intro hg; try simp only [hC, reduceCtorEq] at hg) | exact Cl | fail)
    all_goals (repeat' first | (with_reducible refine mkE ?_; with_reducible first | exact r0.r | exact r1.r | exact r2.r | exact r3.r | exact r4.r | exact r5.r | exact r6.r | exact r7.r | exact r8.r | exact r9.r | exact r10.r | exact r11.r) | revert ‹_›)
  all_goals first | exact Sl.d | exact Sl.x _) : G := h.go r
end Go.Ab
namespace Go.Proofs.YtmdbmmmlccipdaaGreatDoor
open Go.Ab Go.Dt
set_option maxRecDepth 20000
set_option maxHeartbeats 4000000
attribute [go_sem] encDeviceM_frz encTaskM_frz
theorem lawIsCampaign_A0 (x0 : List Dt.GDevice) (x1 : Dt.GCampaign) (h0 : szSl szDevice x0 1048576 < 0) : Ctr rawL Tryz.prog 6 [] [.sl false 15 (x0.map (encDevice false)), .agg [.v (.int .i64 x1.fState), .sl false 3 (x1.fTasks.map (encTask false))]] (.v (.bool true)) [] True := by
  refine Ctr.of_body en6 Tryz.func6 rfl rfl fun hp => (?_); rw [Tryz.ntmps6]
  all_goals exact uU
theorem lawIsCampaign_A1 (x0 : List Dt.GDevice) (x1 : Dt.GCampaign) (h0 : ¬ szSl szDevice x0 1048576 < 0) (h1 : szCampaign x1 (szSl szDevice x0 1048576) < 0) : Ctr rawL Tryz.prog 6 [] [.sl false 15 (x0.map (encDevice false)), .agg [.v (.int .i64 x1.fState), .sl false 3 (x1.fTasks.map (encTask false))]] (.v (.bool true)) [] True := by
  have le0 := szSl_le szDevice szDevice_le x0 1048576 (by omega)
  refine Ctr.of_body en6 Tryz.func6 rfl rfl fun hp => (?_); rw [Tryz.ntmps6]
  all_goals exact uU
theorem lawIsCampaign_B (x0 : List Dt.GDevice) (x1 : Dt.GCampaign) (h0 : ¬ szSl szDevice x0 1048576 < 0) (h1 : ¬ szCampaign x1 (szSl szDevice x0 1048576) < 0) : Ctr lim Tryz.prog 6 [] [.sl false 15 (x0.map (encDevice false)), .agg [.v (.int .i64 x1.fState), .sl false 3 (x1.fTasks.map (encTask false))]] (.v (.bool true)) [] True := by
  have le0 := szSl_le szDevice szDevice_le x0 1048576 (by omega)
  have le1 := szCampaign_le x1 (szSl szDevice x0 1048576) (by omega)
  have hd1 := devs_fit (l := x0) (r := 1048576) (by omega) (by omega) (by omega)
  have hd2 := tasks_fit (x := x1) (r := szSl szDevice x0 1048576) (by omega) (by omega) (by omega)
  refine Ctr.of_body en6 Tryz.func6 rfl rfl fun hp => (?_); rw [Tryz.ntmps6]
  (refine vL ?_; with_reducible repeat' first | exact Le.l | refine Sw ?_ ?_ | intro h)
  all_goals first | exact hd1 _ (by assumption) | exact hd2 _ (by assumption)
theorem lawIsCampaign_c (x0 : List Dt.GDevice) (x1 : Dt.GCampaign) : LawC Tryz.prog 6 [.sl false 15 (x0.map (encDevice false)), encCampaign false x1] := by
  by_cases h0 : szSl szDevice x0 1048576 < 0
  · exact .raw (lawIsCampaign_A0 x0 x1 h0) trivial
  have le0 := szSl_le szDevice szDevice_le x0 1048576 (by omega)
  by_cases h1 : szCampaign x1 (szSl szDevice x0 1048576) < 0
  · exact .raw (lawIsCampaign_A1 x0 x1 h0 h1) trivial
  have le1 := szCampaign_le x1 (szSl szDevice x0 1048576) (by omega)
  exact .fit ⟨fits_sl (f := szDevice) szDevice_le x0 1048576 (by omega) (by omega) (by omega) fun y hy r' p q s => fitDevice y r' p q s, fitCampaign x1 (szSl szDevice x0 1048576) (by omega) (by omega) (by omega), trivial⟩ (lawIsCampaign_B x0 x1 h0 h1) trivial
end Go.Proofs.YtmdbmmmlccipdaaGreatDoor
namespace Go.Proofs.YtmdbmmmlccipdaaGreatDoor.fnExactIsCampaign
theorem s1 : laidOutB Tryz.prog = true := by kernel_rfl
theorem s2 : mapsRowed Tryz.prog = true := by kernel_rfl
theorem s3 : (Rows.fnExactIsCampaignRow.inPlace == Program.inPlace Tryz.prog 6) = true := by kernel_rfl
theorem s4 : (Rows.fnExactIsCampaignRow.unfollowed == Program.unfollowed Tryz.prog 6) = true := by kernel_rfl
theorem s5 : (Rows.fnExactIsCampaignRow.recurses == Program.recurses Tryz.prog 6) = true := by kernel_rfl
theorem s6 : (Rows.fnExactIsCampaignRow.named == Program.varsNamed Tryz.prog 6) = true := by kernel_rfl
theorem closed : joinedFacts Tryz.prog 6 Tryz.f6 Rows.fnExactIsCampaignSpec Rows.fnExactIsCampaignRow = true := by
  unfold joinedFacts
  rw [s1, s2, s3, s4, s5, s6]
  kernel_rfl
end Go.Proofs.YtmdbmmmlccipdaaGreatDoor.fnExactIsCampaign
namespace Go.Ab
open Go.Dt
/-- a table that stands anywhere on a row's list -/
theorem tabIs_mem {P : Program} {W : World} {name : String} {k : IntKind} {zs : List Int} {g : Nat} {t e : TypeId} {n : Nat}
    (hg : P.globalNamed name = some g) (hty : (P.globals[g]?).map (·.type) = some t) (ht : P.underlying t = some (.array n e)) (he : P.underlying e = some (.int k)) (hce : P.cellsOf e = 1) (hct : P.cellsOf t = n) :
    ∀ {l : List (String × DataW Unit)} {ps : List MemPlace}, (name, Lib.tabData k zs) ∈ l → DataW.LaidVars P W l ps → Lib.TabIs P W name k zs
  | [], _, hm, _ => by cases hm
  | (nm, d) :: r, ps, hm, h => by
    obtain ⟨g', t', cs, fuel, p, q, hg', ht', hvar, hd, hr, _⟩ := h
    rcases List.mem_cons.1 hm with e1 | hm
    · obtain ⟨rfl, rfl⟩ := Prod.mk.inj e1
      obtain rfl := Option.some.inj (hg.symm.trans hg')
      obtain rfl := Option.some.inj (hty.symm.trans ht')
      unfold Lib.TabIs
      rw [hvar, ← Lib.cells_of_tab ht he hce hct hd]
    · exact tabIs_mem hg hty ht he hce hct hm hr
theorem laid_met {P : Program} {os : Os} {laid : List (String × DataW Unit)} (args : Array Value) (hp : (laid.all fun x => x.2.handleName?.isNone) = true)
    (hf : (World.holding P os ⟨#[], #[], []⟩).layFits P laid [] = true)
    (hi : (World.holding P os ⟨#[], #[], []⟩).layIfaces P laid (World.laidAll P os laid) = true) :
    laidMetH P laid ((World.laidAll P os laid).forCall (fun _ _ => 0) ⟨#[], args, []⟩).memory := by
  rw [MakeChecks.laidMetH_plain _ _ _ hp]; exact laidMet_laidAll args hf hi
end Go.Ab
