/-
  Part of a proof: Sc8, Sk3, ScB, Sc9, ScA, AbA.
-/
import Derived.Test.YtmdbmmmlccipdaaGreatDoorG15
import Derived.Test.YtmdbmmmlccipdaaGreatDoorG17
import Derived.Test.YtmdbmmmlccipdaaGreatDoorG19
import Derived.Test.YtmdbmmmlccipdaaGreatDoorG34
import Derived.Test.YtmdbmmmlccipdaaGreatDoorG38
import Derived.Test.YtmdbmmmlccipdaaGreatDoorG41
set_option linter.unusedSimpArgs false
set_option linter.unusedVariables false
namespace Go.Proofs.YtmdbmmmlccipdaaGreatDoor
open Go.Ab Go.Dt
set_option maxRecDepth 20000
set_option maxHeartbeats 4000000
attribute [local go_sem] frzL_str encSchemaM_frz schAll schOne
instance iAlone_i (x : GSchema) : Ctr lim Tryz.prog 202 [] [.agg [.v (.int .i64 x.fKind), .str x.fName, .v (.int .i64 x.fType.fKind), .sl false 2 (x.fType.fRanges.map (encRange false)), .sl false 1 (x.fType.fNames.map AV.str), .str x.fType.fPattern, .str x.fType.fPath, .sl false 1 (x.fKeys.map AV.str), .sl false 1 (x.fUnique.map AV.str), .str x.fDefault, .v (.bool x.fGiven), .v (.bool x.fNeeded), .v (.bool x.fPresent), .v (.bool x.fFixed), .v (.int .i64 x.fMin), .v (.int .i64 x.fMax), .sl false 7 (x.fWhen.map (encExpr false)), .sl false 7 (x.fMust.map (encExpr false)), .sl false 19 (x.fKids.map (encSchema false))]] (.v (.bool (aloneI x))) [] (depEL x.fWhen ≤ 1048576 ∧ depEL x.fMust ≤ 1048576 ∧ x.fDefault.length ≤ 1048576) := by
  refine Ctr.of_body en202 Tryz.func202 rfl rfl fun hp => (?_); rw [Tryz.ntmps202]
  have gOn := GrOn.on
  obtain ⟨hw, hm, hd⟩ := hp
  refine AW.fact 0 fun hf => ?_
  simp (disch := omega) only [go_sem] at hf
  have hfk : x.fKeys.length + x.fUnique.length ≤ 4294967296000 := by omega
  clear hf
  (refine vK ?_; with_reducible repeat' first | exact Le.l | refine Sw ?_ ?_ | intro h)
  (refine AW.i rfl (fun h => ?_) (fun h => ?_) <;> try simp only [hC, reduceCtorEq] at h)
  · (refine vU ?_; with_reducible repeat' first | exact Le.l | refine Sw ?_ ?_ | intro h)
    refine congrArg (fun b => AV.v (.bool b)) ?_
    rw [aloneI, baseR]; grind
  have hbase : baseR x = true := by rw [baseR]; grind
  clear h
  (refine vN ?_; with_reducible repeat' first | exact Le.l | refine Sw ?_ ?_ | intro h)
  refine Z ?_
  intro K hK
  simp only [List.append_eq, List.cons_append, List.nil_append]
  (refine vN ?_; with_reducible repeat' first | exact Le.l | refine Sw ?_ ?_ | intro h)
  (refine AW.i rfl (fun h => ?_) (fun h => ?_) <;> try simp only [hC, reduceCtorEq] at h)
  · (refine vU ?_; with_reducible repeat' first | exact Le.l | refine Sw ?_ ?_ | intro h)
    refine congrArg (fun b => AV.v (.bool b)) ?_
    rw [aloneI, hbase, Bool.true_and, shape_no h]; try rfl
  have hsh := shape_yes h
  clear h
  (refine vU ?_; with_reducible repeat' first | exact Le.l | refine Sw ?_ ?_ | intro h)
  all_goals refine congrArg (fun b => AV.v (.bool b)) ?_
  all_goals rw [aloneI, hbase, hsh, Bool.true_and, Bool.true_and]
  all_goals first | exact kd_t (by omega) | exact kd_2 (by assumption) | exact kd_3 (by assumption) | exact kd_4 (by assumption) | exact kd_7 (by assumption) | exact kd_n (by assumption) (by assumption) (by assumption) (by assumption) (by assumption) (by assumption) (by assumption)

end Go.Proofs.YtmdbmmmlccipdaaGreatDoor
namespace Go.Dt
open Go Go.Ab
section
variable {l : List GSchema} {k : Nat} {kind : Int} {bd : Bool} {x : GSchema}
theorem kR_no (h : k < l.length) (hR : kA (l.drop k) kind bd = kA l kind bd) (e : oneI kind bd (at_ l k) = false) : kR l kind bd = false := by
  rw [kA_at h, e] at hR; rw [kR, ← hR]; simp
theorem kR_kid (h : k < l.length) (hR : kA (l.drop k) kind bd = kA l kind bd) (e : kR (at_ l k).fKids (at_ l k).fKind (bd || !(at_ l k).fWhen.isEmpty || decide ((at_ l k).fKind = 6)) = false) : kR l kind bd = false := by
  rw [kA_at h] at hR; rw [kR] at e; rw [kR, ← hR, e]; simp
theorem kR_step (h : k < l.length) (hR : kA (l.drop k) kind bd = kA l kind bd) (e1 : oneI kind bd (at_ l k) = true) (e2 : kR (at_ l k).fKids (at_ l k).fKind (bd || !(at_ l k).fWhen.isEmpty || decide ((at_ l k).fKind = 6)) = true) : kA (l.drop (k + 1)) kind bd = kA l kind bd := by
  rw [kA_at h, e1] at hR; rw [kR] at e2; rw [← hR, e2]; simp
theorem kR_end (hd : diffI l kind = true) (h : ¬ k < l.length) (hR : kA (l.drop k) kind bd = kA l kind bd) : kR l kind bd = true := by
  rw [drop_end h, kA] at hR; rw [kR, ← hR, hd]; try rfl
theorem one_key {j : Nat} (h : j < x.fKeys.length) (e : keyI x.fKids (at_ x.fKeys j) = false) : oneI kind bd x = false := by
  rw [oneI, all_no h e]; simp
theorem one_unq {j : Nat} (h : j < x.fUnique.length) (e : unqI x.fKids (at_ x.fUnique j) = false) : oneI kind bd x = false := by
  rw [oneI, all_no h e]; simp
theorem one_yes {i j : Nat} (e : (aloneI x && !decide (x.fKind = 7) && (decide (x.fKind = 6) == decide (kind = 5)) && !(x.fGiven && bd)) = true) (h1 : ¬ i < x.fKeys.length) (e1 : ∀ y ∈ x.fKeys.take i, (!keyI x.fKids y) = false) (h2 : ¬ j < x.fUnique.length) (e2 : ∀ y ∈ x.fUnique.take j, (!unqI x.fKids y) = false) : oneI kind bd x = true := by
  rw [oneI, e, all_yes h1 e1, all_yes h2 e2]; try rfl
theorem one_no (e : (aloneI x && !decide (x.fKind = 7) && (decide (x.fKind = 6) == decide (kind = 5)) && !(x.fGiven && bd)) = false) : oneI kind bd x = false := by
  rw [oneI, e]; try rfl
end
end Go.Dt
namespace Go.Proofs.YtmdbmmmlccipdaaGreatDoor
open Go.Ab Go.Dt
set_option maxRecDepth 20000
set_option maxHeartbeats 4000000
attribute [local go_sem] frzL_str encSchemaM_frz schAll schOne schF
theorem iKids_n : ∀ (n : Nat) (l : List GSchema) (kind : Int) (bd : Bool), Ctr lim Tryz.prog 155 [] [.sl false 19 (l.map (encSchema false)), .v (.int .i64 kind), .v (.bool bd)] (.v (.bool (kR l kind bd))) [] (SizeOf.sizeOf l < n ∧ wtS l ≤ 1048576)
  | 0, l, _, _ => ⟨en155, fun h => absurd h.1 (Nat.not_lt_zero _)⟩
  | n + 1, l, kind, bd => by
    have ih := iKids_n n
    refine Ctr.of_body en155 Tryz.func155 rfl rfl fun hp => (?_); rw [Tryz.ntmps155]
    have gOn := GrOn.on
    obtain ⟨hs, hb⟩ := hp
    have hc := cnt_wtS l
    refine AW.fact 0 fun hf => ?_
    simp (disch := omega) only [go_sem] at hf
    (refine vK ?_; with_reducible repeat' first | exact Le.l | refine Sw ?_ ?_ | intro h)
    (refine AW.i rfl (fun h => ?_) (fun h => ?_) <;> try simp only [hC, reduceCtorEq] at h)
    · (refine vU ?_; with_reducible repeat' first | exact Le.l | refine Sw ?_ ?_ | intro h)
      refine congrArg (fun b => AV.v (.bool b)) ?_
      rw [kR, diffI]; grind
    (refine vK ?_; with_reducible repeat' first | exact Le.l | refine Sw ?_ ?_ | intro h)
    have hd : diffI l kind = true := by rw [diffI]; grind
    clear h
    refine AW.loopV [38] [0, 1, 2, 36, 37] (fun m xs o => ∃ k : Nat, xs = [.v (.int .i64 k)] ∧ o = [] ∧ m = l.length - k ∧ k ≤ l.length ∧ kA (l.drop k) kind bd = kA l kind bd) l.length [] trivial ⟨0, ?_, rfl, rfl, ?_, rfl⟩ ?_
    · rfl
    · omega
    rintro m xs o ⟨k, rfl, rfl, rfl, hk, hR⟩
    (refine vK ?_; with_reducible repeat' first | exact Le.l | refine Sw ?_ ?_ | intro h)
    (refine AW.i rfl (fun h => ?_) (fun h => ?_) <;> try simp only [hC, reduceCtorEq] at h)
    · have hw := wtS_kid (at_mem h)
      have hsz := GSchema.kids_lt (at_mem h)
      have hlk := h
      clear h
      (refine vK ?_; with_reducible repeat' first | exact Le.l | refine Sw ?_ ?_ | intro h)
      (refine AW.i rfl (fun h => ?_) (fun h => ?_) <;> try simp only [hC, reduceCtorEq] at h)
      · (refine vU ?_; with_reducible repeat' first | exact Le.l | refine Sw ?_ ?_ | intro h)
        rw [kR_no hlk hR (one_no (by grind))]
      have ho : (aloneI (at_ l k) && !decide ((at_ l k).fKind = 7) && (decide ((at_ l k).fKind = 6) == decide (kind = 5)) && !((at_ l k).fGiven && bd)) = true := by grind
      clear h
      (refine vK ?_; with_reducible repeat' first | exact Le.l | refine Sw ?_ ?_ | intro h)
      rename Nat => b
      refine AW.fact 66 fun hf68 => ?_
      simp (disch := omega) only [go_sem] at hf68
      refine AW.loopV [68] [0, 1, 2, 8, 36, 37, 38, 66, 67] (fun m xs o => ∃ j : Nat, xs = [.v (.int .i64 j)] ∧ o = [(b, some [.v (.int .i64 (at_ l k).fKind), .str (at_ l k).fName, .v (.int .i64 (at_ l k).fType.fKind), .sl false 2 ((at_ l k).fType.fRanges.map (encRange false)), .sl false 1 ((at_ l k).fType.fNames.map AV.str), .str (at_ l k).fType.fPattern, .str (at_ l k).fType.fPath, .sl false 1 ((at_ l k).fKeys.map AV.str), .sl false 1 ((at_ l k).fUnique.map AV.str), .str (at_ l k).fDefault, .v (.bool (at_ l k).fGiven), .v (.bool (at_ l k).fNeeded), .v (.bool (at_ l k).fPresent), .v (.bool (at_ l k).fFixed), .v (.int .i64 (at_ l k).fMin), .v (.int .i64 (at_ l k).fMax), .sl false 7 ((at_ l k).fWhen.map (encExpr false)), .sl false 7 ((at_ l k).fMust.map (encExpr false)), .sl false 19 ((at_ l k).fKids.map (encSchema false))])] ∧ m = (at_ l k).fKeys.length - j ∧ j ≤ (at_ l k).fKeys.length ∧ ∀ y ∈ (at_ l k).fKeys.take j, (!keyI (at_ l k).fKids y) = false) (at_ l k).fKeys.length [(b, some [.v (.int .i64 (at_ l k).fKind), .str (at_ l k).fName, .v (.int .i64 (at_ l k).fType.fKind), .sl false 2 ((at_ l k).fType.fRanges.map (encRange false)), .sl false 1 ((at_ l k).fType.fNames.map AV.str), .str (at_ l k).fType.fPattern, .str (at_ l k).fType.fPath, .sl false 1 ((at_ l k).fKeys.map AV.str), .sl false 1 ((at_ l k).fUnique.map AV.str), .str (at_ l k).fDefault, .v (.bool (at_ l k).fGiven), .v (.bool (at_ l k).fNeeded), .v (.bool (at_ l k).fPresent), .v (.bool (at_ l k).fFixed), .v (.int .i64 (at_ l k).fMin), .v (.int .i64 (at_ l k).fMax), .sl false 7 ((at_ l k).fWhen.map (encExpr false)), .sl false 7 ((at_ l k).fMust.map (encExpr false)), .sl false 19 ((at_ l k).fKids.map (encSchema false))])] gO ⟨0, rfl, rfl, rfl, by omega, by simp⟩ ?_
      rintro m xs o ⟨j, rfl, rfl, rfl, hj, hS⟩
      (refine vK ?_; with_reducible repeat' first | exact Le.l | refine Sw ?_ ?_ | intro h)
      (refine AW.i rfl (fun h => ?_) (fun h => ?_) <;> try simp only [hC, reduceCtorEq] at h)
      · by_cases hq : 0 ≤ idx (leafS (at_ (at_ l k).fKeys j)) (at_ l k).fKids
        · haveI := iLeaf_yes (at_ l k).fKids (at_ (at_ l k).fKeys j)
          (refine vU ?_; with_reducible repeat' first | exact Le.l | refine Sw ?_ ?_ | intro h)
          · rw [kR_no hlk hR (one_key (by assumption) (by rw [keyI, keyR, emp_len]; grind))]
          · exact ⟨_, [_], _, by omega, ⟨j + 1, rfl, rfl, rfl, by omega, take_step' (by assumption) hS (by rw [keyI, keyR, emp_len]; grind)⟩, rfl, by simp (maxSteps := 2000000) (disch := omega) only [go_sem]⟩
        · haveI := iLeaf_no (at_ l k).fKids (at_ (at_ l k).fKeys j)
          (refine vU ?_; with_reducible repeat' first | exact Le.l | refine Sw ?_ ?_ | intro h)
          rw [kR_no hlk hR (one_key (by assumption) (by rw [keyI]; grind))]
      have hj2 := h
      clear h
      (refine vK ?_; with_reducible repeat' first | exact Le.l | refine Sw ?_ ?_ | intro h)
      refine AW.fact 99 fun hf101 => ?_
      simp (disch := omega) only [go_sem] at hf101
      refine AW.loopV [101] [0, 1, 2, 8, 36, 37, 38, 99, 100] (fun m xs o => ∃ i : Nat, xs = [.v (.int .i64 i)] ∧ o = [(b, some [.v (.int .i64 (at_ l k).fKind), .str (at_ l k).fName, .v (.int .i64 (at_ l k).fType.fKind), .sl false 2 ((at_ l k).fType.fRanges.map (encRange false)), .sl false 1 ((at_ l k).fType.fNames.map AV.str), .str (at_ l k).fType.fPattern, .str (at_ l k).fType.fPath, .sl false 1 ((at_ l k).fKeys.map AV.str), .sl false 1 ((at_ l k).fUnique.map AV.str), .str (at_ l k).fDefault, .v (.bool (at_ l k).fGiven), .v (.bool (at_ l k).fNeeded), .v (.bool (at_ l k).fPresent), .v (.bool (at_ l k).fFixed), .v (.int .i64 (at_ l k).fMin), .v (.int .i64 (at_ l k).fMax), .sl false 7 ((at_ l k).fWhen.map (encExpr false)), .sl false 7 ((at_ l k).fMust.map (encExpr false)), .sl false 19 ((at_ l k).fKids.map (encSchema false))])] ∧ m = (at_ l k).fUnique.length - i ∧ i ≤ (at_ l k).fUnique.length ∧ ∀ y ∈ (at_ l k).fUnique.take i, (!unqI (at_ l k).fKids y) = false) (at_ l k).fUnique.length [(b, some [.v (.int .i64 (at_ l k).fKind), .str (at_ l k).fName, .v (.int .i64 (at_ l k).fType.fKind), .sl false 2 ((at_ l k).fType.fRanges.map (encRange false)), .sl false 1 ((at_ l k).fType.fNames.map AV.str), .str (at_ l k).fType.fPattern, .str (at_ l k).fType.fPath, .sl false 1 ((at_ l k).fKeys.map AV.str), .sl false 1 ((at_ l k).fUnique.map AV.str), .str (at_ l k).fDefault, .v (.bool (at_ l k).fGiven), .v (.bool (at_ l k).fNeeded), .v (.bool (at_ l k).fPresent), .v (.bool (at_ l k).fFixed), .v (.int .i64 (at_ l k).fMin), .v (.int .i64 (at_ l k).fMax), .sl false 7 ((at_ l k).fWhen.map (encExpr false)), .sl false 7 ((at_ l k).fMust.map (encExpr false)), .sl false 19 ((at_ l k).fKids.map (encSchema false))])] gO ⟨0, rfl, rfl, rfl, by omega, by simp⟩ ?_
      rintro m xs o ⟨i, rfl, rfl, rfl, hi, hT⟩
      (refine vK ?_; with_reducible repeat' first | exact Le.l | refine Sw ?_ ?_ | intro h)
      (refine AW.i rfl (fun h => ?_) (fun h => ?_) <;> try simp only [hC, reduceCtorEq] at h)
      · by_cases hq : 0 ≤ idx (leafS (at_ (at_ l k).fUnique i)) (at_ l k).fKids
        · haveI := iLeaf_yes (at_ l k).fKids (at_ (at_ l k).fUnique i)
          (refine vU ?_; with_reducible repeat' first | exact Le.l | refine Sw ?_ ?_ | intro h)
          exact ⟨_, [_], _, by omega, ⟨i + 1, rfl, rfl, rfl, by omega, take_step' (by assumption) hT (by rw [unqI]; grind)⟩, rfl, by simp (maxSteps := 2000000) (disch := omega) only [go_sem]⟩
        · haveI := iLeaf_no (at_ l k).fKids (at_ (at_ l k).fUnique i)
          (refine vU ?_; with_reducible repeat' first | exact Le.l | refine Sw ?_ ?_ | intro h)
          rw [kR_no hlk hR (one_unq (by assumption) (by rw [unqI]; grind))]
      have hi2 := h
      clear h
      (refine vU ?_; with_reducible repeat' first | exact Le.l | refine Sw ?_ ?_ | intro h)
      · rw [kR_kid hlk hR (by rw [decP, len_p, beq_dec] at h; exact h)]
      · exact ⟨_, [_], _, by omega, ⟨k + 1, rfl, rfl, rfl, by omega, kR_step hlk hR (one_yes ho hj2 hS hi2 hT) (by rw [decP, len_p, beq_dec] at h; exact h)⟩, rfl, by simp (maxSteps := 2000000) (disch := omega) only [go_sem]⟩
    · (refine vU ?_; with_reducible repeat' first | exact Le.l | refine Sw ?_ ?_ | intro h)
      rw [kR_end hd h hR]

end Go.Proofs.YtmdbmmmlccipdaaGreatDoor
namespace Go.Proofs.YtmdbmmmlccipdaaGreatDoor
open Go.Ab Go.Dt
set_option maxRecDepth 20000
set_option maxHeartbeats 4000000
attribute [local go_sem] frzL_str encSchemaM_frz schAll schOne
theorem list_key {x : GSchema} {k : Nat} (h : k < x.fKeys.length) (e : keyS x.fKids (at_ x.fKeys k) = false) : listS x = false := by
  rw [listS, all_no h e]; try rfl
theorem list_unq {x : GSchema} {k : Nat} (h : k < x.fUnique.length) (e : unqS x.fKids (at_ x.fUnique k) = false) : listS x = false := by
  rw [listS, all_no h e]; simp
theorem list_end {x : GSchema} (h1 : x.fKeys.all (keyS x.fKids) = true) (h2 : x.fUnique.all (unqS x.fKids) = true) : listS x = (noTy x.fType && !x.fKeys.isEmpty && (diffs x.fKeys && decide (x.fKeys.length ≤ 3)) && (diffs x.fUnique && decide (x.fUnique.length ≤ 3)) && sizeR x && !x.fGiven && !x.fNeeded && !x.fPresent && !x.fFixed && x.fDefault.isEmpty) := by
  rw [listS, h1, h2]; try rfl
instance sList_i (x : GSchema) : Ctr lim Tryz.prog 210 [] [.agg [.v (.int .i64 x.fKind), .str x.fName, .v (.int .i64 x.fType.fKind), .sl false 2 (x.fType.fRanges.map (encRange false)), .sl false 1 (x.fType.fNames.map AV.str), .str x.fType.fPattern, .str x.fType.fPath, .sl false 1 (x.fKeys.map AV.str), .sl false 1 (x.fUnique.map AV.str), .str x.fDefault, .v (.bool x.fGiven), .v (.bool x.fNeeded), .v (.bool x.fPresent), .v (.bool x.fFixed), .v (.int .i64 x.fMin), .v (.int .i64 x.fMax), .sl false 7 (x.fWhen.map (encExpr false)), .sl false 7 (x.fMust.map (encExpr false)), .sl false 19 (x.fKids.map (encSchema false))]] (.v (.bool (listS x))) [] True := by
  refine Ctr.of_body en210 Tryz.func210 rfl rfl fun hp => (?_); rw [Tryz.ntmps210]
  have gOn := GrOn.on
  refine AW.fact 0 fun hf => ?_
  simp (disch := omega) only [go_sem] at hf
  (refine vU ?_; with_reducible repeat' first | exact Le.l | refine Sw ?_ ?_ | intro h)
  refine AW.loopV [3] [1] (fun m xs o => ∃ k : Nat, xs = [.v (.int .i64 k)] ∧ o = [] ∧ m = x.fKeys.length - k ∧ k ≤ x.fKeys.length ∧ ∀ y ∈ x.fKeys.take k, (!keyS x.fKids y) = false) x.fKeys.length [] trivial ⟨0, ?_, rfl, rfl, ?_, ?_⟩ ?_
  · rfl
  · omega
  · simp
  rintro m xs o ⟨k, rfl, rfl, rfl, hk, hR⟩
  have hi := idx_ge (nmP (at_ x.fKeys k)) x.fKids
  have hj := idx_lt (p := nmP (at_ x.fKeys k)) x.fKids
  (refine vK ?_; with_reducible repeat' first | exact Le.l | refine Sw ?_ ?_ | intro h)
  (refine AW.i rfl (fun h => ?_) (fun h => ?_) <;> try simp only [hC, reduceCtorEq] at h)
  · (refine vU ?_; with_reducible repeat' first | exact Le.l | refine Sw ?_ ?_ | intro h)
    · rw [list_key (by assumption) (by rw [keyS, keyR, emp_len]; grind)]
    · exact ⟨_, [_], [], by omega, ⟨k + 1, rfl, rfl, rfl, by omega, take_step' (by assumption) hR (by rw [keyS, keyR, emp_len]; grind)⟩, rfl, trivial⟩
  · (refine vK ?_; with_reducible repeat' first | exact Le.l | refine Sw ?_ ?_ | intro h)
    refine AW.loopV [5] [1] (fun m xs o => ∃ k : Nat, xs = [.v (.int .i64 k)] ∧ o = [] ∧ m = x.fUnique.length - k ∧ k ≤ x.fUnique.length ∧ ∀ y ∈ x.fUnique.take k, (!unqS x.fKids y) = false) x.fUnique.length [] trivial ⟨0, ?_, rfl, rfl, ?_, ?_⟩ ?_
    · rfl
    · omega
    · simp
    rintro m xs o ⟨j, rfl, rfl, rfl, hj, hS⟩
    have hi := idx_ge (nmP (at_ x.fUnique j)) x.fKids
    have hj := idx_lt (p := nmP (at_ x.fUnique j)) x.fKids
    (refine vU ?_; with_reducible repeat' first | exact Le.l | refine Sw ?_ ?_ | intro h)
    · rw [list_unq (by assumption) (by rw [unqS]; grind)]
    · exact ⟨_, [_], [], by omega, ⟨j + 1, rfl, rfl, rfl, by omega, take_step' (by assumption) hS (by rw [unqS]; grind)⟩, rfl, trivial⟩
    · rw [list_end (all_yes (by assumption) hR) (all_yes (by assumption) hS), decP, len_p, emp_beq]

end Go.Proofs.YtmdbmmmlccipdaaGreatDoor
namespace Go.Proofs.YtmdbmmmlccipdaaGreatDoor
open Go.Ab Go.Dt
set_option maxRecDepth 20000
set_option maxHeartbeats 4000000
attribute [local go_sem] frzL_str encSchemaM_frz schAll schOne
instance sNode_i (x : GSchema) (fr : Bool) : Ctr lim Tryz.prog 161 [] [.agg [.v (.int .i64 x.fKind), .str x.fName, .v (.int .i64 x.fType.fKind), .sl false 2 (x.fType.fRanges.map (encRange false)), .sl false 1 (x.fType.fNames.map AV.str), .str x.fType.fPattern, .str x.fType.fPath, .sl false 1 (x.fKeys.map AV.str), .sl false 1 (x.fUnique.map AV.str), .str x.fDefault, .v (.bool x.fGiven), .v (.bool x.fNeeded), .v (.bool x.fPresent), .v (.bool x.fFixed), .v (.int .i64 x.fMin), .v (.int .i64 x.fMax), .sl false 7 (x.fWhen.map (encExpr false)), .sl false 7 (x.fMust.map (encExpr false)), .sl false 19 (x.fKids.map (encSchema false))], .v (.bool fr)] (.v (.bool (nodeS x fr))) [] (depEL x.fWhen ≤ 1048576 ∧ depEL x.fMust ≤ 1048576 ∧ x.fDefault.length ≤ 1048576) := by
  refine Ctr.of_body en161 Tryz.func161 rfl rfl fun hp => (?_); rw [Tryz.ntmps161]
  have gOn := GrOn.on
  obtain ⟨hw, hm, hd⟩ := hp
  (refine vU ?_; with_reducible repeat' first | exact Le.l | refine Sw ?_ ?_ | intro h)
  all_goals refine congrArg (fun b => AV.v (.bool b)) ?_
  · rw [nodeS, baseR]; grind
  all_goals have hb : baseR x = true := by rw [baseR]; grind
  all_goals rw [nodeS, hb, kindS, Bool.true_and]
  all_goals try simp only [len_z]
  all_goals try simp only [emp_beq, beq_dec]
  all_goals repeat' split
  all_goals first | rfl | (exfalso; omega) | (exfalso; simp_all; done)

end Go.Proofs.YtmdbmmmlccipdaaGreatDoor
namespace Go.Ab
section
variable {L : Nat → Nat} {n : Nat} {t : List (Nat × AV)} {o : Sto} {Q : AS → Prop}
/-- what was appended to a slice in an object's cell -/
theorem Imp.foldA {b0 k b sz : Nat} {cells0 l : List AV} (x : AV) (hO0 : O o b0 = some cells0) (hk : cells0[k]? = some (.arr b 0 (l.length + 1) sz)) (hO : O o b = some (l.flatMap AV.cells ++ x.cells)) (hne : b ≠ b0) (hel : ∀ y, y ∈ l → y.elem sz = true) (hx : x.elem sz = true)
    (h : Q ⟨n, t, (b, none) :: (b0, some (cells0.set k (.sl true sz (l ++ [x])))) :: o⟩) : Imp L ⟨n, t, o⟩ Q := by
  have hel' : ∀ y, y ∈ l ++ [x] → y.elem sz = true := by
    intro y hy
    rcases List.mem_append.1 hy with hy | hy
    · exact hel y hy
    · rw [List.mem_singleton.1 hy]; exact hx
  refine Imp.foldO (b0 := b0) (k := k) (b := b) (len := l.length + 1) (sz := sz) (l := l ++ [x]) hO0 hk hO hne (by simp) ?_ hel' h
  have h1 := flat_elem_len hel'
  rw [List.length_append, List.length_singleton, List.flatMap_append, List.flatMap_cons, List.flatMap_nil, List.append_nil] at h1
  rw [List.flatMap_append, List.flatMap_cons, List.flatMap_nil, List.append_nil, List.take_of_length_le (Nat.le_of_eq h1)]
end
end Go.Ab
