/-
  Part of a proof: Pa1, Pt8, Pt9, Ps1, Ps2.
-/
import Derived.Test.YtfglembdjbhanaaGreatDoorG20
import Derived.Test.YtfglembdjbhanaaGreatDoorG36
set_option linter.unusedSimpArgs false
set_option linter.unusedVariables false
namespace Go.Dt
open Go.Ab
@[go_sem] theorem toNat256 : Int.toNat 256 = 256 := rfl
def rep256 : List (List Value) := List.replicate 256 [.bool false]
@[go_sem high] theorem rep256_eq : List.replicate 256 [Value.bool false] = rep256 := rfl
@[go_sem] theorem rep256_has : rep256.flatten.map avz = hasC (fun _ => false) := by
  have e : rep256.flatten = arr0 := by
    unfold rep256 arr0
    rw [List.flatten_replicate_singleton]
  rw [e, hasC_zero]
theorem pats_fl (l : List GPat) : ((l.map encPat).flatMap AV.cells).length = l.length * 3 := by
  induction l with
  | nil => rfl
  | cons x xs ih =>
    have e : (encPat x).cells.length = 3 := by rw [encPat_eq]; rfl
    simp only [List.map_cons, List.flatMap_cons, List.length_append, ih, e, List.length_cons]; omega
theorem pats_el (l : List GPat) : ∀ x, x ∈ l.map encPat → x.elem 3 = true := by
  have := pats_elem l
  rw [List.all_eq_true] at this; exact this
end Go.Dt
namespace Go.Proofs.YtfglembdjbhanaaGreatDoor
open Go.Ab Go.Dt
set_option maxRecDepth 20000
set_option maxHeartbeats 4000000

instance l5Any_i : Ctr lim Tryz.prog 151 [] [] (.str (clsT (fun c => decide (32 ≤ c) && decide (c < 127)))) [] True := by
  refine Ctr.of_body en151 Tryz.func151 rfl rfl fun hp => (?_); rw [Tryz.ntmps151]
  (refine vU ?_; with_reducible repeat' first | exact Le.l | refine Sw ?_ ?_ | intro (K : _ → _ → Prop) hK | intro h)
  have hlow : clsU (fun c => decide (32 ≤ c) && decide (c < 127)) 32 = [] := by
    unfold clsU
    have : (List.range 32).filter (fun c => decide (32 ≤ c) && decide (c < 127)) = [] := by
      rw [List.filter_eq_nil_iff]; intro a ha; simp at ha ⊢; omega
    rw [this]; rfl
  refine AW.loopV [1, 2] [] (fun m xs o => ∃ k : Nat, xs = [.sl true 1 (bytesA (clsU (fun c => decide (32 ≤ c) && decide (c < 127)) k)), .v (.int .i64 k)] ∧ o = [] ∧ m = 127 - k ∧ 32 ≤ k ∧ k ≤ 127) 95 [] trivial ⟨32, ?_, rfl, rfl, ?_, ?_⟩ ?_
  · rw [hlow]; rfl
  · omega
  · omega
  rintro m xs o ⟨k, rfl, rfl, rfl, hk0, hk⟩
  have hl := clsU_le (fun c => decide (32 ≤ c) && decide (c < 127)) k
  have hs := clsU_step (fun c => decide (32 ≤ c) && decide (c < 127)) k
  (refine vU ?_; with_reducible repeat' first | exact Le.l | refine Sw ?_ ?_ | intro (K : _ → _ → Prop) hK | intro h)
  · rw [if_pos (by simp; omega)] at hs
    exact ⟨_, [_, _], [], by omega, ⟨k + 1, by rw [hs, ← byte_end _ (by omega)], rfl, rfl, by omega, by omega⟩, rfl, trivial⟩
  · have : k = 127 := by omega
    subst this
    congr 1
theorem l5Twin_n : ∀ (n : Nat) (op : Int) (t : Str) (ks : List GPat), Ctr lim Tryz.prog 141 [] [.agg [.v (.int .i64 op), .str t, .sl false 3 (ks.map encPat)]] (.agg [.v (.int .i64 op), .str t, .sl false 3 (ks.map encPat)]) [] (pszL ks < n)
  | 0, op, t, ks => ⟨en141, fun h => absurd h (Nat.not_lt_zero _)⟩
  | n + 1, op, t, ks => by
    have ih := l5Twin_n n
    refine Ctr.of_body en141 Tryz.func141 rfl rfl fun hp => (?_); rw [Tryz.ntmps141]
    refine AW.fact 0 fun hf => ?_
    simp (disch := omega) only [go_sem, Nat.reduceBEq] at hf
    (refine bU ?_; with_reducible repeat' first | exact Le.l | refine Sw ?_ ?_ | intro (K : _ → _ → Prop) hK | intro h)
    rename_i b1 b2 hn b3
    refine AW.imp (Imp.nilOT (b := b3) 3 [.v (.int .i64 op), .str t] [] gO ?_)
    simp (maxSteps := 2000000) (disch := omega) only [go_sem]
    refine AW.loopV [4] [1, 2, 3] (fun m xs o => ∃ k : Nat, xs = [.v (.int .i64 k)] ∧ o = [(b3, some [.v (.int .i64 op), .str t, .sl true 3 ((ks.take k).map encPat)]), (b2, some [.v (.int .i64 0), .str [], .v (.slice none 0 0)]), (b1, some [.v (.int .i64 op), .str t, .sl false 3 (ks.map encPat)])] ∧ m = ks.length - k ∧ k ≤ ks.length) ks.length [(b3, some [.v (.int .i64 op), .str t, .sl true 3 []]), (b2, some [.v (.int .i64 0), .str [], .v (.slice none 0 0)]), (b1, some [.v (.int .i64 op), .str t, .sl false 3 (ks.map encPat)])] gO ⟨0, ?_, rfl, rfl, ?_⟩ ?_
    · rfl
    · omega
    rintro m xs o ⟨k, rfl, rfl, rfl, hk⟩
    have hq : k < ks.length → _ := psz_at (l := ks) (k := k)
    have hq2 := psz_eq (at_ ks k)
    have hlt : (ks.take k).length = k := by rw [List.length_take]; omega
    (refine bK ?_; with_reducible repeat' first | exact Le.l | refine Sw ?_ ?_ | intro (K : _ → _ → Prop) hK | intro h)
    (refine AW.i rfl (fun h => ?_) (fun h => ?_) <;> try simp only [hC, reduceCtorEq] at h)
    · (refine bN ?_; with_reducible repeat' first | exact Le.l | refine Sw ?_ ?_ | intro (K : _ → _ → Prop) hK | intro h)
      have hfl := pats_fl (ks.take k)
      have hst := take_at (f := encPat) h
      refine AW.imp (Imp.unfoldO2 (b0 := b3) (k := 2) (cells0 := [.v (.int .i64 op), .str t, .sl true 3 ((ks.take k).map encPat)]) (sz := 3) (l := (ks.take k).map encPat) gO rfl (pats_el _) (fun b hb => ?_) (fun hnil => ?_))
      · have hb1 := hb.nf
        simp only [go_sem] at hb1
        simp only [List.set_cons_zero, List.set_cons_succ]
        refine AW.drwn fun K hK => ?_
        simp (maxSteps := 2000000) (disch := omega) only [go_sem]
        (refine bN ?_; with_reducible repeat' first | exact Le.l | refine Sw ?_ ?_ | intro (K : _ → _ → Prop) hK | intro h)
        rename_i b9
        refine AW.imp (Imp.foldO (b0 := b3) (k := 2) (b := b9) (len := (ks.take k).length + 1) (sz := 3) (cells0 := [.v (.int .i64 op), .str t, .arr b9 0 ((ks.take k).length + 1) 3]) (cells := ((ks.take k).map encPat).flatMap AV.cells ++ [.v (.int .i64 (at_ ks k).fOp), .str (at_ ks k).fText, .sl false 3 ((at_ ks k).fKids.map encPat)]) (l := (ks.take (k + 1)).map encPat) gO rfl gO (by omega) (by simp; omega) ?_ (pats_el _) ?_)
        · refine Eq.trans ?_ (List.take_of_length_le (by rw [List.length_append, hfl]; simp only [List.length_cons, List.length_nil]; omega)).symm
          rw [hst, List.flatMap_append, encPat_eq]
          rfl
        simp only [List.set_cons_zero, List.set_cons_succ]
        (refine bK ?_; with_reducible repeat' first | exact Le.l | refine Sw ?_ ?_ | intro (K : _ → _ → Prop) hK | intro h)
        exact ⟨_, [_], [(b3, some [.v (.int .i64 op), .str t, .sl true 3 ((ks.take (k + 1)).map encPat)]), (b2, some [.v (.int .i64 0), .str [], .v (.slice none 0 0)]), (b1, some [.v (.int .i64 op), .str t, .sl false 3 (ks.map encPat)])], by omega, ⟨k + 1, rfl, rfl, rfl, by omega⟩, rfl, by rw [hst, encPat_eq]; simp (maxSteps := 2000000) (disch := omega) only [go_sem]⟩
      · simp only [List.set_cons_zero, List.set_cons_succ]
        refine AW.drwn fun K hK => ?_
        simp (maxSteps := 2000000) (disch := omega) only [go_sem]
        (refine bK ?_; with_reducible repeat' first | exact Le.l | refine Sw ?_ ?_ | intro (K : _ → _ → Prop) hK | intro h)
        rw [hnil] at hst
        exact ⟨_, [_], [(b3, some [.v (.int .i64 op), .str t, .sl true 3 ((ks.take (k + 1)).map encPat)]), (b2, some [.v (.int .i64 0), .str [], .v (.slice none 0 0)]), (b1, some [.v (.int .i64 op), .str t, .sl false 3 (ks.map encPat)])], by omega, ⟨k + 1, rfl, rfl, rfl, by omega⟩, rfl, by rw [hst, encPat_eq]; simp (maxSteps := 2000000) (disch := omega) only [go_sem, List.nil_append]⟩
    · rw [show k = ks.length by omega, List.take_length]
      (refine bX ?_; with_reducible repeat' first | exact Le.l | refine Sw ?_ ?_ | intro (K : _ → _ → Prop) hK | intro h)
      refine AW.ret (EndsG.imp (Imp.frzO (b := b2) (by simp (maxSteps := 2000000) (disch := omega) only [go_sem]; rfl) ?_))
      simp (maxSteps := 2000000) (disch := omega) only [go_sem]
      refine EndsG.fin rfl ?_
      simp (maxSteps := 2000000) (disch := omega) only [go_sem]
instance l5Twin_i (op : Int) (t : Str) (ks : List GPat) : Ctr lim Tryz.prog 141 [] [.agg [.v (.int .i64 op), .str t, .sl false 3 (ks.map encPat)]] (.agg [.v (.int .i64 op), .str t, .sl false 3 (ks.map encPat)]) [] True := ⟨en141, fun _ => (l5Twin_n (pszL ks + 1) op t ks).out (by omega)⟩
end Go.Proofs.YtfglembdjbhanaaGreatDoor
namespace Go.Dt
open Go.Ab
def resC (r : Option ((Nat → Bool) × Nat)) : Option (GPat × Nat) := match r with | none => none | some (has, k) => some (patC (clsT has), k)
def clsRes (s : Str) (i : Nat) : Option (GPat × Nat) := resC (clsS s i (fun _ => false))
theorem isAt_cls {s : Str} {j : Nat} (h : isAt s j 93 = true) : chAt s j = false := by
  have := isAt_iff.1 h
  rw [chAt_def, this.2]
  simp [isCh, ltI, digI]
end Go.Dt
namespace Go.Proofs.YtfglembdjbhanaaGreatDoor
open Go.Ab Go.Dt
set_option maxRecDepth 20000
set_option maxHeartbeats 4000000
instance l5Class_i (b : Nat) (s : Str) (i : Nat) : GCtr lim Tryz.prog 150 [(b, some [.str s, .v (.int .i64 i), .v (.bool false)])] [.ptr b 0] (RdQ b s i (clsRes s i)) (i ≤ s.length ∧ s.length ≤ 30) := by
  refine GCtr.of_body en150 Tryz.func150 rfl rfl fun hp => (?_); rw [Tryz.ntmps150]
  generalize hRR : clsS s i (fun _ => false) = R
  have hres : clsRes s i = resC R := by rw [clsRes, hRR]
  (refine vK ?_; with_reducible repeat' first | exact Le.l | refine Sw ?_ ?_ | intro (K : _ → _ → Prop) hK | intro h)
  rename_i b2 hn b3
  refine AW.loopV [] [0, 2, 3, 4] (fun m xs o => ∃ (j : Nat) (ha : Nat → Bool), xs = [] ∧ o = [(b3, some (hasC ha)), (b2, some [.v (.int .i64 0), .str [], .v (.slice none 0 0)]), (b, some [.str s, .v (.int .i64 j), .v (.bool false)])] ∧ m = s.length - j ∧ j ≤ s.length ∧ i ≤ j ∧ ((j = i ∧ clsS s j ha = R) ∨ (i < j ∧ clsL s j ha = R))) _ [(b3, some (hasC (fun _ => false))), (b2, some [.v (.int .i64 0), .str [], .v (.slice none 0 0)]), (b, some [.str s, .v (.int .i64 i), .v (.bool false)])] gO ⟨i, fun _ => false, rfl, rfl, rfl, by omega, by omega, .inl ⟨rfl, hRR⟩⟩ ?_
  rintro m xs o ⟨j, ha, rfl, rfl, rfl, hj, hij, hR⟩
  have hge := at8_ge s (j : Int)
  have hle := at8_le s (j : Int)
  have hge2 := at8_ge s ((j + 1 + 1 : Nat) : Int)
  have hle2 := at8_le s ((j + 1 + 1 : Nat) : Int)
  (refine vK ?_; with_reducible repeat' first | exact Le.l | refine Sw ?_ ?_ | intro (K : _ → _ → Prop) hK | intro h)
  (refine AW.i rfl (fun h => ?_) (fun h => ?_) <;> try simp only [hC, reduceCtorEq] at h)
  · simp only [h, cond_false]
    have hS : clsS s j ha = R := by
      rcases hR with hR | hR
      · exact hR.2
      · rw [← hR.2, clsL_go ha h]
    clear hR
    (refine vK ?_; with_reducible repeat' first | exact Le.l | refine Sw ?_ ?_ | intro (K : _ → _ → Prop) hK | intro h)
    (refine AW.i rfl (fun h => ?_) (fun h => ?_) <;> try simp only [hC, reduceCtorEq] at h)
    · have hch := chAt_no (s := s) (i := j) (by rcases h with h | h; exact .inl (by omega); exact .inr h)
      (refine vK ?_; with_reducible repeat' first | exact Le.l | refine Sw ?_ ?_ | intro (K : _ → _ → Prop) hK | intro h)
      (refine AW.ret (EndsG.imp (Imp.nilO (b := b2) 3 [.v (.int .i64 0), .str []] [] (by simp (maxSteps := 2000000) (disch := omega) only [go_sem]) ?_)); simp (maxSteps := 2000000) (disch := omega) only [go_sem]; refine EndsG.finQ rfl (RdQ.no (.mk 0 [] []) (j := j) (by rw [hres, ← hS, clsS_none ha (clsE_no hch)]; rfl) (by omega)) ?_; simp (maxSteps := 2000000) (disch := omega) only [go_sem])
    have hch := chAt_yes (s := s) (i := j) ⟨by omega, h.2⟩
    have hl1 := chAt_lt hch
    (refine vK ?_; with_reducible repeat' first | exact Le.l | refine Sw ?_ ?_ | intro (K : _ → _ → Prop) hK | intro h)
    (refine AW.i rfl (fun h => ?_) (fun h => ?_) <;> try simp only [hC, reduceCtorEq] at h)
    · simp only [h, cond_true]
      have htil := h
      have hl2 := isAt_iff.1 h
      (refine vK ?_; with_reducible repeat' first | exact Le.l | refine Sw ?_ ?_ | intro (K : _ → _ → Prop) hK | intro h)
      (refine AW.i rfl (fun h => ?_) (fun h => ?_) <;> try simp only [hC, reduceCtorEq] at h)
      · (refine vK ?_; with_reducible repeat' first | exact Le.l | refine Sw ?_ ?_ | intro (K : _ → _ → Prop) hK | intro h)
        (refine AW.ret (EndsG.imp (Imp.nilO (b := b2) 3 [.v (.int .i64 0), .str []] [] (by simp (maxSteps := 2000000) (disch := omega) only [go_sem]) ?_)); simp (maxSteps := 2000000) (disch := omega) only [go_sem]; refine EndsG.finQ rfl (RdQ.no (.mk 0 [] []) (j := j + 1 + 1) (by rw [hres, ← hS, clsS_none ha (clsE_bad htil ?_)]; rfl; rcases h with (h | h) | h; exact .inl (chAt_no (.inl (by omega))); exact .inl (chAt_no (.inr h)); exact .inr h) (by omega)) ?_; simp (maxSteps := 2000000) (disch := omega) only [go_sem])
      · have hc2 := chAt_yes (s := s) (i := j + 1 + 1) ⟨by omega, h.1.2⟩
        have hl3 := chAt_lt hc2
        have hS2 := clsS_some ha (clsE_two hch htil hc2 h.2)
        (refine vK ?_; with_reducible repeat' first | exact Le.l | refine Sw ?_ ?_ | intro (K : _ → _ → Prop) hK | intro h)
        refine AW.loopV [7] [0, 2, 3, 4, 5, 6] (fun m xs o => ∃ x : Int, xs = [.v (.int .i64 x)] ∧ o = [(b3, some (hasC (fun c => ha c || (decide (at8 s (j : Int) ≤ (c : Int)) && decide ((c : Int) < x))))), (b2, some [.v (.int .i64 0), .str [], .v (.slice none 0 0)]), (b, some [.str s, .v (.int .i64 (j + 1 + 1 + 1 : Nat)), .v (.bool false)])] ∧ m = (256 - x).toNat ∧ at8 s (j : Int) ≤ x ∧ x ≤ 256 ∧ x ≤ at8 s ((j + 1 + 1 : Nat) : Int) + 1) _ [(b3, some (hasC ha)), (b2, some [.v (.int .i64 0), .str [], .v (.slice none 0 0)]), (b, some [.str s, .v (.int .i64 (j + 1 + 1 + 1 : Nat)), .v (.bool false)])] gO ⟨at8 s (j : Int), rfl, by rw [hasC_same], rfl, by omega, by omega, by omega⟩ ?_
        rintro m xs o ⟨x, rfl, rfl, rfl, hx1, hx2, hx3⟩
        obtain ⟨y, rfl⟩ : ∃ y : Nat, x = y := ⟨x.toNat, by omega⟩
        (refine vK ?_; with_reducible repeat' first | exact Le.l | refine Sw ?_ ?_ | intro (K : _ → _ → Prop) hK | intro h)
        (refine AW.i rfl (fun h => ?_) (fun h => ?_) <;> try simp only [hC, reduceCtorEq] at h)
        · (refine vK ?_; with_reducible repeat' first | exact Le.l | refine Sw ?_ ?_ | intro (K : _ → _ → Prop) hK | intro h)
          exact ⟨_, [_], [(b3, some (hasC (fun c => ha c || (decide (at8 s (j : Int) ≤ (c : Int)) && decide ((c : Int) < ((y + 1 : Nat) : Int)))))), (b2, some [.v (.int .i64 0), .str [], .v (.slice none 0 0)]), (b, some [.str s, .v (.int .i64 (j + 1 + 1 + 1 : Nat)), .v (.bool false)])], by omega, ⟨((y + 1 : Nat) : Int), rfl, rfl, rfl, by omega, by omega, by omega⟩, by simp, by rw [← hasC_grow ha (by omega)]; simp (maxSteps := 2000000) (disch := omega) only [go_sem]⟩
        · (refine vK ?_; with_reducible repeat' first | exact Le.l | refine Sw ?_ ?_ | intro (K : _ → _ → Prop) hK | intro h)
          exact ⟨_, [], [(b3, some (hasC (fun c => ha c || (decide (at8 s (j : Int) ≤ (c : Int)) && decide ((c : Int) < (y : Int)))))), (b2, some [.v (.int .i64 0), .str [], .v (.slice none 0 0)]), (b, some [.str s, .v (.int .i64 (j + 1 + 1 + 1 : Nat)), .v (.bool false)])], by omega, ⟨j + 1 + 1 + 1, _, rfl, rfl, rfl, by omega, by omega, .inr ⟨by omega, by rw [fill_done ha (a := at8 s (j : Int)) (z := at8 s ((j + 1 + 1 : Nat) : Int)) (y := (y : Int)) (by omega), ← hS2, hS]⟩⟩, by simp (maxSteps := 2000000) (disch := omega) only [go_sem]⟩
    · simp only [h, cond_false]
      have hS2 := clsS_some ha (clsE_one hch h)
      (refine vK ?_; with_reducible repeat' first | exact Le.l | refine Sw ?_ ?_ | intro (K : _ → _ → Prop) hK | intro h)
      refine AW.loopV [7] [0, 2, 3, 4, 5, 6] (fun m xs o => ∃ x : Int, xs = [.v (.int .i64 x)] ∧ o = [(b3, some (hasC (fun c => ha c || (decide (at8 s (j : Int) ≤ (c : Int)) && decide ((c : Int) < x))))), (b2, some [.v (.int .i64 0), .str [], .v (.slice none 0 0)]), (b, some [.str s, .v (.int .i64 (j + 1 : Nat)), .v (.bool false)])] ∧ m = (256 - x).toNat ∧ at8 s (j : Int) ≤ x ∧ x ≤ 256 ∧ x ≤ at8 s (j : Int) + 1) _ [(b3, some (hasC ha)), (b2, some [.v (.int .i64 0), .str [], .v (.slice none 0 0)]), (b, some [.str s, .v (.int .i64 (j + 1 : Nat)), .v (.bool false)])] gO ⟨at8 s (j : Int), rfl, by rw [hasC_same], rfl, by omega, by omega, by omega⟩ ?_
      rintro m xs o ⟨x, rfl, rfl, rfl, hx1, hx2, hx3⟩
      obtain ⟨y, rfl⟩ : ∃ y : Nat, x = y := ⟨x.toNat, by omega⟩
      (refine vK ?_; with_reducible repeat' first | exact Le.l | refine Sw ?_ ?_ | intro (K : _ → _ → Prop) hK | intro h)
      (refine AW.i rfl (fun h => ?_) (fun h => ?_) <;> try simp only [hC, reduceCtorEq] at h)
      · (refine vK ?_; with_reducible repeat' first | exact Le.l | refine Sw ?_ ?_ | intro (K : _ → _ → Prop) hK | intro h)
        exact ⟨_, [_], [(b3, some (hasC (fun c => ha c || (decide (at8 s (j : Int) ≤ (c : Int)) && decide ((c : Int) < ((y + 1 : Nat) : Int)))))), (b2, some [.v (.int .i64 0), .str [], .v (.slice none 0 0)]), (b, some [.str s, .v (.int .i64 (j + 1 : Nat)), .v (.bool false)])], by omega, ⟨((y + 1 : Nat) : Int), rfl, rfl, rfl, by omega, by omega, by omega⟩, by simp, by rw [← hasC_grow ha (by omega)]; simp (maxSteps := 2000000) (disch := omega) only [go_sem]⟩
      · (refine vK ?_; with_reducible repeat' first | exact Le.l | refine Sw ?_ ?_ | intro (K : _ → _ → Prop) hK | intro h)
        exact ⟨_, [], [(b3, some (hasC (fun c => ha c || (decide (at8 s (j : Int) ≤ (c : Int)) && decide ((c : Int) < (y : Int)))))), (b2, some [.v (.int .i64 0), .str [], .v (.slice none 0 0)]), (b, some [.str s, .v (.int .i64 (j + 1 : Nat)), .v (.bool false)])], by omega, ⟨j + 1, _, rfl, rfl, rfl, by omega, by omega, .inr ⟨by omega, by rw [fill_done ha (a := at8 s (j : Int)) (z := at8 s (j : Int)) (y := (y : Int)) (by omega), ← hS2, hS]⟩⟩, by simp (maxSteps := 2000000) (disch := omega) only [go_sem]⟩
  · simp only [h, cond_true]
    have hend := h
    have hl2 := isAt_iff.1 h
    (refine vK ?_; with_reducible repeat' first | exact Le.l | refine Sw ?_ ?_ | intro (K : _ → _ → Prop) hK | intro h)
    (refine AW.i rfl (fun h => ?_) (fun h => ?_) <;> try simp only [hC, reduceCtorEq] at h)
    · have hN : R = none := by
        rcases hR with hR | hR
        · rw [← hR.2, clsS_none ha (clsE_no (isAt_cls hend))]
        · omega
      (refine vK ?_; with_reducible repeat' first | exact Le.l | refine Sw ?_ ?_ | intro (K : _ → _ → Prop) hK | intro h)
      refine AW.loopV [8, 9] [2, 3] (fun m xs o => ∃ k : Nat, xs = [.sl true 1 (bytesA (clsU ha k)), .v (.int .i64 k)] ∧ o = [(b3, some (hasC ha)), (b2, some [.v (.int .i64 0), .str [], .v (.slice none 0 0)]), (b, some [.str s, .v (.int .i64 (j + 1 : Nat)), .v (.bool true)])] ∧ m = 256 - k ∧ k ≤ 256) 256 [(b3, some (hasC ha)), (b2, some [.v (.int .i64 0), .str [], .v (.slice none 0 0)]), (b, some [.str s, .v (.int .i64 (j + 1 : Nat)), .v (.bool true)])] gO ⟨0, ?_, rfl, rfl, ?_⟩ ?_
      · rfl
      · omega
      rintro m xs o ⟨k, rfl, rfl, rfl, hk⟩
      have hl := clsU_le ha k
      have hs := clsU_step ha k
      (refine vK ?_; with_reducible repeat' first | exact Le.l | refine Sw ?_ ?_ | intro (K : _ → _ → Prop) hK | intro h)
      (refine AW.i rfl (fun h => ?_) (fun h => ?_) <;> try simp only [hC, reduceCtorEq] at h)
      · (refine vK ?_; with_reducible repeat' first | exact Le.l | refine Sw ?_ ?_ | intro (K : _ → _ → Prop) hK | intro h)
        (refine AW.i rfl (fun h => ?_) (fun h => ?_) <;> try simp only [hC, reduceCtorEq] at h)
        · rw [h] at hs
          (refine vK ?_; with_reducible repeat' first | exact Le.l | refine Sw ?_ ?_ | intro (K : _ → _ → Prop) hK | intro h)
          exact ⟨_, [_, _], [(b3, some (hasC ha)), (b2, some [.v (.int .i64 0), .str [], .v (.slice none 0 0)]), (b, some [.str s, .v (.int .i64 (j + 1 : Nat)), .v (.bool true)])], by omega, ⟨k + 1, by rw [hs, if_pos rfl, ← byte_end _ (by omega)], rfl, rfl, by omega⟩, rfl, by simp (maxSteps := 2000000) (disch := omega) only [go_sem]⟩
        · rw [h] at hs
          (refine vK ?_; with_reducible repeat' first | exact Le.l | refine Sw ?_ ?_ | intro (K : _ → _ → Prop) hK | intro h)
          exact ⟨_, [_, _], [(b3, some (hasC ha)), (b2, some [.v (.int .i64 0), .str [], .v (.slice none 0 0)]), (b, some [.str s, .v (.int .i64 (j + 1 : Nat)), .v (.bool true)])], by omega, ⟨k + 1, by rw [hs]; simp, rfl, rfl, by omega⟩, rfl, by simp (maxSteps := 2000000) (disch := omega) only [go_sem]⟩
      · (refine vK ?_; with_reducible repeat' first | exact Le.l | refine Sw ?_ ?_ | intro (K : _ → _ → Prop) hK | intro h)
        have hk2 : k = 256 := by omega
        subst hk2
        (refine AW.ret (EndsG.imp (Imp.nilO (b := b2) 3 [.v (.int .i64 1), .str (clsU ha 256)] [] (by simp (maxSteps := 2000000) (disch := omega) only [go_sem]) ?_)); simp (maxSteps := 2000000) (disch := omega) only [go_sem]; refine EndsG.finQ rfl (RdQ.no (.mk 1 (clsU ha 256) []) (j := j + 1) (by rw [hres, hN]; rfl) (by omega)) ?_; simp (maxSteps := 2000000) (disch := omega) only [go_sem])
    · have hY : R = some (ha, j + 1) := by
        rcases hR with hR | hR
        · omega
        · rw [← hR.2, clsL_end ha hend]
      (refine vK ?_; with_reducible repeat' first | exact Le.l | refine Sw ?_ ?_ | intro (K : _ → _ → Prop) hK | intro h)
      refine AW.loopV [8, 9] [2, 3] (fun m xs o => ∃ k : Nat, xs = [.sl true 1 (bytesA (clsU ha k)), .v (.int .i64 k)] ∧ o = [(b3, some (hasC ha)), (b2, some [.v (.int .i64 0), .str [], .v (.slice none 0 0)]), (b, some [.str s, .v (.int .i64 (j + 1 : Nat)), .v (.bool false)])] ∧ m = 256 - k ∧ k ≤ 256) 256 [(b3, some (hasC ha)), (b2, some [.v (.int .i64 0), .str [], .v (.slice none 0 0)]), (b, some [.str s, .v (.int .i64 (j + 1 : Nat)), .v (.bool false)])] gO ⟨0, ?_, rfl, rfl, ?_⟩ ?_
      · rfl
      · omega
      rintro m xs o ⟨k, rfl, rfl, rfl, hk⟩
      have hl := clsU_le ha k
      have hs := clsU_step ha k
      (refine vK ?_; with_reducible repeat' first | exact Le.l | refine Sw ?_ ?_ | intro (K : _ → _ → Prop) hK | intro h)
      (refine AW.i rfl (fun h => ?_) (fun h => ?_) <;> try simp only [hC, reduceCtorEq] at h)
      · (refine vK ?_; with_reducible repeat' first | exact Le.l | refine Sw ?_ ?_ | intro (K : _ → _ → Prop) hK | intro h)
        (refine AW.i rfl (fun h => ?_) (fun h => ?_) <;> try simp only [hC, reduceCtorEq] at h)
        · rw [h] at hs
          (refine vK ?_; with_reducible repeat' first | exact Le.l | refine Sw ?_ ?_ | intro (K : _ → _ → Prop) hK | intro h)
          exact ⟨_, [_, _], [(b3, some (hasC ha)), (b2, some [.v (.int .i64 0), .str [], .v (.slice none 0 0)]), (b, some [.str s, .v (.int .i64 (j + 1 : Nat)), .v (.bool false)])], by omega, ⟨k + 1, by rw [hs, if_pos rfl, ← byte_end _ (by omega)], rfl, rfl, by omega⟩, rfl, by simp (maxSteps := 2000000) (disch := omega) only [go_sem]⟩
        · rw [h] at hs
          (refine vK ?_; with_reducible repeat' first | exact Le.l | refine Sw ?_ ?_ | intro (K : _ → _ → Prop) hK | intro h)
          exact ⟨_, [_, _], [(b3, some (hasC ha)), (b2, some [.v (.int .i64 0), .str [], .v (.slice none 0 0)]), (b, some [.str s, .v (.int .i64 (j + 1 : Nat)), .v (.bool false)])], by omega, ⟨k + 1, by rw [hs]; simp, rfl, rfl, by omega⟩, rfl, by simp (maxSteps := 2000000) (disch := omega) only [go_sem]⟩
      · (refine vK ?_; with_reducible repeat' first | exact Le.l | refine Sw ?_ ?_ | intro (K : _ → _ → Prop) hK | intro h)
        have hk2 : k = 256 := by omega
        subst hk2
        (refine AW.ret (EndsG.imp (Imp.nilO (b := b2) 3 [.v (.int .i64 1), .str (clsU ha 256)] [] (by simp (maxSteps := 2000000) (disch := omega) only [go_sem]) ?_)); simp (maxSteps := 2000000) (disch := omega) only [go_sem]; refine EndsG.finQ rfl (RdQ.yes (p := .mk 1 (clsU ha 256) []) (j := j + 1) (by rw [hres, hY]; rfl) (by omega)) ?_; simp (maxSteps := 2000000) (disch := omega) only [go_sem])
end Go.Proofs.YtfglembdjbhanaaGreatDoor
namespace Go.Dt
open Go.Ab
theorem atomS_cls2 {s : Str} {i : Nat} (h1 : isAt s i 46 = false) (h2 : isAt s i 91 = true) : atomS s i = clsRes s (i + 1) := by
  rw [atomS_cls h1 h2, clsRes]; rfl
theorem atomS_let {s : Str} {i : Nat} (h1 : isAt s i 46 = false) (h2 : isAt s i 91 = false) (h : i < s.length ∧ ((ltI (at8 s i) = true ∨ digI (at8 s i) = true) ∨ at8 s i = 45)) : atomS s i = some (patC ((s.take (i + 1)).drop i), i + 1) := by
  rw [atomS, if_neg (by rw [h1]; simp), if_neg (by rw [h2]; simp), if_pos]
  simp only [Bool.and_eq_true, Bool.or_eq_true, decide_eq_true_eq, beq_iff_eq]; exact h
theorem atomS_nolet {s : Str} {i : Nat} (h1 : isAt s i 46 = false) (h2 : isAt s i 91 = false) (hi : i < s.length) (h : (ltI (at8 s i) = false ∧ digI (at8 s i) = false) ∧ ¬ at8 s i = 45) : atomS s i = none := by
  rw [atomS, if_neg (by rw [h1]; simp), if_neg (by rw [h2]; simp), if_neg]
  simp [h]
theorem isAt_ne {s : Str} {i : Nat} {c d : Int} (h : isAt s i c = true) (hne : ¬ c = d) : isAt s i d = false := by
  have := isAt_iff.1 h
  exact isAt_no fun _ e => hne (this.2.symm.trans e)
end Go.Dt
namespace Go.Proofs.YtfglembdjbhanaaGreatDoor
open Go.Ab Go.Dt
set_option maxRecDepth 20000
set_option maxHeartbeats 4000000
theorem l5Atom_n (n : Nat) (halt : ∀ (b : Nat) (s : Str) (i : Nat), GCtr lim Tryz.prog 115 [(b, some [.str s, .v (.int .i64 i), .v (.bool false)])] [.ptr b 0] (RdQ b s i (pAlt s i)) (i ≤ s.length ∧ s.length ≤ 30 ∧ s.length - i < n)) (b : Nat) (s : Str) (i : Nat) :
    GCtr lim Tryz.prog 140 [(b, some [.str s, .v (.int .i64 i), .v (.bool false)])] [.ptr b 0] (RdQ b s i (pAtom s i)) (i < s.length ∧ s.length ≤ 30 ∧ s.length - i < n + 1) := by
  refine GCtr.of_body en140 Tryz.func140 rfl rfl fun hp => (?_); rw [Tryz.ntmps140]
  (refine vK ?_; with_reducible repeat' first | exact Le.l | refine Sw ?_ ?_ | intro (K : _ → _ → Prop) hK | intro h)
  rename_i b2
  (refine AW.i rfl (fun h => ?_) (fun h => ?_) <;> try simp only [hC, reduceCtorEq] at h)
  · simp only [h, cond_true]
    have hlt := isAt_iff.1 h
    have hop0 := pAtom_open0 h
    have hop1 := fun p j => pAtom_open1 (p := p) (j := j) h
    have hop2 := fun p j => pAtom_open2 (p := p) (j := j) h
    (refine vK ?_; with_reducible repeat' first | exact Le.l | refine Sw ?_ ?_ | intro (K : _ → _ → Prop) hK | intro h)
    refine GK.rd (fun p j hq hj => ?_) (fun p j hq hj => ?_)
    · (refine vK ?_; with_reducible repeat' first | exact Le.l | refine Sw ?_ ?_ | intro (K : _ → _ → Prop) hK | intro h)
      (refine AW.i rfl (fun h => ?_) (fun h => ?_) <;> try simp only [hC, reduceCtorEq] at h)
      · simp only [h, cond_false]
        (refine vK ?_; with_reducible repeat' first | exact Le.l | refine Sw ?_ ?_ | intro (K : _ → _ → Prop) hK | intro h)
        (refine AW.ret (EndsG.imp (Imp.frzO (b := b2) (by simp (maxSteps := 2000000) (disch := omega) only [go_sem]; rfl) ?_)); simp (maxSteps := 2000000) (disch := omega) only [go_sem]; refine EndsG.finQ rfl (RdQ.no p (j := j) (hop2 p j hq h) (by omega)) ?_; simp (maxSteps := 2000000) (disch := omega) only [go_sem])
      · simp only [h, cond_true]
        have hl2 := isAt_iff.1 h
        (refine vK ?_; with_reducible repeat' first | exact Le.l | refine Sw ?_ ?_ | intro (K : _ → _ → Prop) hK | intro h)
        (refine AW.ret (EndsG.imp (Imp.frzO (b := b2) (by simp (maxSteps := 2000000) (disch := omega) only [go_sem]; rfl) ?_)); simp (maxSteps := 2000000) (disch := omega) only [go_sem]; refine EndsG.finQ rfl (RdQ.yes (p := p) (j := j + 1) (hop1 p j hq h) (by omega)) ?_; simp (maxSteps := 2000000) (disch := omega) only [go_sem])
    · (refine vK ?_; with_reducible repeat' first | exact Le.l | refine Sw ?_ ?_ | intro (K : _ → _ → Prop) hK | intro h)
      (refine AW.i rfl (fun h => ?_) (fun h => ?_) <;> try simp only [hC, reduceCtorEq] at h)
      (refine vK ?_; with_reducible repeat' first | exact Le.l | refine Sw ?_ ?_ | intro (K : _ → _ → Prop) hK | intro h)
      (refine AW.ret (EndsG.imp (Imp.frzO (b := b2) (by simp (maxSteps := 2000000) (disch := omega) only [go_sem]; rfl) ?_)); simp (maxSteps := 2000000) (disch := omega) only [go_sem]; refine EndsG.finQ rfl (RdQ.no p (j := j) (hop0 hq) (by omega)) ?_; simp (maxSteps := 2000000) (disch := omega) only [go_sem])
  simp only [h, cond_false]
  have hels := pAtom_else hp.1 h
  (refine vK ?_; with_reducible repeat' first | exact Le.l | refine Sw ?_ ?_ | intro (K : _ → _ → Prop) hK | intro h)
  (refine AW.i rfl (fun h => ?_) (fun h => ?_) <;> try simp only [hC, reduceCtorEq] at h)
  · have hcls := atomS_cls2 (isAt_ne h (by decide)) h
    have hlt := isAt_iff.1 h
    simp only [h, cond_true]
    (refine vK ?_; with_reducible repeat' first | exact Le.l | refine Sw ?_ ?_ | intro (K : _ → _ → Prop) hK | intro h)
    refine GK.rdB fun p j bad hq hj => ?_
    (refine vK ?_; with_reducible repeat' first | exact Le.l | refine Sw ?_ ?_ | intro (K : _ → _ → Prop) hK | intro h)
    rcases hq with ⟨rfl, hq⟩ | ⟨rfl, hq⟩
    · (refine AW.ret (EndsG.imp (Imp.frzO (b := b2) (by simp (maxSteps := 2000000) (disch := omega) only [go_sem]; rfl) ?_)); simp (maxSteps := 2000000) (disch := omega) only [go_sem]; refine EndsG.finQ rfl (RdQ.yes (p := p) (j := j) (by rw [hels, hcls, hq]) (by omega)) ?_; simp (maxSteps := 2000000) (disch := omega) only [go_sem])
    · (refine AW.ret (EndsG.imp (Imp.frzO (b := b2) (by simp (maxSteps := 2000000) (disch := omega) only [go_sem]; rfl) ?_)); simp (maxSteps := 2000000) (disch := omega) only [go_sem]; refine EndsG.finQ rfl (RdQ.no p (j := j) (by rw [hels, hcls, hq]) (by omega)) ?_; simp (maxSteps := 2000000) (disch := omega) only [go_sem])
  simp only [h, cond_false]
  have hnc := h
  (refine vK ?_; with_reducible repeat' first | exact Le.l | refine Sw ?_ ?_ | intro (K : _ → _ → Prop) hK | intro h)
  (refine AW.i rfl (fun h => ?_) (fun h => ?_) <;> try simp only [hC, reduceCtorEq] at h)
  · have hdot := atomS_dot h
    have hlt := isAt_iff.1 h
    simp only [h, cond_true]
    (refine vK ?_; with_reducible repeat' first | exact Le.l | refine Sw ?_ ?_ | intro (K : _ → _ → Prop) hK | intro h)
    (refine AW.ret (EndsG.imp (Imp.nilO (b := b2) 3 [.v (.int .i64 1), .str (clsT (fun c => decide (32 ≤ c) && decide (c < 127)))] [] (by simp (maxSteps := 2000000) (disch := omega) only [go_sem]) ?_)); simp (maxSteps := 2000000) (disch := omega) only [go_sem]; refine EndsG.finQ rfl (RdQ.yes (p := .mk 1 (clsT (fun c => decide (32 ≤ c) && decide (c < 127))) []) (j := i + 1) (by rw [hels, hdot, any_eq, patC]) (by omega)) ?_; simp (maxSteps := 2000000) (disch := omega) only [go_sem])
  simp only [h, cond_false]
  have hnd := h
  (refine vK ?_; with_reducible repeat' first | exact Le.l | refine Sw ?_ ?_ | intro (K : _ → _ → Prop) hK | intro h)
  (refine AW.i rfl (fun h => ?_) (fun h => ?_) <;> try simp only [hC, reduceCtorEq] at h)
  · (refine vK ?_; with_reducible repeat' first | exact Le.l | refine Sw ?_ ?_ | intro (K : _ → _ → Prop) hK | intro h)
    (refine AW.ret (EndsG.imp (Imp.nilO (b := b2) 3 [.v (.int .i64 1), .str ((s.take (i + 1)).drop i)] [] (by simp (maxSteps := 2000000) (disch := omega) only [go_sem]) ?_)); simp (maxSteps := 2000000) (disch := omega) only [go_sem]; refine EndsG.finQ rfl (RdQ.yes (p := .mk 1 ((s.take (i + 1)).drop i) []) (j := i + 1) (by rw [hels, atomS_let hnd hnc h, patC]) (by omega)) ?_; simp (maxSteps := 2000000) (disch := omega) only [go_sem])
  · (refine vK ?_; with_reducible repeat' first | exact Le.l | refine Sw ?_ ?_ | intro (K : _ → _ → Prop) hK | intro h)
    (refine AW.ret (EndsG.imp (Imp.nilO (b := b2) 3 [.v (.int .i64 0), .str []] [] (by simp (maxSteps := 2000000) (disch := omega) only [go_sem]) ?_)); simp (maxSteps := 2000000) (disch := omega) only [go_sem]; refine EndsG.finQ rfl (RdQ.no (.mk 0 [] []) (j := i) (by rw [hels, atomS_nolet hnd hnc hp.1 (h hp.1)]) (by omega)) ?_; simp (maxSteps := 2000000) (disch := omega) only [go_sem])
theorem l5Seq_n (n : Nat) (hatom : ∀ (b : Nat) (s : Str) (i : Nat), GCtr lim Tryz.prog 140 [(b, some [.str s, .v (.int .i64 i), .v (.bool false)])] [.ptr b 0] (RdQ b s i (pAtom s i)) (i < s.length ∧ s.length ≤ 30 ∧ s.length - i < n)) (b : Nat) (s : Str) (i : Nat) :
    GCtr lim Tryz.prog 126 [(b, some [.str s, .v (.int .i64 i), .v (.bool false)])] [.ptr b 0] (RdQ b s i (pSeq s i [])) (i ≤ s.length ∧ s.length ≤ 30 ∧ s.length - i < n) := by
  refine GCtr.of_body en126 Tryz.func126 rfl rfl fun hp => (?_); rw [Tryz.ntmps126]
  (refine vK ?_; with_reducible repeat' first | exact Le.l | refine Sw ?_ ?_ | intro (K : _ → _ → Prop) hK | intro h)
  rename_i b2
  refine AW.loopV [3] [0, 2] (fun m xs o => ∃ (l : List GPat) (j : Nat) (bad : Bool), xs = [.sl true 3 (l.map encPat)] ∧ o = [(b2, some [.v (.int .i64 0), .str [], .v (.slice none 0 0)]), (b, some [.str s, .v (.int .i64 j), .v (.bool bad)])] ∧ m = (if bad then 0 else s.length - j + 1) ∧ j ≤ s.length ∧ l.length ≤ 31 ∧ i ≤ j ∧ (bad = false → l.length ≤ j ∧ pSeq s j l = pSeq s i []) ∧ (bad = true → pSeq s i [] = none)) _ [(b2, some [.v (.int .i64 0), .str [], .v (.slice none 0 0)]), (b, some [.str s, .v (.int .i64 i), .v (.bool false)])] (subO_two (Ne.symm h) rfl rfl) ⟨[], i, false, ?_, rfl, rfl, ?_, ?_, ?_, ?_, ?_⟩ ?_
  · rfl
  · omega
  · simp
  · omega
  · simp
  · simp
  rintro m xs o ⟨l, j, bad, rfl, rfl, rfl, hj, hl0, hij, hR, hN⟩
  cases bad with
  | true =>
    have hN := hN rfl
    (refine vK ?_; with_reducible repeat' first | exact Le.l | refine Sw ?_ ?_ | intro (K : _ → _ → Prop) hK | intro h)
    (refine AW.i rfl (fun h => ?_) (fun h => ?_) <;> try simp only [hC, reduceCtorEq] at h)
    refine AW.imp (Imp.frz 3 ?_)
    simp (maxSteps := 2000000) (disch := omega) only [go_sem]
    (refine vK ?_; with_reducible repeat' first | exact Le.l | refine Sw ?_ ?_ | intro (K : _ → _ → Prop) hK | intro h)
    (refine AW.i rfl (fun h => ?_) (fun h => ?_) <;> try simp only [hC, reduceCtorEq] at h)
    · (refine vK ?_; with_reducible repeat' first | exact Le.l | refine Sw ?_ ?_ | intro (K : _ → _ → Prop) hK | intro h)
      (refine AW.ret (EndsG.imp (Imp.frzO (b := b2) (by simp (maxSteps := 2000000) (disch := omega) only [go_sem]; rfl) ?_)); simp (maxSteps := 2000000) (disch := omega) only [go_sem]; refine EndsG.finQ rfl (RdQ.no (at_ l 0) (j := j) hN (by omega)) ?_; simp (maxSteps := 2000000) (disch := omega) only [go_sem])
    · (refine vK ?_; with_reducible repeat' first | exact Le.l | refine Sw ?_ ?_ | intro (K : _ → _ → Prop) hK | intro h)
      (refine AW.ret (EndsG.imp (Imp.frzO (b := b2) (by simp (maxSteps := 2000000) (disch := omega) only [go_sem]; rfl) ?_)); simp (maxSteps := 2000000) (disch := omega) only [go_sem]; refine EndsG.finQ rfl (RdQ.no (.mk 2 [] l) (j := j) hN (by omega)) ?_; simp (maxSteps := 2000000) (disch := omega) only [go_sem])
  | false =>
    have hR := hR rfl
    (refine vK ?_; with_reducible repeat' first | exact Le.l | refine Sw ?_ ?_ | intro (K : _ → _ → Prop) hK | intro h)
    (refine AW.i rfl (fun h => ?_) (fun h => ?_) <;> try simp only [hC, reduceCtorEq] at h)
    · have hc := h
      (refine vK ?_; with_reducible repeat' first | exact Le.l | refine Sw ?_ ?_ | intro (K : _ → _ → Prop) hK | intro h)
      refine GK.rd (fun p k hq hk => ?_) (fun p k hq hk => ?_)
      · have hb := pAtom_bd hq
        have hgo : ∀ pp jj, post s p k = (pp, jj) → pSeq s jj (l ++ [pp]) = pSeq s i [] := fun pp jj e => by
          rw [← hR.2, ← pSeq_go l hc.1.1 hc.1.2 hc.2 (by rw [pItem, hq]; simp only [e])]
        (refine vK ?_; with_reducible repeat' first | exact Le.l | refine Sw ?_ ?_ | intro (K : _ → _ → Prop) hK | intro h)
        rename_i b4
        (refine AW.i rfl (fun h => ?_) (fun h => ?_) <;> try simp only [hC, reduceCtorEq] at h)
        · simp only [h, cond_true]
          have hl2 := isAt_iff.1 h
          have hpo := hgo (.mk 4 [] [p]) (k + 1) (by rw [post]; simp [*])
          (refine vN ?_; with_reducible repeat' first | exact Le.l | refine Sw ?_ ?_ | intro (K : _ → _ → Prop) hK | intro h)
          refine AW.regn fun K hK => ?_
          simp (maxSteps := 2000000) (disch := omega) only [go_sem]
          (refine vN ?_; with_reducible repeat' first | exact Le.l | refine Sw ?_ ?_ | intro (K : _ → _ → Prop) hK | intro h)
          refine AW.imp (Imp.frzO (b := b4) (by simp (maxSteps := 2000000) (disch := omega) only [go_sem]; rfl) ?_)
          simp (maxSteps := 2000000) (disch := omega) only [go_sem]
          (refine vK ?_; with_reducible repeat' first | exact Le.l | refine Sw ?_ ?_ | intro (K : _ → _ → Prop) hK | intro h)
          exact ⟨_, [_], [(b2, some [.v (.int .i64 0), .str [], .v (.slice none 0 0)]), (b, some [.str s, .v (.int .i64 (k + 1 : Nat)), .v (.bool false)])], by simp; omega, ⟨l ++ [.mk 4 [] [p]], k + 1, false, rfl, rfl, rfl, by omega, by simp; omega, by omega, fun _ => ⟨by simp; omega, hpo⟩, by simp⟩, by simp [encPat_eq, fOp_mk, fText_mk, fKids_mk], by simp (maxSteps := 2000000) (disch := omega) only [go_sem]⟩
        simp only [h, cond_false]
        (refine vK ?_; with_reducible repeat' first | exact Le.l | refine Sw ?_ ?_ | intro (K : _ → _ → Prop) hK | intro h)
        (refine AW.i rfl (fun h => ?_) (fun h => ?_) <;> try simp only [hC, reduceCtorEq] at h)
        · simp only [h, cond_true]
          have hl2 := isAt_iff.1 h
          have hpo := hgo (.mk 2 [] [p, .mk 4 [] [p]]) (k + 1) (by rw [post]; simp [*])
          (refine vN ?_; with_reducible repeat' first | exact Le.l | refine Sw ?_ ?_ | intro (K : _ → _ → Prop) hK | intro h)
          refine AW.drwn fun K hK => ?_
          simp (maxSteps := 2000000) (disch := omega) only [go_sem]
          (refine vN ?_; with_reducible repeat' first | exact Le.l | refine Sw ?_ ?_ | intro (K : _ → _ → Prop) hK | intro h)
          refine AW.imp (Imp.frzO (b := b4) (by simp (maxSteps := 2000000) (disch := omega) only [go_sem]; rfl) ?_)
          simp (maxSteps := 2000000) (disch := omega) only [go_sem]
          (refine vK ?_; with_reducible repeat' first | exact Le.l | refine Sw ?_ ?_ | intro (K : _ → _ → Prop) hK | intro h)
          exact ⟨_, [_], [(b2, some [.v (.int .i64 0), .str [], .v (.slice none 0 0)]), (b, some [.str s, .v (.int .i64 (k + 1 : Nat)), .v (.bool false)])], by simp; omega, ⟨l ++ [.mk 2 [] [p, .mk 4 [] [p]]], k + 1, false, rfl, rfl, rfl, by omega, by simp; omega, by omega, fun _ => ⟨by simp; omega, hpo⟩, by simp⟩, by simp [encPat_eq, fOp_mk, fText_mk, fKids_mk], by simp (maxSteps := 2000000) (disch := omega) only [go_sem]⟩
        simp only [h, cond_false]
        (refine vK ?_; with_reducible repeat' first | exact Le.l | refine Sw ?_ ?_ | intro (K : _ → _ → Prop) hK | intro h)
        (refine AW.i rfl (fun h => ?_) (fun h => ?_) <;> try simp only [hC, reduceCtorEq] at h)
        · simp only [h, cond_true]
          have hl2 := isAt_iff.1 h
          have hpo := hgo (.mk 5 [] [p]) (k + 1) (by rw [post]; simp [*])
          (refine vN ?_; with_reducible repeat' first | exact Le.l | refine Sw ?_ ?_ | intro (K : _ → _ → Prop) hK | intro h)
          refine AW.regn fun K hK => ?_
          simp (maxSteps := 2000000) (disch := omega) only [go_sem]
          (refine vN ?_; with_reducible repeat' first | exact Le.l | refine Sw ?_ ?_ | intro (K : _ → _ → Prop) hK | intro h)
          refine AW.imp (Imp.frzO (b := b4) (by simp (maxSteps := 2000000) (disch := omega) only [go_sem]; rfl) ?_)
          simp (maxSteps := 2000000) (disch := omega) only [go_sem]
          (refine vK ?_; with_reducible repeat' first | exact Le.l | refine Sw ?_ ?_ | intro (K : _ → _ → Prop) hK | intro h)
          exact ⟨_, [_], [(b2, some [.v (.int .i64 0), .str [], .v (.slice none 0 0)]), (b, some [.str s, .v (.int .i64 (k + 1 : Nat)), .v (.bool false)])], by simp; omega, ⟨l ++ [.mk 5 [] [p]], k + 1, false, rfl, rfl, rfl, by omega, by simp; omega, by omega, fun _ => ⟨by simp; omega, hpo⟩, by simp⟩, by simp [encPat_eq, fOp_mk, fText_mk, fKids_mk], by simp (maxSteps := 2000000) (disch := omega) only [go_sem]⟩
        · simp only [h, cond_false]
          have hpo := hgo p k (by rw [post]; simp [*])
          (refine vK ?_; with_reducible repeat' first | exact Le.l | refine Sw ?_ ?_ | intro (K : _ → _ → Prop) hK | intro h)
          exact ⟨_, [_], [(b2, some [.v (.int .i64 0), .str [], .v (.slice none 0 0)]), (b, some [.str s, .v (.int .i64 (k : Nat)), .v (.bool false)])], by simp; omega, ⟨l ++ [p], k, false, rfl, rfl, rfl, by omega, by simp; omega, by omega, fun _ => ⟨by simp; omega, hpo⟩, by simp⟩, by simp [encPat_eq, fOp_mk, fText_mk, fKids_mk], by simp (maxSteps := 2000000) (disch := omega) only [go_sem]⟩
      · have hN' : pSeq s i [] = none := by rw [← hR.2, pSeq_none l hc.1.1 hc.1.2 hc.2 (by rw [pItem, hq])]
        (refine vK ?_; with_reducible repeat' first | exact Le.l | refine Sw ?_ ?_ | intro (K : _ → _ → Prop) hK | intro h)
        (refine AW.i rfl (fun h => ?_) (fun h => ?_) <;> try simp only [hC, reduceCtorEq] at h)
        (refine vK ?_; with_reducible repeat' first | exact Le.l | refine Sw ?_ ?_ | intro (K : _ → _ → Prop) hK | intro h)
        (refine AW.i rfl (fun h => ?_) (fun h => ?_) <;> try simp only [hC, reduceCtorEq] at h)
        (refine vK ?_; with_reducible repeat' first | exact Le.l | refine Sw ?_ ?_ | intro (K : _ → _ → Prop) hK | intro h)
        (refine AW.i rfl (fun h => ?_) (fun h => ?_) <;> try simp only [hC, reduceCtorEq] at h)
        (refine vK ?_; with_reducible repeat' first | exact Le.l | refine Sw ?_ ?_ | intro (K : _ → _ → Prop) hK | intro h)
        exact ⟨_, [_], [(b2, some [.v (.int .i64 0), .str [], .v (.slice none 0 0)]), (b, some [.str s, .v (.int .i64 k), .v (.bool true)])], by simp, ⟨l ++ [p], k, true, rfl, rfl, rfl, by omega, by simp; omega, by omega, by simp, fun _ => hN'⟩, by simp [encPat_eq], by simp (maxSteps := 2000000) (disch := omega) only [go_sem]⟩
    · refine AW.imp (Imp.frz 3 ?_)
      simp (maxSteps := 2000000) (disch := omega) only [go_sem]
      (refine vK ?_; with_reducible repeat' first | exact Le.l | refine Sw ?_ ?_ | intro (K : _ → _ → Prop) hK | intro h)
      (refine AW.i rfl (fun h => ?_) (fun h => ?_) <;> try simp only [hC, reduceCtorEq] at h)
      · (refine vK ?_; with_reducible repeat' first | exact Le.l | refine Sw ?_ ?_ | intro (K : _ → _ → Prop) hK | intro h)
        (refine AW.ret (EndsG.imp (Imp.frzO (b := b2) (by simp (maxSteps := 2000000) (disch := omega) only [go_sem]; rfl) ?_)); simp (maxSteps := 2000000) (disch := omega) only [go_sem]; refine EndsG.finQ rfl (RdQ.yes (p := at_ l 0) (j := j) (by rw [← hR.2, pSeq_stop l (by omega), mkSeq, if_pos (by omega)]) (by omega)) ?_; simp (maxSteps := 2000000) (disch := omega) only [go_sem])
      · (refine vK ?_; with_reducible repeat' first | exact Le.l | refine Sw ?_ ?_ | intro (K : _ → _ → Prop) hK | intro h)
        (refine AW.ret (EndsG.imp (Imp.frzO (b := b2) (by simp (maxSteps := 2000000) (disch := omega) only [go_sem]; rfl) ?_)); simp (maxSteps := 2000000) (disch := omega) only [go_sem]; refine EndsG.finQ rfl (RdQ.yes (p := .mk 2 [] l) (j := j) (by rw [← hR.2, pSeq_stop l (by omega), mkSeq, if_neg (by omega)]) (by omega)) ?_; simp (maxSteps := 2000000) (disch := omega) only [go_sem])
end Go.Proofs.YtfglembdjbhanaaGreatDoor
namespace Go.Proofs.YtfglembdjbhanaaGreatDoor
open Go.Ab Go.Dt
set_option maxRecDepth 20000
set_option maxHeartbeats 4000000
theorem l5Alt_n (n : Nat) (hseq : ∀ (b : Nat) (s : Str) (i : Nat), GCtr lim Tryz.prog 126 [(b, some [.str s, .v (.int .i64 i), .v (.bool false)])] [.ptr b 0] (RdQ b s i (pSeq s i [])) (i ≤ s.length ∧ s.length ≤ 30 ∧ s.length - i < n)) (b : Nat) (s : Str) (i : Nat) :
    GCtr lim Tryz.prog 115 [(b, some [.str s, .v (.int .i64 i), .v (.bool false)])] [.ptr b 0] (RdQ b s i (pAlt s i)) (i ≤ s.length ∧ s.length ≤ 30 ∧ s.length - i < n) := by
  refine GCtr.of_body en115 Tryz.func115 rfl rfl fun hp => (?_); rw [Tryz.ntmps115]
  (refine vK ?_; with_reducible repeat' first | exact Le.l | refine Sw ?_ ?_ | intro (K : _ → _ → Prop) hK | intro h)
  rename_i b2
  refine GK.rdB fun p j bad hq hj => ?_
  (refine vK ?_; with_reducible repeat' first | exact Le.l | refine Sw ?_ ?_ | intro (K : _ → _ → Prop) hK | intro h)
  refine AW.loopV [3] [0, 2] (fun m xs o => ∃ (l : List GPat) (j : Nat) (bad : Bool), xs = [.sl true 3 (l.map encPat)] ∧ o = [(b2, some [.v (.int .i64 0), .str [], .v (.slice none 0 0)]), (b, some [.str s, .v (.int .i64 j), .v (.bool bad)])] ∧ m = s.length - j ∧ j ≤ s.length ∧ l.length ≤ j + 1 ∧ i ≤ j ∧ (bad = false → pAltL s j l = pAlt s i) ∧ (bad = true → pAlt s i = none)) _ [(b2, some [.v (.int .i64 0), .str [], .v (.slice none 0 0)]), (b, some [.str s, .v (.int .i64 j), .v (.bool bad)])] (subO_two (Ne.symm h) rfl rfl) ⟨[p], j, bad, ?_, rfl, rfl, ?_, ?_, ?_, ?_, ?_⟩ ?_
  · simp [T, encPat_eq]
  · omega
  · simp
  · omega
  · rintro rfl
    rcases hq with ⟨_, hq⟩ | ⟨h, _⟩
    · exact (pAlt_go hp.1 hq).symm
    · cases h
  · rintro rfl
    rcases hq with ⟨h, _⟩ | ⟨_, hq⟩
    · cases h
    · exact pAlt_none hq
  clear hq hj bad
  rintro m xs o ⟨l, j, bad, rfl, rfl, rfl, hj, hl, hij, hR, hN⟩
  cases bad with
  | true =>
    have hN := hN rfl
    (refine vK ?_; with_reducible repeat' first | exact Le.l | refine Sw ?_ ?_ | intro (K : _ → _ → Prop) hK | intro h)
    (refine AW.i rfl (fun h => ?_) (fun h => ?_) <;> try simp only [hC, reduceCtorEq] at h)
    refine AW.imp (Imp.frz 3 ?_)
    simp (maxSteps := 2000000) (disch := omega) only [go_sem]
    (refine vK ?_; with_reducible repeat' first | exact Le.l | refine Sw ?_ ?_ | intro (K : _ → _ → Prop) hK | intro h)
    (refine AW.i rfl (fun h => ?_) (fun h => ?_) <;> try simp only [hC, reduceCtorEq] at h)
    · (refine vK ?_; with_reducible repeat' first | exact Le.l | refine Sw ?_ ?_ | intro (K : _ → _ → Prop) hK | intro h)
      (refine AW.ret (EndsG.imp (Imp.frzO (b := b2) (by simp (maxSteps := 2000000) (disch := omega) only [go_sem]; rfl) ?_)); simp (maxSteps := 2000000) (disch := omega) only [go_sem]; refine EndsG.finQ rfl (RdQ.no (at_ l 0) (j := j) hN (by omega)) ?_; simp (maxSteps := 2000000) (disch := omega) only [go_sem])
    · (refine vK ?_; with_reducible repeat' first | exact Le.l | refine Sw ?_ ?_ | intro (K : _ → _ → Prop) hK | intro h)
      (refine AW.ret (EndsG.imp (Imp.frzO (b := b2) (by simp (maxSteps := 2000000) (disch := omega) only [go_sem]; rfl) ?_)); simp (maxSteps := 2000000) (disch := omega) only [go_sem]; refine EndsG.finQ rfl (RdQ.no (.mk 3 [] l) (j := j) hN (by omega)) ?_; simp (maxSteps := 2000000) (disch := omega) only [go_sem])
  | false =>
    have hR := hR rfl
    (refine vK ?_; with_reducible repeat' first | exact Le.l | refine Sw ?_ ?_ | intro (K : _ → _ → Prop) hK | intro h)
    (refine AW.i rfl (fun h => ?_) (fun h => ?_) <;> try simp only [hC, reduceCtorEq] at h)
    · simp only [h, cond_true]
      have hlt := isAt_iff.1 h
      (refine vK ?_; with_reducible repeat' first | exact Le.l | refine Sw ?_ ?_ | intro (K : _ → _ → Prop) hK | intro h)
      refine GK.rd (fun p k hq hk => ?_) (fun p k hq hk => ?_)
      · (refine vK ?_; with_reducible repeat' first | exact Le.l | refine Sw ?_ ?_ | intro (K : _ → _ → Prop) hK | intro h)
        exact ⟨_, [_], [(b2, some [.v (.int .i64 0), .str [], .v (.slice none 0 0)]), (b, some [.str s, .v (.int .i64 k), .v (.bool false)])], by omega, ⟨l ++ [p], k, false, rfl, rfl, rfl, by omega, by simp; omega, by omega, fun _ => by rw [← hR, pAltL_go l h hq], by simp⟩, by simp [encPat_eq], by simp (maxSteps := 2000000) (disch := omega) only [go_sem]⟩
      · (refine vK ?_; with_reducible repeat' first | exact Le.l | refine Sw ?_ ?_ | intro (K : _ → _ → Prop) hK | intro h)
        exact ⟨_, [_], [(b2, some [.v (.int .i64 0), .str [], .v (.slice none 0 0)]), (b, some [.str s, .v (.int .i64 k), .v (.bool true)])], by omega, ⟨l ++ [p], k, true, rfl, rfl, rfl, by omega, by simp; omega, by omega, by simp, fun _ => by rw [← hR, pAltL_none l h hq]⟩, by simp [encPat_eq], by simp (maxSteps := 2000000) (disch := omega) only [go_sem]⟩
    · simp only [h, cond_false]
      have hst := pAltL_stop l h
      refine AW.imp (Imp.frz 3 ?_)
      simp (maxSteps := 2000000) (disch := omega) only [go_sem]
      (refine vK ?_; with_reducible repeat' first | exact Le.l | refine Sw ?_ ?_ | intro (K : _ → _ → Prop) hK | intro h)
      (refine AW.i rfl (fun h => ?_) (fun h => ?_) <;> try simp only [hC, reduceCtorEq] at h)
      · (refine vK ?_; with_reducible repeat' first | exact Le.l | refine Sw ?_ ?_ | intro (K : _ → _ → Prop) hK | intro h)
        (refine AW.ret (EndsG.imp (Imp.frzO (b := b2) (by simp (maxSteps := 2000000) (disch := omega) only [go_sem]; rfl) ?_)); simp (maxSteps := 2000000) (disch := omega) only [go_sem]; refine EndsG.finQ rfl (RdQ.yes (p := at_ l 0) (j := j) (by rw [← hR, hst, mkAlt, if_pos (by omega)]) (by omega)) ?_; simp (maxSteps := 2000000) (disch := omega) only [go_sem])
      · (refine vK ?_; with_reducible repeat' first | exact Le.l | refine Sw ?_ ?_ | intro (K : _ → _ → Prop) hK | intro h)
        (refine AW.ret (EndsG.imp (Imp.frzO (b := b2) (by simp (maxSteps := 2000000) (disch := omega) only [go_sem]; rfl) ?_)); simp (maxSteps := 2000000) (disch := omega) only [go_sem]; refine EndsG.finQ rfl (RdQ.yes (p := .mk 3 [] l) (j := j) (by rw [← hR, hst, mkAlt, if_neg (by omega)]) (by omega)) ?_; simp (maxSteps := 2000000) (disch := omega) only [go_sem])
theorem l5Alt_all : ∀ (n : Nat) (b : Nat) (s : Str) (i : Nat), GCtr lim Tryz.prog 115 [(b, some [.str s, .v (.int .i64 i), .v (.bool false)])] [.ptr b 0] (RdQ b s i (pAlt s i)) (i ≤ s.length ∧ s.length ≤ 30 ∧ s.length - i < n)
  | 0, _, _, _ => ⟨en115, fun h => absurd h.2.2 (Nat.not_lt_zero _)⟩
  | n + 1, b, s, i => l5Alt_n (n + 1) (l5Seq_n (n + 1) (l5Atom_n n (l5Alt_all n))) b s i
instance l5Alt_i (b : Nat) (s : Str) : GCtr lim Tryz.prog 115 [(b, some [.str s, .v (.int .i64 0), .v (.bool false)])] [.ptr b 0] (RdQ b s 0 (pAlt s 0)) (s.length ≤ 30) := ⟨en115, fun h => (l5Alt_all 31 b s 0).out ⟨by omega, h, by omega⟩⟩

instance sParsePattern_i (s : Str) : Ctr lim Tryz.prog 94 [] [.str s] (.tup [.agg [.v (.int .i64 (parsePat s).1.fOp), .str (parsePat s).1.fText, .sl false 3 ((parsePat s).1.fKids.map encPat)], .v (.bool (parsePat s).2)]) [] True := by
  refine Ctr.of_body en94 Tryz.func94 rfl rfl fun hp => (?_); rw [Tryz.ntmps94]
  refine AW.fact 0 fun hf => ?_
  simp (disch := omega) only [go_sem, Nat.reduceBEq] at hf
  by_cases hlen : 30 < s.length
  · have hd : decide (30 < (s.length : Int)) = true := by simp; omega
    have e := parse_long (s := s) (by omega)
    (repeat' first | (with_reducible first | refine Z ?_ | refine Y ?_ | (refine hK _ _ ?_; clear hK K) | refine And.intro ?_ ?_ | exact Ct | intro (K : _ → _ → Prop) hK | (refine gI fun hg => ?_; try simp only [hC, reduceCtorEq] at hg; try simp only [hg])) | ((with_reducible refine E ?_; repeat refine Y ?_); refine eF rfl ?_) | simp (disch := omega) only [go_sem, hd] | (with_reducible intro hg; try simp only [hC, reduceCtorEq] at hg) | exact Cl | fail)
    rename_i b2 b3
    (refine AW.i rfl (fun h => ?_) (fun h => ?_) <;> try simp only [hC, reduceCtorEq] at h)
    (refine vX ?_; with_reducible repeat' first | exact Le.l | refine Sw ?_ ?_ | intro (K : _ → _ → Prop) hK | intro h)
    (refine AW.ret (EndsG.imp (Imp.nilO (b := b2) 3 [.v (.int .i64 0), .str []] [] (by simp (maxSteps := 2000000) (disch := omega) only [go_sem]) ?_)); simp (maxSteps := 2000000) (disch := omega) only [go_sem]; refine EndsG.fin rfl ?_; simp (maxSteps := 2000000) (disch := omega) only [go_sem, e, pat0, fOp_mk, fText_mk, fKids_mk])
  · have hd : decide (30 < (s.length : Int)) = false := by simp; omega
    (repeat' first | (with_reducible first | refine Z ?_ | refine Y ?_ | (refine hK _ _ ?_; clear hK K) | refine And.intro ?_ ?_ | exact Ct | intro (K : _ → _ → Prop) hK | (refine gI fun hg => ?_; try simp only [hC, reduceCtorEq] at hg; try simp only [hg])) | ((with_reducible refine E ?_; repeat refine Y ?_); refine eF rfl ?_) | simp (disch := omega) only [go_sem, hd] | (with_reducible intro hg; try simp only [hC, reduceCtorEq] at hg) | exact Cl | fail)
    rename_i b2 b3
    (refine AW.i rfl (fun h => ?_) (fun h => ?_) <;> try simp only [hC, reduceCtorEq] at h)
    (refine vK ?_; with_reducible repeat' first | exact Le.l | refine Sw ?_ ?_ | intro (K : _ → _ → Prop) hK | intro h)
    refine GK.rd (fun p j hq hj => ?_) (fun p j hq hj => ?_)
    · (refine vK ?_; with_reducible repeat' first | exact Le.l | refine Sw ?_ ?_ | intro (K : _ → _ → Prop) hK | intro h)
      (refine AW.i rfl (fun h => ?_) (fun h => ?_) <;> try simp only [hC, reduceCtorEq] at h)
      · have e := parse_part hq (by omega)
        (refine vX ?_; with_reducible repeat' first | exact Le.l | refine Sw ?_ ?_ | intro (K : _ → _ → Prop) hK | intro h)
        (refine AW.ret (EndsG.imp (Imp.nilO (b := b2) 3 [.v (.int .i64 0), .str []] [] (by simp (maxSteps := 2000000) (disch := omega) only [go_sem]) ?_)); simp (maxSteps := 2000000) (disch := omega) only [go_sem]; refine EndsG.fin rfl ?_; simp (maxSteps := 2000000) (disch := omega) only [go_sem, e, pat0, fOp_mk, fText_mk, fKids_mk])
      · have e := parse_yes (by omega) hq (by omega)
        (repeat' first | (with_reducible first | refine Z ?_ | refine Y ?_ | (refine hK _ _ ?_; clear hK K) | refine And.intro ?_ ?_ | exact Ct | intro (K : _ → _ → Prop) hK | (refine gI fun hg => ?_; try simp only [hC, reduceCtorEq] at hg; try simp only [hg])) | (refine AW.i rfl (fun h => ?_) (fun h => ?_) <;> try simp only [hC, reduceCtorEq] at h) | ((with_reducible refine E ?_; repeat refine Y ?_); refine eF rfl ?_) | simp (disch := omega) only [go_sem, e] | (with_reducible intro hg; try simp only [hC, reduceCtorEq] at hg) | exact Cl | fail)
    · have e := parse_none hq
      (refine vK ?_; with_reducible repeat' first | exact Le.l | refine Sw ?_ ?_ | intro (K : _ → _ → Prop) hK | intro h)
      (refine AW.i rfl (fun h => ?_) (fun h => ?_) <;> try simp only [hC, reduceCtorEq] at h)
      (refine vX ?_; with_reducible repeat' first | exact Le.l | refine Sw ?_ ?_ | intro (K : _ → _ → Prop) hK | intro h)
      (refine AW.ret (EndsG.imp (Imp.nilO (b := b2) 3 [.v (.int .i64 0), .str []] [] (by simp (maxSteps := 2000000) (disch := omega) only [go_sem]) ?_)); simp (maxSteps := 2000000) (disch := omega) only [go_sem]; refine EndsG.fin rfl ?_; simp (maxSteps := 2000000) (disch := omega) only [go_sem, e, pat0, fOp_mk, fText_mk, fKids_mk])
instance sIsPattern_i (s : Str) : Ctr lim Tryz.prog 89 [] [.str s] (.v (.bool (isPat s))) [] True := by
  refine Ctr.of_body en89 Tryz.func89 rfl rfl fun hp => (?_); rw [Tryz.ntmps89]
  have e := parsePat_isPat s
  (repeat' first | (with_reducible first | refine Z ?_ | refine Y ?_ | (refine hK _ _ ?_; clear hK K) | refine And.intro ?_ ?_ | exact Ct | intro (K : _ → _ → Prop) hK | (refine gI fun hg => ?_; try simp only [hC, reduceCtorEq] at hg; try simp only [hg])) | (refine AW.i rfl (fun h => ?_) (fun h => ?_) <;> try simp only [hC, reduceCtorEq] at h) | ((with_reducible refine E ?_; repeat refine Y ?_); refine eF rfl ?_) | simp (disch := omega) only [go_sem, e] | (with_reducible intro hg; try simp only [hC, reduceCtorEq] at hg) | exact Cl | fail)
end Go.Proofs.YtfglembdjbhanaaGreatDoor
