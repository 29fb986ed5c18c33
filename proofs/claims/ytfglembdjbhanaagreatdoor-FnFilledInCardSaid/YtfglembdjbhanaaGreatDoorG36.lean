/-
  Part of a proof: Pr1, Pt6, Pt7.
-/
import Derived.Test.YtfglembdjbhanaaGreatDoorG20
import Derived.Test.YtfglembdjbhanaaGreatDoorG34
import Derived.Test.YtfglembdjbhanaaGreatDoorG35
set_option linter.unusedSimpArgs false
set_option linter.unusedVariables false
namespace Go.Dt
open Go.Ab
theorem hasC_any0 : hasC (fun c => decide (32 ≤ c) && decide (c < 32)) = hasC (fun _ => false) := by
  congr 1; funext c; simp
theorem hasC_any1 {k : Nat} (h : 32 ≤ k) : hasC (fun c => if c = k then true else decide (32 ≤ c) && decide (c < k)) = hasC (fun c => decide (32 ≤ c) && decide (c < k + 1)) := by
  congr 1; funext c
  by_cases e : c = k
  · subst e; simp [h]
  · rw [if_neg e]
    congr 1
    exact decide_eq_decide.2 (by omega)
theorem hasC_same (ha : Nat → Bool) (a : Int) : hasC (fun c => ha c || (decide (a ≤ (c : Int)) && decide ((c : Int) < a))) = hasC ha := by
  congr 1; funext c
  have : (decide (a ≤ (c : Int)) && decide ((c : Int) < a)) = false := by simp
  rw [this, Bool.or_false]
theorem hasC_grow (ha : Nat → Bool) {a : Int} {y : Nat} (h : a ≤ (y : Int)) : hasC (fun c => if c = y then true else ha c || (decide (a ≤ (c : Int)) && decide ((c : Int) < (y : Int)))) = hasC (fun c => ha c || (decide (a ≤ (c : Int)) && decide ((c : Int) < ((y + 1 : Nat) : Int)))) := by
  congr 1; funext c
  by_cases e : c = y
  · subst e; simp [h]; right; omega
  · rw [if_neg e]
    congr 2
    exact decide_eq_decide.2 (by omega)
@[go_sem] theorem unb_at8 (s : Str) (n : Int) : unb [.v (.int .u8 (at8 s n))] = some [UInt8.ofNat (at8 s n).toNat] := by
  have h1 := at8_le s n
  have h2 := at8_ge s n
  simp only [unb, if_pos (And.intro h2 h1), Option.map_some]
theorem take_drop1 {s : Str} {i : Nat} (h : i < s.length) : (s.take (i + 1)).drop i = [UInt8.ofNat (at8 s i).toNat] := by
  have e : UInt8.ofNat (at8 s i).toNat = s[i] := by simp [at8, List.getElem?_eq_getElem h]
  rw [List.drop_take, show i + 1 - i = 1 by omega, List.drop_eq_getElem_cons h, e]
  rfl
theorem fill_done (ha : Nat → Bool) {a z : Int} {y : Int} (h : y = z + 1) : (fun c : Nat => ha c || (decide (a ≤ (c : Int)) && decide ((c : Int) < y))) = (fun c : Nat => ha c || (decide (a ≤ (c : Int)) && decide ((c : Int) ≤ z))) := by
  funext c
  congr 2
  exact decide_eq_decide.2 (by omega)
theorem any_eq : clsT (fun c => decide (32 ≤ c) && decide (c < 127)) = anyT := by
  unfold anyT
  congr 1; funext c
  congr 1
  exact decide_eq_decide.2 (by omega)
end Go.Dt
namespace Go.Proofs.YtfglembdjbhanaaGreatDoor
open Go.Ab Go.Dt
set_option maxRecDepth 20000
set_option maxHeartbeats 4000000

theorem atom_n (n : Nat) (halt : ∀ (b : Nat) (s : Str) (i : Nat), GCtr lim Tryz.prog 122 [(b, some [.str s, .v (.int .i64 i), .v (.bool false)])] [.ptr b 0] (RdQ b s i (pAlt s i)) (i ≤ s.length ∧ s.length ≤ 30 ∧ s.length - i < n)) (b : Nat) (s : Str) (i : Nat) :
    GCtr lim Tryz.prog 157 [(b, some [.str s, .v (.int .i64 i), .v (.bool false)])] [.ptr b 0] (RdQ b s i (pAtom s i)) (i < s.length ∧ s.length ≤ 30 ∧ s.length - i < n + 1) := by
  refine GCtr.of_body en157 Tryz.func157 rfl rfl fun hp => (?_); rw [Tryz.ntmps157]
  (refine vK ?_; with_reducible repeat' first | exact Le.l | refine Sw ?_ ?_ | intro (K : _ → _ → Prop) hK | intro h)
  rename_i b2 hg1 b3
  (refine AW.i rfl (fun h => ?_) (fun h => ?_) <;> try simp only [hC, reduceCtorEq] at h)
  · simp only [h, cond_true]
    have hlt := isAt_iff.1 h
    have hop0 := pAtom_open0 h
    have hop1 := fun p j => pAtom_open1 (p := p) (j := j) h
    have hop2 := fun p j => pAtom_open2 (p := p) (j := j) h
    (refine vK ?_; with_reducible repeat' first | exact Le.l | refine Sw ?_ ?_ | intro (K : _ → _ → Prop) hK | intro h)
    refine GK.rd (fun p j hq hj => ?_) (fun p j hq hj => ?_)
    · (refine vK ?_; with_reducible repeat' first | exact Le.l | refine Sw ?_ ?_ | intro (K : _ → _ → Prop) hK | intro h)
      (refine AW.i rfl (fun h => ?_) (fun h => ?_) <;> try simp only [hC, reduceCtorEq] at h)
      · simp only [h, cond_false]
        (refine vK ?_; with_reducible repeat' first | exact Le.l | refine Sw ?_ ?_ | intro (K : _ → _ → Prop) hK | intro h)
        (refine AW.ret (EndsG.imp (Imp.frzO (b := b2) (by simp (maxSteps := 2000000) (disch := omega) only [go_sem]; rfl) ?_)); simp (maxSteps := 2000000) (disch := omega) only [go_sem]; refine EndsG.finQ rfl (RdQ.no p (j := j) (hop2 p j hq h) (by omega)) ?_; simp (maxSteps := 2000000) (disch := omega) only [go_sem])
      · simp only [h, cond_true]
        have hl2 := isAt_iff.1 h
        (refine vK ?_; with_reducible repeat' first | exact Le.l | refine Sw ?_ ?_ | intro (K : _ → _ → Prop) hK | intro h)
        (refine AW.ret (EndsG.imp (Imp.frzO (b := b2) (by simp (maxSteps := 2000000) (disch := omega) only [go_sem]; rfl) ?_)); simp (maxSteps := 2000000) (disch := omega) only [go_sem]; refine EndsG.finQ rfl (RdQ.yes (p := p) (j := j + 1) (hop1 p j hq h) (by omega)) ?_; simp (maxSteps := 2000000) (disch := omega) only [go_sem])
    · (refine vK ?_; with_reducible repeat' first | exact Le.l | refine Sw ?_ ?_ | intro (K : _ → _ → Prop) hK | intro h)
      (refine AW.i rfl (fun h => ?_) (fun h => ?_) <;> try simp only [hC, reduceCtorEq] at h)
      · simp only [h, cond_false]
        (refine vK ?_; with_reducible repeat' first | exact Le.l | refine Sw ?_ ?_ | intro (K : _ → _ → Prop) hK | intro h)
        (refine AW.ret (EndsG.imp (Imp.frzO (b := b2) (by simp (maxSteps := 2000000) (disch := omega) only [go_sem]; rfl) ?_)); simp (maxSteps := 2000000) (disch := omega) only [go_sem]; refine EndsG.finQ rfl (RdQ.no p (j := j) (hop0 hq) (by omega)) ?_; simp (maxSteps := 2000000) (disch := omega) only [go_sem])
      · simp only [h, cond_true]
        have hl2 := isAt_iff.1 h
        (refine vK ?_; with_reducible repeat' first | exact Le.l | refine Sw ?_ ?_ | intro (K : _ → _ → Prop) hK | intro h)
        (refine AW.ret (EndsG.imp (Imp.frzO (b := b2) (by simp (maxSteps := 2000000) (disch := omega) only [go_sem]; rfl) ?_)); simp (maxSteps := 2000000) (disch := omega) only [go_sem]; refine EndsG.finQ rfl (RdQ.no p (j := j + 1) (hop0 hq) (by omega)) ?_; simp (maxSteps := 2000000) (disch := omega) only [go_sem])
  simp only [h, cond_false]
  have hels := pAtom_else hp.1 h
  (refine vK ?_; with_reducible repeat' first | exact Le.l | refine Sw ?_ ?_ | intro (K : _ → _ → Prop) hK | intro h)
  (refine AW.i rfl (fun h => ?_) (fun h => ?_) <;> try simp only [hC, reduceCtorEq] at h)
  · have hdot := atomS_dot h
    simp only [h, cond_true]
    (refine vK ?_; with_reducible repeat' first | exact Le.l | refine Sw ?_ ?_ | intro (K : _ → _ → Prop) hK | intro h)
    refine AW.loopV [5] [0, 2, 3] (fun m xs o => ∃ k : Nat, xs = [.v (.int .i64 k)] ∧ o = [(b3, some (hasC (fun c => decide (32 ≤ c) && decide (c < k)))), (b2, some [.v (.int .i64 0), .str [], .v (.slice none 0 0)]), (b, some [.str s, .v (.int .i64 (i + 1 : Nat)), .v (.bool false)])] ∧ m = 127 - k ∧ 32 ≤ k ∧ k ≤ 127) 95 [(b3, some (hasC (fun _ => false))), (b2, some [.v (.int .i64 0), .str [], .v (.slice none 0 0)]), (b, some [.str s, .v (.int .i64 (i + 1 : Nat)), .v (.bool false)])] gO ⟨32, rfl, ?_, rfl, by omega, by omega⟩ ?_
    · rw [hasC_any0]
    rintro m xs o ⟨k, rfl, rfl, rfl, hk1, hk2⟩
    (refine vK ?_; with_reducible repeat' first | exact Le.l | refine Sw ?_ ?_ | intro (K : _ → _ → Prop) hK | intro h)
    (refine AW.i rfl (fun h => ?_) (fun h => ?_) <;> try simp only [hC, reduceCtorEq] at h)
    · (refine vK ?_; with_reducible repeat' first | exact Le.l | refine Sw ?_ ?_ | intro (K : _ → _ → Prop) hK | intro h)
      exact ⟨_, [_], [(b3, some (hasC (fun c => decide (32 ≤ c) && decide (c < k + 1)))), (b2, some [.v (.int .i64 0), .str [], .v (.slice none 0 0)]), (b, some [.str s, .v (.int .i64 (i + 1 : Nat)), .v (.bool false)])], by omega, ⟨k + 1, rfl, rfl, rfl, by omega, by omega⟩, rfl, by rw [← hasC_any1 hk1]; simp (maxSteps := 2000000) (disch := omega) only [go_sem]⟩
    · have : k = 127 := by omega
      subst this
      (refine vK ?_; with_reducible repeat' first | exact Le.l | refine Sw ?_ ?_ | intro (K : _ → _ → Prop) hK | intro h)
      (refine AW.ret (EndsG.imp (Imp.frzO (b := b2) (by simp (maxSteps := 2000000) (disch := omega) only [go_sem]; rfl) ?_)); simp (maxSteps := 2000000) (disch := omega) only [go_sem]; refine EndsG.finQ rfl (RdQ.yes (p := .mk 1 (clsT (fun c => decide (32 ≤ c) && decide (c < 127))) []) (j := i + 1) (by rw [hels, hdot, any_eq, patC]) (by omega)) ?_; simp (maxSteps := 2000000) (disch := omega) only [go_sem])
  simp only [h, cond_false]
  have hnd := h
  (refine vK ?_; with_reducible repeat' first | exact Le.l | refine Sw ?_ ?_ | intro (K : _ → _ → Prop) hK | intro h)
  (refine AW.i rfl (fun h => ?_) (fun h => ?_) <;> try simp only [hC, reduceCtorEq] at h)
  · have hcls := atomS_cls hnd h
    simp only [h, cond_true]
    generalize hRR : clsS s (i + 1) (fun _ => false) = R at hcls
    (refine vK ?_; with_reducible repeat' first | exact Le.l | refine Sw ?_ ?_ | intro (K : _ → _ → Prop) hK | intro h)
    refine AW.loopV [6] [0, 2, 3] (fun m xs o => ∃ (k j : Nat) (ha : Nat → Bool) (bad : Bool), xs = [.v (.int .i64 k)] ∧ o = [(b3, some (hasC ha)), (b2, some [.v (.int .i64 0), .str [], .v (.slice none 0 0)]), (b, some [.str s, .v (.int .i64 j), .v (.bool bad)])] ∧ m = (if bad then 0 else s.length - j + 1) ∧ j ≤ s.length ∧ i ≤ j ∧ k ≤ 31 ∧ (bad = false → k ≤ j ∧ (if k = 0 then clsS s j ha else clsL s j ha) = R) ∧ (bad = true → R = none)) _ [(b3, some (hasC (fun _ => false))), (b2, some [.v (.int .i64 0), .str [], .v (.slice none 0 0)]), (b, some [.str s, .v (.int .i64 (i + 1 : Nat)), .v (.bool false)])] gO ⟨0, i + 1, fun _ => false, false, rfl, rfl, rfl, by omega, by omega, by omega, fun _ => ⟨by omega, by rw [if_pos rfl]; exact hRR⟩, by simp⟩ ?_
    rintro m xs o ⟨k, j, ha, bad, rfl, rfl, rfl, hj, hij, hk, hR, hN⟩
    cases bad with
    | true =>
      have hN := hN rfl
      (refine vK ?_; with_reducible repeat' first | exact Le.l | refine Sw ?_ ?_ | intro (K : _ → _ → Prop) hK | intro h)
      (refine AW.i rfl (fun h => ?_) (fun h => ?_) <;> try simp only [hC, reduceCtorEq] at h)
      (refine vK ?_; with_reducible repeat' first | exact Le.l | refine Sw ?_ ?_ | intro (K : _ → _ → Prop) hK | intro h)
      (refine AW.ret (EndsG.imp (Imp.frzO (b := b2) (by simp (maxSteps := 2000000) (disch := omega) only [go_sem]; rfl) ?_)); simp (maxSteps := 2000000) (disch := omega) only [go_sem]; refine EndsG.finQ rfl (RdQ.no (.mk 1 (clsT ha) []) (j := j) (by rw [hels, hcls, hN]) (by omega)) ?_; simp (maxSteps := 2000000) (disch := omega) only [go_sem])
    | false =>
      have hR := hR rfl
      by_cases hk0 : k = 0
      · subst hk0
        have hS : clsS s j ha = R := by simpa using hR.2
        rw [show ((0 : Nat) : Int) = 0 from rfl]
        (refine vK ?_; with_reducible repeat' first | exact Le.l | refine Sw ?_ ?_ | intro (K : _ → _ → Prop) hK | intro h)
        (refine AW.i rfl (fun h => ?_) (fun h => ?_) <;> try simp only [hC, reduceCtorEq] at h)
        have hge := at8_ge s (j : Int)
        have hle := at8_le s (j : Int)
        have hge1 := at8_ge s ((j + 1 : Nat) : Int)
        have hle1 := at8_le s ((j + 1 : Nat) : Int)
        have hge2 := at8_ge s ((j + 1 + 1 : Nat) : Int)
        have hle2 := at8_le s ((j + 1 + 1 : Nat) : Int)
        cases hch : chAt s j with
        | false =>
          have hN' : R = none := by rw [← hS, clsS_none ha (clsE_no hch)]
          (repeat' first | (with_reducible first | refine Z ?_ | refine Y ?_ | (refine hK _ _ ?_; clear hK K) | refine And.intro ?_ ?_ | exact Ct | intro (K : _ → _ → Prop) hK | (refine gI fun hg => ?_; try simp only [hC, reduceCtorEq] at hg; try simp only [hg])) | ((with_reducible refine E ?_; repeat refine Y ?_); refine eF rfl ?_) | simp (disch := omega) only [go_sem, hch] | (with_reducible intro hg; try simp only [hC, reduceCtorEq] at hg) | exact Cl | fail)
          (refine AW.i rfl (fun h => ?_) (fun h => ?_) <;> try simp only [hC, reduceCtorEq] at h)
          · simp only [h, cond_true]
            have hl2 := isAt_iff.1 h
            cases hc2 : chAt s (j + 1) with
            | true =>
              have hl3 := chAt_lt hc2
              (repeat' first | (with_reducible first | refine Z ?_ | refine Y ?_ | (refine hK _ _ ?_; clear hK K) | refine And.intro ?_ ?_ | exact Ct | intro (K : _ → _ → Prop) hK | (refine gI fun hg => ?_; try simp only [hC, reduceCtorEq] at hg; try simp only [hg])) | ((with_reducible refine E ?_; repeat refine Y ?_); refine eF rfl ?_) | simp (disch := omega) only [go_sem, hc2] | (with_reducible intro hg; try simp only [hC, reduceCtorEq] at hg) | exact Cl | fail)
              (refine AW.i rfl (fun h => ?_) (fun h => ?_) <;> try simp only [hC, reduceCtorEq] at h)
              · omega
              · (refine vK ?_; with_reducible repeat' first | exact Le.l | refine Sw ?_ ?_ | intro (K : _ → _ → Prop) hK | intro h)
                refine AW.loopV [9] [0, 2, 3, 6, 7, 8] (fun m xs o => ∃ x : Int, xs = [.v (.int .i64 x)] ∧ o = [(b3, some (hasC (fun c => ha c || (decide (0 ≤ (c : Int)) && decide ((c : Int) < x))))), (b2, some [.v (.int .i64 0), .str [], .v (.slice none 0 0)]), (b, some [.str s, .v (.int .i64 (j + 1 + 1 : Nat)), .v (.bool true)])] ∧ m = (256 - x).toNat ∧ 0 ≤ x ∧ x ≤ 256 ∧ (0 ≤ at8 s ((j + 1 : Nat) : Int) → x ≤ at8 s ((j + 1 : Nat) : Int) + 1) ∧ (at8 s ((j + 1 : Nat) : Int) < 0 → x = 0)) _ [(b3, some (hasC ha)), (b2, some [.v (.int .i64 0), .str [], .v (.slice none 0 0)]), (b, some [.str s, .v (.int .i64 (j + 1 + 1 : Nat)), .v (.bool true)])] gO ⟨0, rfl, by rw [hasC_same], rfl, by omega, by omega, by omega, by omega⟩ ?_
                rintro m xs o ⟨x, rfl, rfl, rfl, hx1, hx2, hx3, hx4⟩
                obtain ⟨y, rfl⟩ : ∃ y : Nat, x = y := ⟨x.toNat, by omega⟩
                (refine vK ?_; with_reducible repeat' first | exact Le.l | refine Sw ?_ ?_ | intro (K : _ → _ → Prop) hK | intro h)
                (refine AW.i rfl (fun h => ?_) (fun h => ?_) <;> try simp only [hC, reduceCtorEq] at h)
                · (refine vK ?_; with_reducible repeat' first | exact Le.l | refine Sw ?_ ?_ | intro (K : _ → _ → Prop) hK | intro h)
                  try exact ⟨_, [_], [(b3, some (hasC (fun c => ha c || (decide (0 ≤ (c : Int)) && decide ((c : Int) < ((y + 1 : Nat) : Int)))))), (b2, some [.v (.int .i64 0), .str [], .v (.slice none 0 0)]), (b, some [.str s, .v (.int .i64 (j + 1 + 1 : Nat)), .v (.bool true)])], by omega, ⟨((y + 1 : Nat) : Int), rfl, rfl, rfl, by omega, by omega, by omega, by omega⟩, by simp, by rw [← hasC_grow ha (by omega)]; simp (maxSteps := 2000000) (disch := omega) only [go_sem]⟩
                · (refine vK ?_; with_reducible repeat' first | exact Le.l | refine Sw ?_ ?_ | intro (K : _ → _ → Prop) hK | intro h)
                  exact ⟨0, [_], [(b3, some (hasC (fun c => ha c || (decide (0 ≤ (c : Int)) && decide ((c : Int) < (y : Int)))))), (b2, some [.v (.int .i64 0), .str [], .v (.slice none 0 0)]), (b, some [.str s, .v (.int .i64 (j + 1 + 1 : Nat)), .v (.bool true)])], by simp, ⟨0 + 1, j + 1 + 1, _, true, rfl, rfl, rfl, by omega, by omega, by omega, by simp, fun _ => hN'⟩, rfl, by simp (maxSteps := 2000000) (disch := omega) only [go_sem]⟩
            | false =>
              (repeat' first | (with_reducible first | refine Z ?_ | refine Y ?_ | (refine hK _ _ ?_; clear hK K) | refine And.intro ?_ ?_ | exact Ct | intro (K : _ → _ → Prop) hK | (refine gI fun hg => ?_; try simp only [hC, reduceCtorEq] at hg; try simp only [hg])) | ((with_reducible refine E ?_; repeat refine Y ?_); refine eF rfl ?_) | simp (disch := omega) only [go_sem, hc2] | (with_reducible intro hg; try simp only [hC, reduceCtorEq] at hg) | exact Cl | fail)
              (refine AW.i rfl (fun h => ?_) (fun h => ?_) <;> try simp only [hC, reduceCtorEq] at h)
              · omega
              · (refine vK ?_; with_reducible repeat' first | exact Le.l | refine Sw ?_ ?_ | intro (K : _ → _ → Prop) hK | intro h)
                refine AW.loopV [9] [0, 2, 3, 6, 7, 8] (fun m xs o => ∃ x : Int, xs = [.v (.int .i64 x)] ∧ o = [(b3, some (hasC (fun c => ha c || (decide (0 ≤ (c : Int)) && decide ((c : Int) < x))))), (b2, some [.v (.int .i64 0), .str [], .v (.slice none 0 0)]), (b, some [.str s, .v (.int .i64 (j + 1 : Nat)), .v (.bool true)])] ∧ m = (256 - x).toNat ∧ 0 ≤ x ∧ x ≤ 256 ∧ (0 ≤ 0 → x ≤ 0 + 1) ∧ (0 < 0 → x = 0)) _ [(b3, some (hasC ha)), (b2, some [.v (.int .i64 0), .str [], .v (.slice none 0 0)]), (b, some [.str s, .v (.int .i64 (j + 1 : Nat)), .v (.bool true)])] gO ⟨0, rfl, by rw [hasC_same], rfl, by omega, by omega, by omega, by omega⟩ ?_
                rintro m xs o ⟨x, rfl, rfl, rfl, hx1, hx2, hx3, hx4⟩
                obtain ⟨y, rfl⟩ : ∃ y : Nat, x = y := ⟨x.toNat, by omega⟩
                (refine vK ?_; with_reducible repeat' first | exact Le.l | refine Sw ?_ ?_ | intro (K : _ → _ → Prop) hK | intro h)
                (refine AW.i rfl (fun h => ?_) (fun h => ?_) <;> try simp only [hC, reduceCtorEq] at h)
                · (refine vK ?_; with_reducible repeat' first | exact Le.l | refine Sw ?_ ?_ | intro (K : _ → _ → Prop) hK | intro h)
                  try exact ⟨_, [_], [(b3, some (hasC (fun c => ha c || (decide (0 ≤ (c : Int)) && decide ((c : Int) < ((y + 1 : Nat) : Int)))))), (b2, some [.v (.int .i64 0), .str [], .v (.slice none 0 0)]), (b, some [.str s, .v (.int .i64 (j + 1 : Nat)), .v (.bool true)])], by omega, ⟨((y + 1 : Nat) : Int), rfl, rfl, rfl, by omega, by omega, by omega, by omega⟩, by simp, by rw [← hasC_grow ha (by omega)]; simp (maxSteps := 2000000) (disch := omega) only [go_sem]⟩
                · (refine vK ?_; with_reducible repeat' first | exact Le.l | refine Sw ?_ ?_ | intro (K : _ → _ → Prop) hK | intro h)
                  exact ⟨0, [_], [(b3, some (hasC (fun c => ha c || (decide (0 ≤ (c : Int)) && decide ((c : Int) < (y : Int)))))), (b2, some [.v (.int .i64 0), .str [], .v (.slice none 0 0)]), (b, some [.str s, .v (.int .i64 (j + 1 : Nat)), .v (.bool true)])], by simp, ⟨0 + 1, j + 1, _, true, rfl, rfl, rfl, by omega, by omega, by omega, by simp, fun _ => hN'⟩, rfl, by simp (maxSteps := 2000000) (disch := omega) only [go_sem]⟩
          · simp only [h, cond_false]
            (refine vK ?_; with_reducible repeat' first | exact Le.l | refine Sw ?_ ?_ | intro (K : _ → _ → Prop) hK | intro h)
            (refine AW.i rfl (fun h => ?_) (fun h => ?_) <;> try simp only [hC, reduceCtorEq] at h)
            · omega
            · (refine vK ?_; with_reducible repeat' first | exact Le.l | refine Sw ?_ ?_ | intro (K : _ → _ → Prop) hK | intro h)
              refine AW.loopV [9] [0, 2, 3, 6, 7, 8] (fun m xs o => ∃ x : Int, xs = [.v (.int .i64 x)] ∧ o = [(b3, some (hasC (fun c => ha c || (decide (0 ≤ (c : Int)) && decide ((c : Int) < x))))), (b2, some [.v (.int .i64 0), .str [], .v (.slice none 0 0)]), (b, some [.str s, .v (.int .i64 (j : Nat)), .v (.bool true)])] ∧ m = (256 - x).toNat ∧ 0 ≤ x ∧ x ≤ 256 ∧ (0 ≤ 0 → x ≤ 0 + 1) ∧ (0 < 0 → x = 0)) _ [(b3, some (hasC ha)), (b2, some [.v (.int .i64 0), .str [], .v (.slice none 0 0)]), (b, some [.str s, .v (.int .i64 (j : Nat)), .v (.bool true)])] gO ⟨0, rfl, by rw [hasC_same], rfl, by omega, by omega, by omega, by omega⟩ ?_
              rintro m xs o ⟨x, rfl, rfl, rfl, hx1, hx2, hx3, hx4⟩
              obtain ⟨y, rfl⟩ : ∃ y : Nat, x = y := ⟨x.toNat, by omega⟩
              (refine vK ?_; with_reducible repeat' first | exact Le.l | refine Sw ?_ ?_ | intro (K : _ → _ → Prop) hK | intro h)
              (refine AW.i rfl (fun h => ?_) (fun h => ?_) <;> try simp only [hC, reduceCtorEq] at h)
              · (refine vK ?_; with_reducible repeat' first | exact Le.l | refine Sw ?_ ?_ | intro (K : _ → _ → Prop) hK | intro h)
                try exact ⟨_, [_], [(b3, some (hasC (fun c => ha c || (decide (0 ≤ (c : Int)) && decide ((c : Int) < ((y + 1 : Nat) : Int)))))), (b2, some [.v (.int .i64 0), .str [], .v (.slice none 0 0)]), (b, some [.str s, .v (.int .i64 (j : Nat)), .v (.bool true)])], by omega, ⟨((y + 1 : Nat) : Int), rfl, rfl, rfl, by omega, by omega, by omega, by omega⟩, by simp, by rw [← hasC_grow ha (by omega)]; simp (maxSteps := 2000000) (disch := omega) only [go_sem]⟩
              · (refine vK ?_; with_reducible repeat' first | exact Le.l | refine Sw ?_ ?_ | intro (K : _ → _ → Prop) hK | intro h)
                exact ⟨0, [_], [(b3, some (hasC (fun c => ha c || (decide (0 ≤ (c : Int)) && decide ((c : Int) < (y : Int)))))), (b2, some [.v (.int .i64 0), .str [], .v (.slice none 0 0)]), (b, some [.str s, .v (.int .i64 (j : Nat)), .v (.bool true)])], by simp, ⟨0 + 1, j, _, true, rfl, rfl, rfl, by omega, by omega, by omega, by simp, fun _ => hN'⟩, rfl, by simp (maxSteps := 2000000) (disch := omega) only [go_sem]⟩
        | true =>
          have hl1 := chAt_lt hch
          (repeat' first | (with_reducible first | refine Z ?_ | refine Y ?_ | (refine hK _ _ ?_; clear hK K) | refine And.intro ?_ ?_ | exact Ct | intro (K : _ → _ → Prop) hK | (refine gI fun hg => ?_; try simp only [hC, reduceCtorEq] at hg; try simp only [hg])) | ((with_reducible refine E ?_; repeat refine Y ?_); refine eF rfl ?_) | simp (disch := omega) only [go_sem, hch] | (with_reducible intro hg; try simp only [hC, reduceCtorEq] at hg) | exact Cl | fail)
          (refine AW.i rfl (fun h => ?_) (fun h => ?_) <;> try simp only [hC, reduceCtorEq] at h)
          · simp only [h, cond_true]
            have htil := h
            have hl2 := isAt_iff.1 h
            cases hc2 : chAt s (j + 1 + 1) with
            | true =>
              have hl3 := chAt_lt hc2
              (repeat' first | (with_reducible first | refine Z ?_ | refine Y ?_ | (refine hK _ _ ?_; clear hK K) | refine And.intro ?_ ?_ | exact Ct | intro (K : _ → _ → Prop) hK | (refine gI fun hg => ?_; try simp only [hC, reduceCtorEq] at hg; try simp only [hg])) | ((with_reducible refine E ?_; repeat refine Y ?_); refine eF rfl ?_) | simp (disch := omega) only [go_sem, hc2] | (with_reducible intro hg; try simp only [hC, reduceCtorEq] at hg) | exact Cl | fail)
              (refine AW.i rfl (fun h => ?_) (fun h => ?_) <;> try simp only [hC, reduceCtorEq] at h)
              · have hN' : R = none := by rw [← hS, clsS_none ha (clsE_bad htil (.inr h))]
                (refine vK ?_; with_reducible repeat' first | exact Le.l | refine Sw ?_ ?_ | intro (K : _ → _ → Prop) hK | intro h)
                refine AW.loopV [9] [0, 2, 3, 6, 7, 8] (fun m xs o => ∃ x : Int, xs = [.v (.int .i64 x)] ∧ o = [(b3, some (hasC (fun c => ha c || (decide (at8 s (j : Int) ≤ (c : Int)) && decide ((c : Int) < x))))), (b2, some [.v (.int .i64 0), .str [], .v (.slice none 0 0)]), (b, some [.str s, .v (.int .i64 (j + 1 + 1 + 1 : Nat)), .v (.bool true)])] ∧ m = (256 - x).toNat ∧ at8 s (j : Int) ≤ x ∧ x ≤ 256 ∧ (at8 s (j : Int) ≤ at8 s ((j + 1 + 1 : Nat) : Int) → x ≤ at8 s ((j + 1 + 1 : Nat) : Int) + 1) ∧ (at8 s ((j + 1 + 1 : Nat) : Int) < at8 s (j : Int) → x = at8 s (j : Int))) _ [(b3, some (hasC ha)), (b2, some [.v (.int .i64 0), .str [], .v (.slice none 0 0)]), (b, some [.str s, .v (.int .i64 (j + 1 + 1 + 1 : Nat)), .v (.bool true)])] gO ⟨at8 s (j : Int), rfl, by rw [hasC_same], rfl, by omega, by omega, by omega, by omega⟩ ?_
                rintro m xs o ⟨x, rfl, rfl, rfl, hx1, hx2, hx3, hx4⟩
                obtain ⟨y, rfl⟩ : ∃ y : Nat, x = y := ⟨x.toNat, by omega⟩
                (refine vK ?_; with_reducible repeat' first | exact Le.l | refine Sw ?_ ?_ | intro (K : _ → _ → Prop) hK | intro h)
                (refine AW.i rfl (fun h => ?_) (fun h => ?_) <;> try simp only [hC, reduceCtorEq] at h)
                · (refine vK ?_; with_reducible repeat' first | exact Le.l | refine Sw ?_ ?_ | intro (K : _ → _ → Prop) hK | intro h)
                  try exact ⟨_, [_], [(b3, some (hasC (fun c => ha c || (decide (at8 s (j : Int) ≤ (c : Int)) && decide ((c : Int) < ((y + 1 : Nat) : Int)))))), (b2, some [.v (.int .i64 0), .str [], .v (.slice none 0 0)]), (b, some [.str s, .v (.int .i64 (j + 1 + 1 + 1 : Nat)), .v (.bool true)])], by omega, ⟨((y + 1 : Nat) : Int), rfl, rfl, rfl, by omega, by omega, by omega, by omega⟩, by simp, by rw [← hasC_grow ha (by omega)]; simp (maxSteps := 2000000) (disch := omega) only [go_sem]⟩
                · (refine vK ?_; with_reducible repeat' first | exact Le.l | refine Sw ?_ ?_ | intro (K : _ → _ → Prop) hK | intro h)
                  exact ⟨0, [_], [(b3, some (hasC (fun c => ha c || (decide (at8 s (j : Int) ≤ (c : Int)) && decide ((c : Int) < (y : Int)))))), (b2, some [.v (.int .i64 0), .str [], .v (.slice none 0 0)]), (b, some [.str s, .v (.int .i64 (j + 1 + 1 + 1 : Nat)), .v (.bool true)])], by simp, ⟨0 + 1, j + 1 + 1 + 1, _, true, rfl, rfl, rfl, by omega, by omega, by omega, by simp, fun _ => hN'⟩, rfl, by simp (maxSteps := 2000000) (disch := omega) only [go_sem]⟩
              · have hS2 := clsS_some ha (clsE_two hch htil hc2 h)
                (refine vK ?_; with_reducible repeat' first | exact Le.l | refine Sw ?_ ?_ | intro (K : _ → _ → Prop) hK | intro h)
                refine AW.loopV [9] [0, 2, 3, 6, 7, 8] (fun m xs o => ∃ x : Int, xs = [.v (.int .i64 x)] ∧ o = [(b3, some (hasC (fun c => ha c || (decide (at8 s (j : Int) ≤ (c : Int)) && decide ((c : Int) < x))))), (b2, some [.v (.int .i64 0), .str [], .v (.slice none 0 0)]), (b, some [.str s, .v (.int .i64 (j + 1 + 1 + 1 : Nat)), .v (.bool false)])] ∧ m = (256 - x).toNat ∧ at8 s (j : Int) ≤ x ∧ x ≤ 256 ∧ (at8 s (j : Int) ≤ at8 s ((j + 1 + 1 : Nat) : Int) → x ≤ at8 s ((j + 1 + 1 : Nat) : Int) + 1) ∧ (at8 s ((j + 1 + 1 : Nat) : Int) < at8 s (j : Int) → x = at8 s (j : Int))) _ [(b3, some (hasC ha)), (b2, some [.v (.int .i64 0), .str [], .v (.slice none 0 0)]), (b, some [.str s, .v (.int .i64 (j + 1 + 1 + 1 : Nat)), .v (.bool false)])] gO ⟨at8 s (j : Int), rfl, by rw [hasC_same], rfl, by omega, by omega, by omega, by omega⟩ ?_
                rintro m xs o ⟨x, rfl, rfl, rfl, hx1, hx2, hx3, hx4⟩
                obtain ⟨y, rfl⟩ : ∃ y : Nat, x = y := ⟨x.toNat, by omega⟩
                (refine vK ?_; with_reducible repeat' first | exact Le.l | refine Sw ?_ ?_ | intro (K : _ → _ → Prop) hK | intro h)
                (refine AW.i rfl (fun h => ?_) (fun h => ?_) <;> try simp only [hC, reduceCtorEq] at h)
                · (refine vK ?_; with_reducible repeat' first | exact Le.l | refine Sw ?_ ?_ | intro (K : _ → _ → Prop) hK | intro h)
                  try exact ⟨_, [_], [(b3, some (hasC (fun c => ha c || (decide (at8 s (j : Int) ≤ (c : Int)) && decide ((c : Int) < ((y + 1 : Nat) : Int)))))), (b2, some [.v (.int .i64 0), .str [], .v (.slice none 0 0)]), (b, some [.str s, .v (.int .i64 (j + 1 + 1 + 1 : Nat)), .v (.bool false)])], by omega, ⟨((y + 1 : Nat) : Int), rfl, rfl, rfl, by omega, by omega, by omega, by omega⟩, by simp, by rw [← hasC_grow ha (by omega)]; simp (maxSteps := 2000000) (disch := omega) only [go_sem]⟩
                · (refine vK ?_; with_reducible repeat' first | exact Le.l | refine Sw ?_ ?_ | intro (K : _ → _ → Prop) hK | intro h)
                  exact ⟨_, [_], [(b3, some (hasC (fun c => ha c || (decide (at8 s (j : Int) ≤ (c : Int)) && decide ((c : Int) < (y : Int)))))), (b2, some [.v (.int .i64 0), .str [], .v (.slice none 0 0)]), (b, some [.str s, .v (.int .i64 (j + 1 + 1 + 1 : Nat)), .v (.bool false)])], by simp; omega, ⟨0 + 1, j + 1 + 1 + 1, _, false, rfl, rfl, rfl, by omega, by omega, by omega, fun _ => ⟨by omega, by rw [if_neg (by omega), fill_done ha (a := at8 s (j : Int)) (z := at8 s ((j + 1 + 1 : Nat) : Int)) (y := (y : Int)) (by omega), ← hS2, hS]⟩, by simp⟩, rfl, by simp (maxSteps := 2000000) (disch := omega) only [go_sem]⟩
            | false =>
              have hN' : R = none := by rw [← hS, clsS_none ha (clsE_bad htil (.inl hc2))]
              (repeat' first | (with_reducible first | refine Z ?_ | refine Y ?_ | (refine hK _ _ ?_; clear hK K) | refine And.intro ?_ ?_ | exact Ct | intro (K : _ → _ → Prop) hK | (refine gI fun hg => ?_; try simp only [hC, reduceCtorEq] at hg; try simp only [hg])) | ((with_reducible refine E ?_; repeat refine Y ?_); refine eF rfl ?_) | simp (disch := omega) only [go_sem, hc2] | (with_reducible intro hg; try simp only [hC, reduceCtorEq] at hg) | exact Cl | fail)
              (refine AW.i rfl (fun h => ?_) (fun h => ?_) <;> try simp only [hC, reduceCtorEq] at h)
              · (refine vK ?_; with_reducible repeat' first | exact Le.l | refine Sw ?_ ?_ | intro (K : _ → _ → Prop) hK | intro h)
                refine AW.loopV [9] [0, 2, 3, 6, 7, 8] (fun m xs o => ∃ x : Int, xs = [.v (.int .i64 x)] ∧ o = [(b3, some (hasC (fun c => ha c || (decide (at8 s (j : Int) ≤ (c : Int)) && decide ((c : Int) < x))))), (b2, some [.v (.int .i64 0), .str [], .v (.slice none 0 0)]), (b, some [.str s, .v (.int .i64 (j + 1 + 1 : Nat)), .v (.bool true)])] ∧ m = (256 - x).toNat ∧ at8 s (j : Int) ≤ x ∧ x ≤ 256 ∧ (at8 s (j : Int) ≤ 0 → x ≤ 0 + 1) ∧ (0 < at8 s (j : Int) → x = at8 s (j : Int))) _ [(b3, some (hasC ha)), (b2, some [.v (.int .i64 0), .str [], .v (.slice none 0 0)]), (b, some [.str s, .v (.int .i64 (j + 1 + 1 : Nat)), .v (.bool true)])] gO ⟨at8 s (j : Int), rfl, by rw [hasC_same], rfl, by omega, by omega, by omega, by omega⟩ ?_
                rintro m xs o ⟨x, rfl, rfl, rfl, hx1, hx2, hx3, hx4⟩
                obtain ⟨y, rfl⟩ : ∃ y : Nat, x = y := ⟨x.toNat, by omega⟩
                (refine vK ?_; with_reducible repeat' first | exact Le.l | refine Sw ?_ ?_ | intro (K : _ → _ → Prop) hK | intro h)
                (refine AW.i rfl (fun h => ?_) (fun h => ?_) <;> try simp only [hC, reduceCtorEq] at h)
                · (refine vK ?_; with_reducible repeat' first | exact Le.l | refine Sw ?_ ?_ | intro (K : _ → _ → Prop) hK | intro h)
                  try exact ⟨_, [_], [(b3, some (hasC (fun c => ha c || (decide (at8 s (j : Int) ≤ (c : Int)) && decide ((c : Int) < ((y + 1 : Nat) : Int)))))), (b2, some [.v (.int .i64 0), .str [], .v (.slice none 0 0)]), (b, some [.str s, .v (.int .i64 (j + 1 + 1 : Nat)), .v (.bool true)])], by omega, ⟨((y + 1 : Nat) : Int), rfl, rfl, rfl, by omega, by omega, by omega, by omega⟩, by simp, by rw [← hasC_grow ha (by omega)]; simp (maxSteps := 2000000) (disch := omega) only [go_sem]⟩
                · (refine vK ?_; with_reducible repeat' first | exact Le.l | refine Sw ?_ ?_ | intro (K : _ → _ → Prop) hK | intro h)
                  exact ⟨0, [_], [(b3, some (hasC (fun c => ha c || (decide (at8 s (j : Int) ≤ (c : Int)) && decide ((c : Int) < (y : Int)))))), (b2, some [.v (.int .i64 0), .str [], .v (.slice none 0 0)]), (b, some [.str s, .v (.int .i64 (j + 1 + 1 : Nat)), .v (.bool true)])], by simp, ⟨0 + 1, j + 1 + 1, _, true, rfl, rfl, rfl, by omega, by omega, by omega, by simp, fun _ => hN'⟩, rfl, by simp (maxSteps := 2000000) (disch := omega) only [go_sem]⟩
              · (refine vK ?_; with_reducible repeat' first | exact Le.l | refine Sw ?_ ?_ | intro (K : _ → _ → Prop) hK | intro h)
                refine AW.loopV [9] [0, 2, 3, 6, 7, 8] (fun m xs o => ∃ x : Int, xs = [.v (.int .i64 x)] ∧ o = [(b3, some (hasC (fun c => ha c || (decide (at8 s (j : Int) ≤ (c : Int)) && decide ((c : Int) < x))))), (b2, some [.v (.int .i64 0), .str [], .v (.slice none 0 0)]), (b, some [.str s, .v (.int .i64 (j + 1 + 1 : Nat)), .v (.bool true)])] ∧ m = (256 - x).toNat ∧ at8 s (j : Int) ≤ x ∧ x ≤ 256 ∧ (at8 s (j : Int) ≤ 0 → x ≤ 0 + 1) ∧ (0 < at8 s (j : Int) → x = at8 s (j : Int))) _ [(b3, some (hasC ha)), (b2, some [.v (.int .i64 0), .str [], .v (.slice none 0 0)]), (b, some [.str s, .v (.int .i64 (j + 1 + 1 : Nat)), .v (.bool true)])] gO ⟨at8 s (j : Int), rfl, by rw [hasC_same], rfl, by omega, by omega, by omega, by omega⟩ ?_
                rintro m xs o ⟨x, rfl, rfl, rfl, hx1, hx2, hx3, hx4⟩
                obtain ⟨y, rfl⟩ : ∃ y : Nat, x = y := ⟨x.toNat, by omega⟩
                (refine vK ?_; with_reducible repeat' first | exact Le.l | refine Sw ?_ ?_ | intro (K : _ → _ → Prop) hK | intro h)
                (refine AW.i rfl (fun h => ?_) (fun h => ?_) <;> try simp only [hC, reduceCtorEq] at h)
                · (refine vK ?_; with_reducible repeat' first | exact Le.l | refine Sw ?_ ?_ | intro (K : _ → _ → Prop) hK | intro h)
                  try exact ⟨_, [_], [(b3, some (hasC (fun c => ha c || (decide (at8 s (j : Int) ≤ (c : Int)) && decide ((c : Int) < ((y + 1 : Nat) : Int)))))), (b2, some [.v (.int .i64 0), .str [], .v (.slice none 0 0)]), (b, some [.str s, .v (.int .i64 (j + 1 + 1 : Nat)), .v (.bool true)])], by omega, ⟨((y + 1 : Nat) : Int), rfl, rfl, rfl, by omega, by omega, by omega, by omega⟩, by simp, by rw [← hasC_grow ha (by omega)]; simp (maxSteps := 2000000) (disch := omega) only [go_sem]⟩
                · (refine vK ?_; with_reducible repeat' first | exact Le.l | refine Sw ?_ ?_ | intro (K : _ → _ → Prop) hK | intro h)
                  exact ⟨0, [_], [(b3, some (hasC (fun c => ha c || (decide (at8 s (j : Int) ≤ (c : Int)) && decide ((c : Int) < (y : Int)))))), (b2, some [.v (.int .i64 0), .str [], .v (.slice none 0 0)]), (b, some [.str s, .v (.int .i64 (j + 1 + 1 : Nat)), .v (.bool true)])], by simp, ⟨0 + 1, j + 1 + 1, _, true, rfl, rfl, rfl, by omega, by omega, by omega, by simp, fun _ => hN'⟩, rfl, by simp (maxSteps := 2000000) (disch := omega) only [go_sem]⟩
          · simp only [h, cond_false]
            have hS2 := clsS_some ha (clsE_one hch h)
            (refine vK ?_; with_reducible repeat' first | exact Le.l | refine Sw ?_ ?_ | intro (K : _ → _ → Prop) hK | intro h)
            (refine AW.i rfl (fun h => ?_) (fun h => ?_) <;> try simp only [hC, reduceCtorEq] at h)
            · omega
            · (refine vK ?_; with_reducible repeat' first | exact Le.l | refine Sw ?_ ?_ | intro (K : _ → _ → Prop) hK | intro h)
              refine AW.loopV [9] [0, 2, 3, 6, 7, 8] (fun m xs o => ∃ x : Int, xs = [.v (.int .i64 x)] ∧ o = [(b3, some (hasC (fun c => ha c || (decide (at8 s (j : Int) ≤ (c : Int)) && decide ((c : Int) < x))))), (b2, some [.v (.int .i64 0), .str [], .v (.slice none 0 0)]), (b, some [.str s, .v (.int .i64 (j + 1 : Nat)), .v (.bool false)])] ∧ m = (256 - x).toNat ∧ at8 s (j : Int) ≤ x ∧ x ≤ 256 ∧ (at8 s (j : Int) ≤ at8 s (j : Int) → x ≤ at8 s (j : Int) + 1) ∧ (at8 s (j : Int) < at8 s (j : Int) → x = at8 s (j : Int))) _ [(b3, some (hasC ha)), (b2, some [.v (.int .i64 0), .str [], .v (.slice none 0 0)]), (b, some [.str s, .v (.int .i64 (j + 1 : Nat)), .v (.bool false)])] gO ⟨at8 s (j : Int), rfl, by rw [hasC_same], rfl, by omega, by omega, by omega, by omega⟩ ?_
              rintro m xs o ⟨x, rfl, rfl, rfl, hx1, hx2, hx3, hx4⟩
              obtain ⟨y, rfl⟩ : ∃ y : Nat, x = y := ⟨x.toNat, by omega⟩
              (refine vK ?_; with_reducible repeat' first | exact Le.l | refine Sw ?_ ?_ | intro (K : _ → _ → Prop) hK | intro h)
              (refine AW.i rfl (fun h => ?_) (fun h => ?_) <;> try simp only [hC, reduceCtorEq] at h)
              · (refine vK ?_; with_reducible repeat' first | exact Le.l | refine Sw ?_ ?_ | intro (K : _ → _ → Prop) hK | intro h)
                try exact ⟨_, [_], [(b3, some (hasC (fun c => ha c || (decide (at8 s (j : Int) ≤ (c : Int)) && decide ((c : Int) < ((y + 1 : Nat) : Int)))))), (b2, some [.v (.int .i64 0), .str [], .v (.slice none 0 0)]), (b, some [.str s, .v (.int .i64 (j + 1 : Nat)), .v (.bool false)])], by omega, ⟨((y + 1 : Nat) : Int), rfl, rfl, rfl, by omega, by omega, by omega, by omega⟩, by simp, by rw [← hasC_grow ha (by omega)]; simp (maxSteps := 2000000) (disch := omega) only [go_sem]⟩
              · (refine vK ?_; with_reducible repeat' first | exact Le.l | refine Sw ?_ ?_ | intro (K : _ → _ → Prop) hK | intro h)
                exact ⟨_, [_], [(b3, some (hasC (fun c => ha c || (decide (at8 s (j : Int) ≤ (c : Int)) && decide ((c : Int) < (y : Int)))))), (b2, some [.v (.int .i64 0), .str [], .v (.slice none 0 0)]), (b, some [.str s, .v (.int .i64 (j + 1 : Nat)), .v (.bool false)])], by simp; omega, ⟨0 + 1, j + 1, _, false, rfl, rfl, rfl, by omega, by omega, by omega, fun _ => ⟨by omega, by rw [if_neg (by omega), fill_done ha (a := at8 s (j : Int)) (z := at8 s (j : Int)) (y := (y : Int)) (by omega), ← hS2, hS]⟩, by simp⟩, rfl, by simp (maxSteps := 2000000) (disch := omega) only [go_sem]⟩
      · have hS : clsL s j ha = R := by simpa [hk0] using hR.2
        have hk1 : ((k : Int) == 0) = false := by simp; omega
        (repeat' first | (with_reducible first | refine Z ?_ | refine Y ?_ | (refine hK _ _ ?_; clear hK K) | refine And.intro ?_ ?_ | exact Ct | intro (K : _ → _ → Prop) hK | (refine gI fun hg => ?_; try simp only [hC, reduceCtorEq] at hg; try simp only [hg])) | ((with_reducible refine E ?_; repeat refine Y ?_); refine eF rfl ?_) | simp (disch := omega) only [go_sem, hk1] | (with_reducible intro hg; try simp only [hC, reduceCtorEq] at hg) | exact Cl | fail)
        (refine AW.i rfl (fun h => ?_) (fun h => ?_) <;> try simp only [hC, reduceCtorEq] at h)
        · simp only [h, cond_false]
          have hS := (clsL_go ha h).symm.trans hS
          have hge := at8_ge s (j : Int)
          have hle := at8_le s (j : Int)
          have hge1 := at8_ge s ((j + 1 : Nat) : Int)
          have hle1 := at8_le s ((j + 1 : Nat) : Int)
          have hge2 := at8_ge s ((j + 1 + 1 : Nat) : Int)
          have hle2 := at8_le s ((j + 1 + 1 : Nat) : Int)
          cases hch : chAt s j with
          | false =>
            have hN' : R = none := by rw [← hS, clsS_none ha (clsE_no hch)]
            (repeat' first | (with_reducible first | refine Z ?_ | refine Y ?_ | (refine hK _ _ ?_; clear hK K) | refine And.intro ?_ ?_ | exact Ct | intro (K : _ → _ → Prop) hK | (refine gI fun hg => ?_; try simp only [hC, reduceCtorEq] at hg; try simp only [hg])) | ((with_reducible refine E ?_; repeat refine Y ?_); refine eF rfl ?_) | simp (disch := omega) only [go_sem, hch] | (with_reducible intro hg; try simp only [hC, reduceCtorEq] at hg) | exact Cl | fail)
            (refine AW.i rfl (fun h => ?_) (fun h => ?_) <;> try simp only [hC, reduceCtorEq] at h)
            · simp only [h, cond_true]
              have hl2 := isAt_iff.1 h
              cases hc2 : chAt s (j + 1) with
              | true =>
                have hl3 := chAt_lt hc2
                (repeat' first | (with_reducible first | refine Z ?_ | refine Y ?_ | (refine hK _ _ ?_; clear hK K) | refine And.intro ?_ ?_ | exact Ct | intro (K : _ → _ → Prop) hK | (refine gI fun hg => ?_; try simp only [hC, reduceCtorEq] at hg; try simp only [hg])) | ((with_reducible refine E ?_; repeat refine Y ?_); refine eF rfl ?_) | simp (disch := omega) only [go_sem, hc2] | (with_reducible intro hg; try simp only [hC, reduceCtorEq] at hg) | exact Cl | fail)
                (refine AW.i rfl (fun h => ?_) (fun h => ?_) <;> try simp only [hC, reduceCtorEq] at h)
                · omega
                · (refine vK ?_; with_reducible repeat' first | exact Le.l | refine Sw ?_ ?_ | intro (K : _ → _ → Prop) hK | intro h)
                  refine AW.loopV [9] [0, 2, 3, 6, 7, 8] (fun m xs o => ∃ x : Int, xs = [.v (.int .i64 x)] ∧ o = [(b3, some (hasC (fun c => ha c || (decide (0 ≤ (c : Int)) && decide ((c : Int) < x))))), (b2, some [.v (.int .i64 0), .str [], .v (.slice none 0 0)]), (b, some [.str s, .v (.int .i64 (j + 1 + 1 : Nat)), .v (.bool true)])] ∧ m = (256 - x).toNat ∧ 0 ≤ x ∧ x ≤ 256 ∧ (0 ≤ at8 s ((j + 1 : Nat) : Int) → x ≤ at8 s ((j + 1 : Nat) : Int) + 1) ∧ (at8 s ((j + 1 : Nat) : Int) < 0 → x = 0)) _ [(b3, some (hasC ha)), (b2, some [.v (.int .i64 0), .str [], .v (.slice none 0 0)]), (b, some [.str s, .v (.int .i64 (j + 1 + 1 : Nat)), .v (.bool true)])] gO ⟨0, rfl, by rw [hasC_same], rfl, by omega, by omega, by omega, by omega⟩ ?_
                  rintro m xs o ⟨x, rfl, rfl, rfl, hx1, hx2, hx3, hx4⟩
                  obtain ⟨y, rfl⟩ : ∃ y : Nat, x = y := ⟨x.toNat, by omega⟩
                  (refine vK ?_; with_reducible repeat' first | exact Le.l | refine Sw ?_ ?_ | intro (K : _ → _ → Prop) hK | intro h)
                  (refine AW.i rfl (fun h => ?_) (fun h => ?_) <;> try simp only [hC, reduceCtorEq] at h)
                  · (refine vK ?_; with_reducible repeat' first | exact Le.l | refine Sw ?_ ?_ | intro (K : _ → _ → Prop) hK | intro h)
                    try exact ⟨_, [_], [(b3, some (hasC (fun c => ha c || (decide (0 ≤ (c : Int)) && decide ((c : Int) < ((y + 1 : Nat) : Int)))))), (b2, some [.v (.int .i64 0), .str [], .v (.slice none 0 0)]), (b, some [.str s, .v (.int .i64 (j + 1 + 1 : Nat)), .v (.bool true)])], by omega, ⟨((y + 1 : Nat) : Int), rfl, rfl, rfl, by omega, by omega, by omega, by omega⟩, by simp, by rw [← hasC_grow ha (by omega)]; simp (maxSteps := 2000000) (disch := omega) only [go_sem]⟩
                  · (refine vK ?_; with_reducible repeat' first | exact Le.l | refine Sw ?_ ?_ | intro (K : _ → _ → Prop) hK | intro h)
                    exact ⟨0, [_], [(b3, some (hasC (fun c => ha c || (decide (0 ≤ (c : Int)) && decide ((c : Int) < (y : Int)))))), (b2, some [.v (.int .i64 0), .str [], .v (.slice none 0 0)]), (b, some [.str s, .v (.int .i64 (j + 1 + 1 : Nat)), .v (.bool true)])], by simp, ⟨k + 1, j + 1 + 1, _, true, rfl, rfl, rfl, by omega, by omega, by omega, by simp, fun _ => hN'⟩, rfl, by simp (maxSteps := 2000000) (disch := omega) only [go_sem]⟩
              | false =>
                (repeat' first | (with_reducible first | refine Z ?_ | refine Y ?_ | (refine hK _ _ ?_; clear hK K) | refine And.intro ?_ ?_ | exact Ct | intro (K : _ → _ → Prop) hK | (refine gI fun hg => ?_; try simp only [hC, reduceCtorEq] at hg; try simp only [hg])) | ((with_reducible refine E ?_; repeat refine Y ?_); refine eF rfl ?_) | simp (disch := omega) only [go_sem, hc2] | (with_reducible intro hg; try simp only [hC, reduceCtorEq] at hg) | exact Cl | fail)
                (refine AW.i rfl (fun h => ?_) (fun h => ?_) <;> try simp only [hC, reduceCtorEq] at h)
                · omega
                · (refine vK ?_; with_reducible repeat' first | exact Le.l | refine Sw ?_ ?_ | intro (K : _ → _ → Prop) hK | intro h)
                  refine AW.loopV [9] [0, 2, 3, 6, 7, 8] (fun m xs o => ∃ x : Int, xs = [.v (.int .i64 x)] ∧ o = [(b3, some (hasC (fun c => ha c || (decide (0 ≤ (c : Int)) && decide ((c : Int) < x))))), (b2, some [.v (.int .i64 0), .str [], .v (.slice none 0 0)]), (b, some [.str s, .v (.int .i64 (j + 1 : Nat)), .v (.bool true)])] ∧ m = (256 - x).toNat ∧ 0 ≤ x ∧ x ≤ 256 ∧ (0 ≤ 0 → x ≤ 0 + 1) ∧ (0 < 0 → x = 0)) _ [(b3, some (hasC ha)), (b2, some [.v (.int .i64 0), .str [], .v (.slice none 0 0)]), (b, some [.str s, .v (.int .i64 (j + 1 : Nat)), .v (.bool true)])] gO ⟨0, rfl, by rw [hasC_same], rfl, by omega, by omega, by omega, by omega⟩ ?_
                  rintro m xs o ⟨x, rfl, rfl, rfl, hx1, hx2, hx3, hx4⟩
                  obtain ⟨y, rfl⟩ : ∃ y : Nat, x = y := ⟨x.toNat, by omega⟩
                  (refine vK ?_; with_reducible repeat' first | exact Le.l | refine Sw ?_ ?_ | intro (K : _ → _ → Prop) hK | intro h)
                  (refine AW.i rfl (fun h => ?_) (fun h => ?_) <;> try simp only [hC, reduceCtorEq] at h)
                  · (refine vK ?_; with_reducible repeat' first | exact Le.l | refine Sw ?_ ?_ | intro (K : _ → _ → Prop) hK | intro h)
                    try exact ⟨_, [_], [(b3, some (hasC (fun c => ha c || (decide (0 ≤ (c : Int)) && decide ((c : Int) < ((y + 1 : Nat) : Int)))))), (b2, some [.v (.int .i64 0), .str [], .v (.slice none 0 0)]), (b, some [.str s, .v (.int .i64 (j + 1 : Nat)), .v (.bool true)])], by omega, ⟨((y + 1 : Nat) : Int), rfl, rfl, rfl, by omega, by omega, by omega, by omega⟩, by simp, by rw [← hasC_grow ha (by omega)]; simp (maxSteps := 2000000) (disch := omega) only [go_sem]⟩
                  · (refine vK ?_; with_reducible repeat' first | exact Le.l | refine Sw ?_ ?_ | intro (K : _ → _ → Prop) hK | intro h)
                    exact ⟨0, [_], [(b3, some (hasC (fun c => ha c || (decide (0 ≤ (c : Int)) && decide ((c : Int) < (y : Int)))))), (b2, some [.v (.int .i64 0), .str [], .v (.slice none 0 0)]), (b, some [.str s, .v (.int .i64 (j + 1 : Nat)), .v (.bool true)])], by simp, ⟨k + 1, j + 1, _, true, rfl, rfl, rfl, by omega, by omega, by omega, by simp, fun _ => hN'⟩, rfl, by simp (maxSteps := 2000000) (disch := omega) only [go_sem]⟩
            · simp only [h, cond_false]
              (refine vK ?_; with_reducible repeat' first | exact Le.l | refine Sw ?_ ?_ | intro (K : _ → _ → Prop) hK | intro h)
              (refine AW.i rfl (fun h => ?_) (fun h => ?_) <;> try simp only [hC, reduceCtorEq] at h)
              · omega
              · (refine vK ?_; with_reducible repeat' first | exact Le.l | refine Sw ?_ ?_ | intro (K : _ → _ → Prop) hK | intro h)
                refine AW.loopV [9] [0, 2, 3, 6, 7, 8] (fun m xs o => ∃ x : Int, xs = [.v (.int .i64 x)] ∧ o = [(b3, some (hasC (fun c => ha c || (decide (0 ≤ (c : Int)) && decide ((c : Int) < x))))), (b2, some [.v (.int .i64 0), .str [], .v (.slice none 0 0)]), (b, some [.str s, .v (.int .i64 (j : Nat)), .v (.bool true)])] ∧ m = (256 - x).toNat ∧ 0 ≤ x ∧ x ≤ 256 ∧ (0 ≤ 0 → x ≤ 0 + 1) ∧ (0 < 0 → x = 0)) _ [(b3, some (hasC ha)), (b2, some [.v (.int .i64 0), .str [], .v (.slice none 0 0)]), (b, some [.str s, .v (.int .i64 (j : Nat)), .v (.bool true)])] gO ⟨0, rfl, by rw [hasC_same], rfl, by omega, by omega, by omega, by omega⟩ ?_
                rintro m xs o ⟨x, rfl, rfl, rfl, hx1, hx2, hx3, hx4⟩
                obtain ⟨y, rfl⟩ : ∃ y : Nat, x = y := ⟨x.toNat, by omega⟩
                (refine vK ?_; with_reducible repeat' first | exact Le.l | refine Sw ?_ ?_ | intro (K : _ → _ → Prop) hK | intro h)
                (refine AW.i rfl (fun h => ?_) (fun h => ?_) <;> try simp only [hC, reduceCtorEq] at h)
                · (refine vK ?_; with_reducible repeat' first | exact Le.l | refine Sw ?_ ?_ | intro (K : _ → _ → Prop) hK | intro h)
                  try exact ⟨_, [_], [(b3, some (hasC (fun c => ha c || (decide (0 ≤ (c : Int)) && decide ((c : Int) < ((y + 1 : Nat) : Int)))))), (b2, some [.v (.int .i64 0), .str [], .v (.slice none 0 0)]), (b, some [.str s, .v (.int .i64 (j : Nat)), .v (.bool true)])], by omega, ⟨((y + 1 : Nat) : Int), rfl, rfl, rfl, by omega, by omega, by omega, by omega⟩, by simp, by rw [← hasC_grow ha (by omega)]; simp (maxSteps := 2000000) (disch := omega) only [go_sem]⟩
                · (refine vK ?_; with_reducible repeat' first | exact Le.l | refine Sw ?_ ?_ | intro (K : _ → _ → Prop) hK | intro h)
                  exact ⟨0, [_], [(b3, some (hasC (fun c => ha c || (decide (0 ≤ (c : Int)) && decide ((c : Int) < (y : Int)))))), (b2, some [.v (.int .i64 0), .str [], .v (.slice none 0 0)]), (b, some [.str s, .v (.int .i64 (j : Nat)), .v (.bool true)])], by simp, ⟨k + 1, j, _, true, rfl, rfl, rfl, by omega, by omega, by omega, by simp, fun _ => hN'⟩, rfl, by simp (maxSteps := 2000000) (disch := omega) only [go_sem]⟩
          | true =>
            have hl1 := chAt_lt hch
            (repeat' first | (with_reducible first | refine Z ?_ | refine Y ?_ | (refine hK _ _ ?_; clear hK K) | refine And.intro ?_ ?_ | exact Ct | intro (K : _ → _ → Prop) hK | (refine gI fun hg => ?_; try simp only [hC, reduceCtorEq] at hg; try simp only [hg])) | ((with_reducible refine E ?_; repeat refine Y ?_); refine eF rfl ?_) | simp (disch := omega) only [go_sem, hch] | (with_reducible intro hg; try simp only [hC, reduceCtorEq] at hg) | exact Cl | fail)
            (refine AW.i rfl (fun h => ?_) (fun h => ?_) <;> try simp only [hC, reduceCtorEq] at h)
            · simp only [h, cond_true]
              have htil := h
              have hl2 := isAt_iff.1 h
              cases hc2 : chAt s (j + 1 + 1) with
              | true =>
                have hl3 := chAt_lt hc2
                (repeat' first | (with_reducible first | refine Z ?_ | refine Y ?_ | (refine hK _ _ ?_; clear hK K) | refine And.intro ?_ ?_ | exact Ct | intro (K : _ → _ → Prop) hK | (refine gI fun hg => ?_; try simp only [hC, reduceCtorEq] at hg; try simp only [hg])) | ((with_reducible refine E ?_; repeat refine Y ?_); refine eF rfl ?_) | simp (disch := omega) only [go_sem, hc2] | (with_reducible intro hg; try simp only [hC, reduceCtorEq] at hg) | exact Cl | fail)
                (refine AW.i rfl (fun h => ?_) (fun h => ?_) <;> try simp only [hC, reduceCtorEq] at h)
                · have hN' : R = none := by rw [← hS, clsS_none ha (clsE_bad htil (.inr h))]
                  (refine vK ?_; with_reducible repeat' first | exact Le.l | refine Sw ?_ ?_ | intro (K : _ → _ → Prop) hK | intro h)
                  refine AW.loopV [9] [0, 2, 3, 6, 7, 8] (fun m xs o => ∃ x : Int, xs = [.v (.int .i64 x)] ∧ o = [(b3, some (hasC (fun c => ha c || (decide (at8 s (j : Int) ≤ (c : Int)) && decide ((c : Int) < x))))), (b2, some [.v (.int .i64 0), .str [], .v (.slice none 0 0)]), (b, some [.str s, .v (.int .i64 (j + 1 + 1 + 1 : Nat)), .v (.bool true)])] ∧ m = (256 - x).toNat ∧ at8 s (j : Int) ≤ x ∧ x ≤ 256 ∧ (at8 s (j : Int) ≤ at8 s ((j + 1 + 1 : Nat) : Int) → x ≤ at8 s ((j + 1 + 1 : Nat) : Int) + 1) ∧ (at8 s ((j + 1 + 1 : Nat) : Int) < at8 s (j : Int) → x = at8 s (j : Int))) _ [(b3, some (hasC ha)), (b2, some [.v (.int .i64 0), .str [], .v (.slice none 0 0)]), (b, some [.str s, .v (.int .i64 (j + 1 + 1 + 1 : Nat)), .v (.bool true)])] gO ⟨at8 s (j : Int), rfl, by rw [hasC_same], rfl, by omega, by omega, by omega, by omega⟩ ?_
                  rintro m xs o ⟨x, rfl, rfl, rfl, hx1, hx2, hx3, hx4⟩
                  obtain ⟨y, rfl⟩ : ∃ y : Nat, x = y := ⟨x.toNat, by omega⟩
                  (refine vK ?_; with_reducible repeat' first | exact Le.l | refine Sw ?_ ?_ | intro (K : _ → _ → Prop) hK | intro h)
                  (refine AW.i rfl (fun h => ?_) (fun h => ?_) <;> try simp only [hC, reduceCtorEq] at h)
                  · (refine vK ?_; with_reducible repeat' first | exact Le.l | refine Sw ?_ ?_ | intro (K : _ → _ → Prop) hK | intro h)
                    try exact ⟨_, [_], [(b3, some (hasC (fun c => ha c || (decide (at8 s (j : Int) ≤ (c : Int)) && decide ((c : Int) < ((y + 1 : Nat) : Int)))))), (b2, some [.v (.int .i64 0), .str [], .v (.slice none 0 0)]), (b, some [.str s, .v (.int .i64 (j + 1 + 1 + 1 : Nat)), .v (.bool true)])], by omega, ⟨((y + 1 : Nat) : Int), rfl, rfl, rfl, by omega, by omega, by omega, by omega⟩, by simp, by rw [← hasC_grow ha (by omega)]; simp (maxSteps := 2000000) (disch := omega) only [go_sem]⟩
                  · (refine vK ?_; with_reducible repeat' first | exact Le.l | refine Sw ?_ ?_ | intro (K : _ → _ → Prop) hK | intro h)
                    exact ⟨0, [_], [(b3, some (hasC (fun c => ha c || (decide (at8 s (j : Int) ≤ (c : Int)) && decide ((c : Int) < (y : Int)))))), (b2, some [.v (.int .i64 0), .str [], .v (.slice none 0 0)]), (b, some [.str s, .v (.int .i64 (j + 1 + 1 + 1 : Nat)), .v (.bool true)])], by simp, ⟨k + 1, j + 1 + 1 + 1, _, true, rfl, rfl, rfl, by omega, by omega, by omega, by simp, fun _ => hN'⟩, rfl, by simp (maxSteps := 2000000) (disch := omega) only [go_sem]⟩
                · have hS2 := clsS_some ha (clsE_two hch htil hc2 h)
                  (refine vK ?_; with_reducible repeat' first | exact Le.l | refine Sw ?_ ?_ | intro (K : _ → _ → Prop) hK | intro h)
                  refine AW.loopV [9] [0, 2, 3, 6, 7, 8] (fun m xs o => ∃ x : Int, xs = [.v (.int .i64 x)] ∧ o = [(b3, some (hasC (fun c => ha c || (decide (at8 s (j : Int) ≤ (c : Int)) && decide ((c : Int) < x))))), (b2, some [.v (.int .i64 0), .str [], .v (.slice none 0 0)]), (b, some [.str s, .v (.int .i64 (j + 1 + 1 + 1 : Nat)), .v (.bool false)])] ∧ m = (256 - x).toNat ∧ at8 s (j : Int) ≤ x ∧ x ≤ 256 ∧ (at8 s (j : Int) ≤ at8 s ((j + 1 + 1 : Nat) : Int) → x ≤ at8 s ((j + 1 + 1 : Nat) : Int) + 1) ∧ (at8 s ((j + 1 + 1 : Nat) : Int) < at8 s (j : Int) → x = at8 s (j : Int))) _ [(b3, some (hasC ha)), (b2, some [.v (.int .i64 0), .str [], .v (.slice none 0 0)]), (b, some [.str s, .v (.int .i64 (j + 1 + 1 + 1 : Nat)), .v (.bool false)])] gO ⟨at8 s (j : Int), rfl, by rw [hasC_same], rfl, by omega, by omega, by omega, by omega⟩ ?_
                  rintro m xs o ⟨x, rfl, rfl, rfl, hx1, hx2, hx3, hx4⟩
                  obtain ⟨y, rfl⟩ : ∃ y : Nat, x = y := ⟨x.toNat, by omega⟩
                  (refine vK ?_; with_reducible repeat' first | exact Le.l | refine Sw ?_ ?_ | intro (K : _ → _ → Prop) hK | intro h)
                  (refine AW.i rfl (fun h => ?_) (fun h => ?_) <;> try simp only [hC, reduceCtorEq] at h)
                  · (refine vK ?_; with_reducible repeat' first | exact Le.l | refine Sw ?_ ?_ | intro (K : _ → _ → Prop) hK | intro h)
                    try exact ⟨_, [_], [(b3, some (hasC (fun c => ha c || (decide (at8 s (j : Int) ≤ (c : Int)) && decide ((c : Int) < ((y + 1 : Nat) : Int)))))), (b2, some [.v (.int .i64 0), .str [], .v (.slice none 0 0)]), (b, some [.str s, .v (.int .i64 (j + 1 + 1 + 1 : Nat)), .v (.bool false)])], by omega, ⟨((y + 1 : Nat) : Int), rfl, rfl, rfl, by omega, by omega, by omega, by omega⟩, by simp, by rw [← hasC_grow ha (by omega)]; simp (maxSteps := 2000000) (disch := omega) only [go_sem]⟩
                  · (refine vK ?_; with_reducible repeat' first | exact Le.l | refine Sw ?_ ?_ | intro (K : _ → _ → Prop) hK | intro h)
                    exact ⟨_, [_], [(b3, some (hasC (fun c => ha c || (decide (at8 s (j : Int) ≤ (c : Int)) && decide ((c : Int) < (y : Int)))))), (b2, some [.v (.int .i64 0), .str [], .v (.slice none 0 0)]), (b, some [.str s, .v (.int .i64 (j + 1 + 1 + 1 : Nat)), .v (.bool false)])], by simp; omega, ⟨k + 1, j + 1 + 1 + 1, _, false, rfl, rfl, rfl, by omega, by omega, by omega, fun _ => ⟨by omega, by rw [if_neg (by omega), fill_done ha (a := at8 s (j : Int)) (z := at8 s ((j + 1 + 1 : Nat) : Int)) (y := (y : Int)) (by omega), ← hS2, hS]⟩, by simp⟩, rfl, by simp (maxSteps := 2000000) (disch := omega) only [go_sem]⟩
              | false =>
                have hN' : R = none := by rw [← hS, clsS_none ha (clsE_bad htil (.inl hc2))]
                (repeat' first | (with_reducible first | refine Z ?_ | refine Y ?_ | (refine hK _ _ ?_; clear hK K) | refine And.intro ?_ ?_ | exact Ct | intro (K : _ → _ → Prop) hK | (refine gI fun hg => ?_; try simp only [hC, reduceCtorEq] at hg; try simp only [hg])) | ((with_reducible refine E ?_; repeat refine Y ?_); refine eF rfl ?_) | simp (disch := omega) only [go_sem, hc2] | (with_reducible intro hg; try simp only [hC, reduceCtorEq] at hg) | exact Cl | fail)
                (refine AW.i rfl (fun h => ?_) (fun h => ?_) <;> try simp only [hC, reduceCtorEq] at h)
                · (refine vK ?_; with_reducible repeat' first | exact Le.l | refine Sw ?_ ?_ | intro (K : _ → _ → Prop) hK | intro h)
                  refine AW.loopV [9] [0, 2, 3, 6, 7, 8] (fun m xs o => ∃ x : Int, xs = [.v (.int .i64 x)] ∧ o = [(b3, some (hasC (fun c => ha c || (decide (at8 s (j : Int) ≤ (c : Int)) && decide ((c : Int) < x))))), (b2, some [.v (.int .i64 0), .str [], .v (.slice none 0 0)]), (b, some [.str s, .v (.int .i64 (j + 1 + 1 : Nat)), .v (.bool true)])] ∧ m = (256 - x).toNat ∧ at8 s (j : Int) ≤ x ∧ x ≤ 256 ∧ (at8 s (j : Int) ≤ 0 → x ≤ 0 + 1) ∧ (0 < at8 s (j : Int) → x = at8 s (j : Int))) _ [(b3, some (hasC ha)), (b2, some [.v (.int .i64 0), .str [], .v (.slice none 0 0)]), (b, some [.str s, .v (.int .i64 (j + 1 + 1 : Nat)), .v (.bool true)])] gO ⟨at8 s (j : Int), rfl, by rw [hasC_same], rfl, by omega, by omega, by omega, by omega⟩ ?_
                  rintro m xs o ⟨x, rfl, rfl, rfl, hx1, hx2, hx3, hx4⟩
                  obtain ⟨y, rfl⟩ : ∃ y : Nat, x = y := ⟨x.toNat, by omega⟩
                  (refine vK ?_; with_reducible repeat' first | exact Le.l | refine Sw ?_ ?_ | intro (K : _ → _ → Prop) hK | intro h)
                  (refine AW.i rfl (fun h => ?_) (fun h => ?_) <;> try simp only [hC, reduceCtorEq] at h)
                  · (refine vK ?_; with_reducible repeat' first | exact Le.l | refine Sw ?_ ?_ | intro (K : _ → _ → Prop) hK | intro h)
                    try exact ⟨_, [_], [(b3, some (hasC (fun c => ha c || (decide (at8 s (j : Int) ≤ (c : Int)) && decide ((c : Int) < ((y + 1 : Nat) : Int)))))), (b2, some [.v (.int .i64 0), .str [], .v (.slice none 0 0)]), (b, some [.str s, .v (.int .i64 (j + 1 + 1 : Nat)), .v (.bool true)])], by omega, ⟨((y + 1 : Nat) : Int), rfl, rfl, rfl, by omega, by omega, by omega, by omega⟩, by simp, by rw [← hasC_grow ha (by omega)]; simp (maxSteps := 2000000) (disch := omega) only [go_sem]⟩
                  · (refine vK ?_; with_reducible repeat' first | exact Le.l | refine Sw ?_ ?_ | intro (K : _ → _ → Prop) hK | intro h)
                    exact ⟨0, [_], [(b3, some (hasC (fun c => ha c || (decide (at8 s (j : Int) ≤ (c : Int)) && decide ((c : Int) < (y : Int)))))), (b2, some [.v (.int .i64 0), .str [], .v (.slice none 0 0)]), (b, some [.str s, .v (.int .i64 (j + 1 + 1 : Nat)), .v (.bool true)])], by simp, ⟨k + 1, j + 1 + 1, _, true, rfl, rfl, rfl, by omega, by omega, by omega, by simp, fun _ => hN'⟩, rfl, by simp (maxSteps := 2000000) (disch := omega) only [go_sem]⟩
                · (refine vK ?_; with_reducible repeat' first | exact Le.l | refine Sw ?_ ?_ | intro (K : _ → _ → Prop) hK | intro h)
                  refine AW.loopV [9] [0, 2, 3, 6, 7, 8] (fun m xs o => ∃ x : Int, xs = [.v (.int .i64 x)] ∧ o = [(b3, some (hasC (fun c => ha c || (decide (at8 s (j : Int) ≤ (c : Int)) && decide ((c : Int) < x))))), (b2, some [.v (.int .i64 0), .str [], .v (.slice none 0 0)]), (b, some [.str s, .v (.int .i64 (j + 1 + 1 : Nat)), .v (.bool true)])] ∧ m = (256 - x).toNat ∧ at8 s (j : Int) ≤ x ∧ x ≤ 256 ∧ (at8 s (j : Int) ≤ 0 → x ≤ 0 + 1) ∧ (0 < at8 s (j : Int) → x = at8 s (j : Int))) _ [(b3, some (hasC ha)), (b2, some [.v (.int .i64 0), .str [], .v (.slice none 0 0)]), (b, some [.str s, .v (.int .i64 (j + 1 + 1 : Nat)), .v (.bool true)])] gO ⟨at8 s (j : Int), rfl, by rw [hasC_same], rfl, by omega, by omega, by omega, by omega⟩ ?_
                  rintro m xs o ⟨x, rfl, rfl, rfl, hx1, hx2, hx3, hx4⟩
                  obtain ⟨y, rfl⟩ : ∃ y : Nat, x = y := ⟨x.toNat, by omega⟩
                  (refine vK ?_; with_reducible repeat' first | exact Le.l | refine Sw ?_ ?_ | intro (K : _ → _ → Prop) hK | intro h)
                  (refine AW.i rfl (fun h => ?_) (fun h => ?_) <;> try simp only [hC, reduceCtorEq] at h)
                  · (refine vK ?_; with_reducible repeat' first | exact Le.l | refine Sw ?_ ?_ | intro (K : _ → _ → Prop) hK | intro h)
                    try exact ⟨_, [_], [(b3, some (hasC (fun c => ha c || (decide (at8 s (j : Int) ≤ (c : Int)) && decide ((c : Int) < ((y + 1 : Nat) : Int)))))), (b2, some [.v (.int .i64 0), .str [], .v (.slice none 0 0)]), (b, some [.str s, .v (.int .i64 (j + 1 + 1 : Nat)), .v (.bool true)])], by omega, ⟨((y + 1 : Nat) : Int), rfl, rfl, rfl, by omega, by omega, by omega, by omega⟩, by simp, by rw [← hasC_grow ha (by omega)]; simp (maxSteps := 2000000) (disch := omega) only [go_sem]⟩
                  · (refine vK ?_; with_reducible repeat' first | exact Le.l | refine Sw ?_ ?_ | intro (K : _ → _ → Prop) hK | intro h)
                    exact ⟨0, [_], [(b3, some (hasC (fun c => ha c || (decide (at8 s (j : Int) ≤ (c : Int)) && decide ((c : Int) < (y : Int)))))), (b2, some [.v (.int .i64 0), .str [], .v (.slice none 0 0)]), (b, some [.str s, .v (.int .i64 (j + 1 + 1 : Nat)), .v (.bool true)])], by simp, ⟨k + 1, j + 1 + 1, _, true, rfl, rfl, rfl, by omega, by omega, by omega, by simp, fun _ => hN'⟩, rfl, by simp (maxSteps := 2000000) (disch := omega) only [go_sem]⟩
            · simp only [h, cond_false]
              have hS2 := clsS_some ha (clsE_one hch h)
              (refine vK ?_; with_reducible repeat' first | exact Le.l | refine Sw ?_ ?_ | intro (K : _ → _ → Prop) hK | intro h)
              (refine AW.i rfl (fun h => ?_) (fun h => ?_) <;> try simp only [hC, reduceCtorEq] at h)
              · omega
              · (refine vK ?_; with_reducible repeat' first | exact Le.l | refine Sw ?_ ?_ | intro (K : _ → _ → Prop) hK | intro h)
                refine AW.loopV [9] [0, 2, 3, 6, 7, 8] (fun m xs o => ∃ x : Int, xs = [.v (.int .i64 x)] ∧ o = [(b3, some (hasC (fun c => ha c || (decide (at8 s (j : Int) ≤ (c : Int)) && decide ((c : Int) < x))))), (b2, some [.v (.int .i64 0), .str [], .v (.slice none 0 0)]), (b, some [.str s, .v (.int .i64 (j + 1 : Nat)), .v (.bool false)])] ∧ m = (256 - x).toNat ∧ at8 s (j : Int) ≤ x ∧ x ≤ 256 ∧ (at8 s (j : Int) ≤ at8 s (j : Int) → x ≤ at8 s (j : Int) + 1) ∧ (at8 s (j : Int) < at8 s (j : Int) → x = at8 s (j : Int))) _ [(b3, some (hasC ha)), (b2, some [.v (.int .i64 0), .str [], .v (.slice none 0 0)]), (b, some [.str s, .v (.int .i64 (j + 1 : Nat)), .v (.bool false)])] gO ⟨at8 s (j : Int), rfl, by rw [hasC_same], rfl, by omega, by omega, by omega, by omega⟩ ?_
                rintro m xs o ⟨x, rfl, rfl, rfl, hx1, hx2, hx3, hx4⟩
                obtain ⟨y, rfl⟩ : ∃ y : Nat, x = y := ⟨x.toNat, by omega⟩
                (refine vK ?_; with_reducible repeat' first | exact Le.l | refine Sw ?_ ?_ | intro (K : _ → _ → Prop) hK | intro h)
                (refine AW.i rfl (fun h => ?_) (fun h => ?_) <;> try simp only [hC, reduceCtorEq] at h)
                · (refine vK ?_; with_reducible repeat' first | exact Le.l | refine Sw ?_ ?_ | intro (K : _ → _ → Prop) hK | intro h)
                  try exact ⟨_, [_], [(b3, some (hasC (fun c => ha c || (decide (at8 s (j : Int) ≤ (c : Int)) && decide ((c : Int) < ((y + 1 : Nat) : Int)))))), (b2, some [.v (.int .i64 0), .str [], .v (.slice none 0 0)]), (b, some [.str s, .v (.int .i64 (j + 1 : Nat)), .v (.bool false)])], by omega, ⟨((y + 1 : Nat) : Int), rfl, rfl, rfl, by omega, by omega, by omega, by omega⟩, by simp, by rw [← hasC_grow ha (by omega)]; simp (maxSteps := 2000000) (disch := omega) only [go_sem]⟩
                · (refine vK ?_; with_reducible repeat' first | exact Le.l | refine Sw ?_ ?_ | intro (K : _ → _ → Prop) hK | intro h)
                  exact ⟨_, [_], [(b3, some (hasC (fun c => ha c || (decide (at8 s (j : Int) ≤ (c : Int)) && decide ((c : Int) < (y : Int)))))), (b2, some [.v (.int .i64 0), .str [], .v (.slice none 0 0)]), (b, some [.str s, .v (.int .i64 (j + 1 : Nat)), .v (.bool false)])], by simp; omega, ⟨k + 1, j + 1, _, false, rfl, rfl, rfl, by omega, by omega, by omega, fun _ => ⟨by omega, by rw [if_neg (by omega), fill_done ha (a := at8 s (j : Int)) (z := at8 s (j : Int)) (y := (y : Int)) (by omega), ← hS2, hS]⟩, by simp⟩, rfl, by simp (maxSteps := 2000000) (disch := omega) only [go_sem]⟩
        · simp only [h, cond_true]
          have hl2 := isAt_iff.1 h
          (refine vK ?_; with_reducible repeat' first | exact Le.l | refine Sw ?_ ?_ | intro (K : _ → _ → Prop) hK | intro h)
          (refine AW.ret (EndsG.imp (Imp.frzO (b := b2) (by simp (maxSteps := 2000000) (disch := omega) only [go_sem]; rfl) ?_)); simp (maxSteps := 2000000) (disch := omega) only [go_sem]; refine EndsG.finQ rfl (RdQ.yes (p := .mk 1 (clsT ha) []) (j := j + 1) (by rw [hels, hcls, ← hS, clsL_end ha h]; rfl) (by omega)) ?_; simp (maxSteps := 2000000) (disch := omega) only [go_sem])
  · simp only [h, cond_false]
    have hnc := h
    cases hch : chAt s i with
    | true =>
      (repeat' first | (with_reducible first | refine Z ?_ | refine Y ?_ | (refine hK _ _ ?_; clear hK K) | refine And.intro ?_ ?_ | exact Ct | intro (K : _ → _ → Prop) hK | (refine gI fun hg => ?_; try simp only [hC, reduceCtorEq] at hg; try simp only [hg])) | ((with_reducible refine E ?_; repeat refine Y ?_); refine eF rfl ?_) | simp (disch := omega) only [go_sem, hch] | (with_reducible intro hg; try simp only [hC, reduceCtorEq] at hg) | exact Cl | fail)
      (refine AW.i rfl (fun h => ?_) (fun h => ?_) <;> try simp only [hC, reduceCtorEq] at h)
      · (refine vK ?_; with_reducible repeat' first | exact Le.l | refine Sw ?_ ?_ | intro (K : _ → _ → Prop) hK | intro h)
        (refine AW.ret (EndsG.imp (Imp.nilO (b := b2) 3 [.v (.int .i64 1), .str [UInt8.ofNat (at8 s i).toNat]] [] (by simp (maxSteps := 2000000) (disch := omega) only [go_sem]) ?_)); simp (maxSteps := 2000000) (disch := omega) only [go_sem]; refine EndsG.finQ rfl (RdQ.no (.mk 1 [UInt8.ofNat (at8 s i).toNat] []) (j := i + 1) (by rw [hels, atomS_no hnd hnc hp.1]; intro _; rcases h with h | h; exact h; rw [isAt_yes ⟨hp.1, h⟩] at hnd; cases hnd) (by omega)) ?_; simp (maxSteps := 2000000) (disch := omega) only [go_sem])
      · (refine vK ?_; with_reducible repeat' first | exact Le.l | refine Sw ?_ ?_ | intro (K : _ → _ → Prop) hK | intro h)
        (refine AW.ret (EndsG.imp (Imp.nilO (b := b2) 3 [.v (.int .i64 1), .str [UInt8.ofNat (at8 s i).toNat]] [] (by simp (maxSteps := 2000000) (disch := omega) only [go_sem]) ?_)); simp (maxSteps := 2000000) (disch := omega) only [go_sem]; refine EndsG.finQ rfl (RdQ.yes (p := .mk 1 [UInt8.ofNat (at8 s i).toNat] []) (j := i + 1) (by rw [hels, atomS_chr hnd hnc hp.1 hch h.1, take_drop1 hp.1, patC]) (by omega)) ?_; simp (maxSteps := 2000000) (disch := omega) only [go_sem])
    | false =>
      (repeat' first | (with_reducible first | refine Z ?_ | refine Y ?_ | (refine hK _ _ ?_; clear hK K) | refine And.intro ?_ ?_ | exact Ct | intro (K : _ → _ → Prop) hK | (refine gI fun hg => ?_; try simp only [hC, reduceCtorEq] at hg; try simp only [hg])) | ((with_reducible refine E ?_; repeat refine Y ?_); refine eF rfl ?_) | simp (disch := omega) only [go_sem, hch] | (with_reducible intro hg; try simp only [hC, reduceCtorEq] at hg) | exact Cl | fail)
      (refine AW.i rfl (fun h => ?_) (fun h => ?_) <;> try simp only [hC, reduceCtorEq] at h)
      all_goals (refine vK ?_; with_reducible repeat' first | exact Le.l | refine Sw ?_ ?_ | intro (K : _ → _ → Prop) hK | intro h)
      (refine AW.ret (EndsG.imp (Imp.nilO (b := b2) 3 [.v (.int .i64 1), .str [UInt8.ofNat 0]] [] (by simp (maxSteps := 2000000) (disch := omega) only [go_sem]) ?_)); simp (maxSteps := 2000000) (disch := omega) only [go_sem]; refine EndsG.finQ rfl (RdQ.no (.mk 1 [UInt8.ofNat 0] []) (j := i) (by rw [hels, atomS_no hnd hnc hp.1]; intro e; rw [hch] at e; cases e) (by omega)) ?_; simp (maxSteps := 2000000) (disch := omega) only [go_sem])
end Go.Proofs.YtfglembdjbhanaaGreatDoor
namespace Go.Dt
open Go.Ab
def pat0 : GPat := .mk 0 [] []
def parsePat (s : Str) : GPat × Bool :=
  if s.length ≤ 30 then match pAlt s 0 with
    | some (p, j) => if j = s.length then (p, true) else (pat0, false)
    | none => (pat0, false)
  else (pat0, false)
theorem parsePat_isPat (s : Str) : (parsePat s).2 = isPat s := by
  unfold parsePat isPat
  by_cases h : s.length ≤ 30
  · simp only [h, if_true, decide_true, Bool.true_and]
    cases e : pAlt s 0 with
    | none => rfl
    | some r =>
      obtain ⟨p, j⟩ := r
      by_cases h2 : j = s.length
      · simp [h2]
      · simp [h2]
  · simp [h]
theorem parse_long {s : Str} (h : 30 < s.length) : parsePat s = (pat0, false) := by rw [parsePat, if_neg (by omega)]
theorem parse_none {s : Str} (h : pAlt s 0 = none) : parsePat s = (pat0, false) := by rw [parsePat, h]; simp
theorem parse_part {s : Str} {p : GPat} {j : Nat} (h : pAlt s 0 = some (p, j)) (h2 : ¬ j = s.length) : parsePat s = (pat0, false) := by rw [parsePat, h]; simp [h2]
theorem parse_yes {s : Str} {p : GPat} {j : Nat} (h0 : s.length ≤ 30) (h : pAlt s 0 = some (p, j)) (h2 : j = s.length) : parsePat s = (p, true) := by rw [parsePat, h]; simp [h2, h0]
end Go.Dt
namespace Go.Proofs.YtfglembdjbhanaaGreatDoor
open Go.Ab Go.Dt
set_option maxRecDepth 20000
set_option maxHeartbeats 4000000

theorem alt_all : ∀ (n : Nat) (b : Nat) (s : Str) (i : Nat), GCtr lim Tryz.prog 122 [(b, some [.str s, .v (.int .i64 i), .v (.bool false)])] [.ptr b 0] (RdQ b s i (pAlt s i)) (i ≤ s.length ∧ s.length ≤ 30 ∧ s.length - i < n)
  | 0, _, _, _ => ⟨en122, fun h => absurd h.2.2 (Nat.not_lt_zero _)⟩
  | n + 1, b, s, i => alt_n (n + 1) (seq_n (n + 1) (item_n (n + 1) (atom_n n (alt_all n)))) b s i
instance alt_i (b : Nat) (s : Str) : GCtr lim Tryz.prog 122 [(b, some [.str s, .v (.int .i64 0), .v (.bool false)])] [.ptr b 0] (RdQ b s 0 (pAlt s 0)) (s.length ≤ 30) := ⟨en122, fun h => (alt_all 31 b s 0).out ⟨by omega, h, by omega⟩⟩

instance iParsePattern_i (s : Str) : Ctr lim Tryz.prog 111 [] [.str s] (.tup [.agg [.v (.int .i64 (parsePat s).1.fOp), .str (parsePat s).1.fText, .sl false 3 ((parsePat s).1.fKids.map encPat)], .v (.bool (parsePat s).2)]) [] True := by
  refine Ctr.of_body en111 Tryz.func111 rfl rfl fun hp => (?_); rw [Tryz.ntmps111]
  refine AW.fact 0 fun hf => ?_
  simp (disch := omega) only [go_sem, Nat.reduceBEq] at hf
  (refine vK ?_; with_reducible repeat' first | exact Le.l | refine Sw ?_ ?_ | intro (K : _ → _ → Prop) hK | intro h)
  (refine AW.i rfl (fun h => ?_) (fun h => ?_) <;> try simp only [hC, reduceCtorEq] at h)
  · have e := parse_long (s := s) (by omega)
    (refine vX ?_; with_reducible repeat' first | exact Le.l | refine Sw ?_ ?_ | intro (K : _ → _ → Prop) hK | intro h)
    rename_i b2
    (refine AW.ret (EndsG.imp (Imp.nilO (b := b2) 3 [.v (.int .i64 0), .str []] [] (by simp (maxSteps := 2000000) (disch := omega) only [go_sem]) ?_)); simp (maxSteps := 2000000) (disch := omega) only [go_sem]; refine EndsG.fin rfl ?_; simp (maxSteps := 2000000) (disch := omega) only [go_sem, e, pat0, fOp_mk, fText_mk, fKids_mk])
  · (refine vK ?_; with_reducible repeat' first | exact Le.l | refine Sw ?_ ?_ | intro (K : _ → _ → Prop) hK | intro h)
    rename_i b2 h2 b3
    refine GK.rd (fun p j hq hj => ?_) (fun p j hq hj => ?_)
    · (refine vK ?_; with_reducible repeat' first | exact Le.l | refine Sw ?_ ?_ | intro (K : _ → _ → Prop) hK | intro h)
      (refine AW.i rfl (fun h => ?_) (fun h => ?_) <;> try simp only [hC, reduceCtorEq] at h)
      · have e := parse_part hq (by omega)
        (refine vX ?_; with_reducible repeat' first | exact Le.l | refine Sw ?_ ?_ | intro (K : _ → _ → Prop) hK | intro h)
        (refine AW.ret (EndsG.imp (Imp.nilO (b := b2) 3 [.v (.int .i64 0), .str []] [] (by simp (maxSteps := 2000000) (disch := omega) only [go_sem]) ?_)); simp (maxSteps := 2000000) (disch := omega) only [go_sem]; refine EndsG.fin rfl ?_; simp (maxSteps := 2000000) (disch := omega) only [go_sem, e, pat0, fOp_mk, fText_mk, fKids_mk])
      · have e := parse_yes (by omega) hq (by omega)
        (repeat' first | (with_reducible first | refine Z ?_ | refine Y ?_ | (refine hK _ _ ?_; clear hK K) | refine And.intro ?_ ?_ | exact Ct | intro (K : _ → _ → Prop) hK | (refine gI fun hg => ?_; try simp only [hC, reduceCtorEq] at hg; try simp only [hg])) | (refine AW.i rfl (fun h => ?_) (fun h => ?_) <;> try simp only [hC, reduceCtorEq] at h) | ((with_reducible refine E ?_; repeat refine Y ?_); refine eF rfl ?_) | simp (disch := omega) only [go_sem, e] | (with_reducible intro hg; try simp only [hC, reduceCtorEq] at hg) | exact Cl | fail)
    · have e := parse_none hq
      (refine vK ?_; with_reducible repeat' first | exact Le.l | refine Sw ?_ ?_ | intro (K : _ → _ → Prop) hK | intro h)
      (refine AW.i rfl (fun h => ?_) (fun h => ?_) <;> try simp only [hC, reduceCtorEq] at h)
      (refine vX ?_; with_reducible repeat' first | exact Le.l | refine Sw ?_ ?_ | intro (K : _ → _ → Prop) hK | intro h)
      (refine AW.ret (EndsG.imp (Imp.nilO (b := b2) 3 [.v (.int .i64 0), .str []] [] (by simp (maxSteps := 2000000) (disch := omega) only [go_sem]) ?_)); simp (maxSteps := 2000000) (disch := omega) only [go_sem]; refine EndsG.fin rfl ?_; simp (maxSteps := 2000000) (disch := omega) only [go_sem, e, pat0, fOp_mk, fText_mk, fKids_mk])
instance iIsPattern_i (s : Str) : Ctr lim Tryz.prog 105 [] [.str s] (.v (.bool (isPat s))) [] True := by
  refine Ctr.of_body en105 Tryz.func105 rfl rfl fun hp => (?_); rw [Tryz.ntmps105]
  have e := parsePat_isPat s
  (repeat' first | (with_reducible first | refine Z ?_ | refine Y ?_ | (refine hK _ _ ?_; clear hK K) | refine And.intro ?_ ?_ | exact Ct | intro (K : _ → _ → Prop) hK | (refine gI fun hg => ?_; try simp only [hC, reduceCtorEq] at hg; try simp only [hg])) | (refine AW.i rfl (fun h => ?_) (fun h => ?_) <;> try simp only [hC, reduceCtorEq] at h) | ((with_reducible refine E ?_; repeat refine Y ?_); refine eF rfl ?_) | simp (disch := omega) only [go_sem, e] | (with_reducible intro hg; try simp only [hC, reduceCtorEq] at hg) | exact Cl | fail)
end Go.Proofs.YtfglembdjbhanaaGreatDoor
