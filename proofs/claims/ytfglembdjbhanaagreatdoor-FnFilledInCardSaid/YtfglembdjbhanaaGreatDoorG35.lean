/-
  Part of a proof: Pq0, Pt4, Pt5.
-/
import Derived.Test.YtfglembdjbhanaaGreatDoorG5
import Derived.Test.YtfglembdjbhanaaGreatDoorG20
import Derived.Test.YtfglembdjbhanaaGreatDoorG33
import Derived.Test.YtfglembdjbhanaaGreatDoorG34
set_option linter.unusedSimpArgs false
set_option linter.unusedVariables false
namespace Go.Dt
open Go.Ab
@[go_sem] theorem fOp_mk (a : Int) (b : Str) (c : List GPat) : (GPat.mk a b c).fOp = a := rfl
@[go_sem] theorem fText_mk (a : Int) (b : Str) (c : List GPat) : (GPat.mk a b c).fText = b := rfl
@[go_sem] theorem fKids_mk (a : Int) (b : Str) (c : List GPat) : (GPat.mk a b c).fKids = c := rfl
def rdC (s : Str) (i : Nat) (bad : Bool) : List AV := [.str s, .v (.int .i64 i), .v (.bool bad)]
def RdQ (b : Nat) (s : Str) (i : Nat) (r : Option (GPat × Nat)) (res : AV) (os : Sto) : Prop :=
  ∃ p j bad, (bad = false ∧ r = some (p, j) ∨ bad = true ∧ r = none) ∧ (i ≤ j ∧ j ≤ s.length) ∧ res = encPat p ∧ os = [(b, some (rdC s j bad))]
theorem RdQ.yes {b : Nat} {s : Str} {i : Nat} {r : Option (GPat × Nat)} {p : GPat} {j : Nat} (h : r = some (p, j)) (hj : i ≤ j ∧ j ≤ s.length) : RdQ b s i r (encPat p) [(b, some (rdC s j false))] := ⟨p, j, false, .inl ⟨rfl, h⟩, hj, rfl, rfl⟩
theorem RdQ.no {b : Nat} {s : Str} {i : Nat} {r : Option (GPat × Nat)} (p : GPat) {j : Nat} (h : r = none) (hj : i ≤ j ∧ j ≤ s.length) : RdQ b s i r (encPat p) [(b, some (rdC s j true))] := ⟨p, j, true, .inr ⟨rfl, h⟩, hj, rfl, rfl⟩
theorem GK.rdB {os : Sto} {b : Nat} {c : Option (List AV)} {s : Str} {i : Nat} {r : Option (GPat × Nat)} {K : AV → Sto → Prop} (h : ∀ p j bad, (bad = false ∧ r = some (p, j) ∨ bad = true ∧ r = none) → i ≤ j ∧ j ≤ s.length → K (encPat p) (mergeO os [(b, some (rdC s j bad))])) : GK os [(b, c)] (RdQ b s i r) (K := ⟨K⟩) := by
  refine GK.intro ?_
  rintro res os' ⟨p, j, bad, hr, hj, rfl, rfl⟩
  exact ⟨rfl, h p j bad hr hj⟩
theorem GK.rd {os : Sto} {b : Nat} {c : Option (List AV)} {s : Str} {i : Nat} {r : Option (GPat × Nat)} {K : AV → Sto → Prop} (h1 : ∀ p j, r = some (p, j) → i ≤ j ∧ j ≤ s.length → K (encPat p) (mergeO os [(b, some (rdC s j false))])) (h2 : ∀ p j, r = none → i ≤ j ∧ j ≤ s.length → K (encPat p) (mergeO os [(b, some (rdC s j true))])) : GK os [(b, c)] (RdQ b s i r) (K := ⟨K⟩) := by
  refine GK.rdB ?_
  rintro p j bad (⟨rfl, h⟩ | ⟨rfl, h⟩) hj
  · exact h1 p j h hj
  · exact h2 p j h hj
theorem EndsG.finQ {L : Nat → Nat} {P : Program} {n : Nat} {fn : Func} {t : List (Nat × AV)} {o o' : Sto} {rs : List ResultVar} {res : AV} {Q : AV → Sto → Prop} (hr : fn.results = rs.toArray) (hQ : Q res o') (h : resW P n rs t o [] (fun xs os => oneA xs = res ∧ subO o' os)) : EndsG L P fn ⟨n, t, o⟩ Q := by
  have := EndsG.fin (L := L) hr h
  intro B F0 w0 a w hd
  obtain ⟨v, res', os', F', own', fs', fp, h3, ⟨rfl, rfl⟩, h5⟩ := this B F0 w0 a w hd
  exact ⟨v, res', os', F', own', fs', fp, h3, hQ, h5⟩
attribute [go_sem] rdC Int.toNat_zero
end Go.Dt
namespace Go.Proofs.YtfglembdjbhanaaGreatDoor
open Go.Ab Go.Dt
set_option maxRecDepth 20000
set_option maxHeartbeats 4000000

theorem item_n (n : Nat) (hatom : ∀ (b : Nat) (s : Str) (i : Nat), GCtr lim Tryz.prog 157 [(b, some [.str s, .v (.int .i64 i), .v (.bool false)])] [.ptr b 0] (RdQ b s i (pAtom s i)) (i < s.length ∧ s.length ≤ 30 ∧ s.length - i < n)) (b : Nat) (s : Str) (i : Nat) :
    GCtr lim Tryz.prog 148 [(b, some [.str s, .v (.int .i64 i), .v (.bool false)])] [.ptr b 0] (RdQ b s i (pItem s i)) (i < s.length ∧ s.length ≤ 30 ∧ s.length - i < n) := by
  refine GCtr.of_body en148 Tryz.func148 rfl rfl fun hp => (?_); rw [Tryz.ntmps148]
  (refine vK ?_; with_reducible repeat' first | exact Le.l | refine Sw ?_ ?_ | intro (K : _ → _ → Prop) hK | intro h)
  rename_i b2
  have hpi0 : ∀ p j, pAtom s i = some (p, j) → pItem s i = some (post s p j) := fun p j h => by rw [pItem, h]
  refine GK.rd (fun p j hq hj => ?_) (fun p j hq hj => ?_)
  · have hb := pAtom_bd hq
    have hpi := hpi0 p j hq
    (refine vK ?_; with_reducible repeat' first | exact Le.l | refine Sw ?_ ?_ | intro (K : _ → _ → Prop) hK | intro h)
    rename_i b3
    (refine AW.i rfl (fun h => ?_) (fun h => ?_) <;> try simp only [hC, reduceCtorEq] at h)
    · simp only [h, cond_true]
      have hlt := isAt_iff.1 h
      (refine vK ?_; with_reducible repeat' first | exact Le.l | refine Sw ?_ ?_ | intro (K : _ → _ → Prop) hK | intro h)
      (refine AW.ret (EndsG.imp (Imp.frzO (b := b2) (by simp (maxSteps := 2000000) (disch := omega) only [go_sem]; rfl) ?_)); simp (maxSteps := 2000000) (disch := omega) only [go_sem]; refine EndsG.finQ rfl (RdQ.yes (p := .mk 4 [] [p]) (j := j + 1) (by rw [hpi, post]; simp [*]) (by omega)) ?_; simp (maxSteps := 2000000) (disch := omega) only [go_sem])
    · simp only [h, cond_false]
      (refine vK ?_; with_reducible repeat' first | exact Le.l | refine Sw ?_ ?_ | intro (K : _ → _ → Prop) hK | intro h)
      (refine AW.i rfl (fun h => ?_) (fun h => ?_) <;> try simp only [hC, reduceCtorEq] at h)
      · simp only [h, cond_true]
        have hlt := isAt_iff.1 h
        (refine vK ?_; with_reducible repeat' first | exact Le.l | refine Sw ?_ ?_ | intro (K : _ → _ → Prop) hK | intro h)
        (refine AW.ret (EndsG.imp (Imp.frzO (b := b2) (by simp (maxSteps := 2000000) (disch := omega) only [go_sem]; rfl) ?_)); simp (maxSteps := 2000000) (disch := omega) only [go_sem]; refine EndsG.finQ rfl (RdQ.yes (p := .mk 2 [] [p, .mk 4 [] [p]]) (j := j + 1) (by rw [hpi, post]; simp [*]) (by omega)) ?_; simp (maxSteps := 2000000) (disch := omega) only [go_sem])
      · simp only [h, cond_false]
        (refine vK ?_; with_reducible repeat' first | exact Le.l | refine Sw ?_ ?_ | intro (K : _ → _ → Prop) hK | intro h)
        (refine AW.i rfl (fun h => ?_) (fun h => ?_) <;> try simp only [hC, reduceCtorEq] at h)
        · simp only [h, cond_true]
          have hlt := isAt_iff.1 h
          (refine vK ?_; with_reducible repeat' first | exact Le.l | refine Sw ?_ ?_ | intro (K : _ → _ → Prop) hK | intro h)
          (refine AW.ret (EndsG.imp (Imp.frzO (b := b2) (by simp (maxSteps := 2000000) (disch := omega) only [go_sem]; rfl) ?_)); simp (maxSteps := 2000000) (disch := omega) only [go_sem]; refine EndsG.finQ rfl (RdQ.yes (p := .mk 5 [] [p]) (j := j + 1) (by rw [hpi, post]; simp [*]) (by omega)) ?_; simp (maxSteps := 2000000) (disch := omega) only [go_sem])
        · simp only [h, cond_false]
          (refine vK ?_; with_reducible repeat' first | exact Le.l | refine Sw ?_ ?_ | intro (K : _ → _ → Prop) hK | intro h)
          (refine AW.ret (EndsG.imp (Imp.frzO (b := b2) (by simp (maxSteps := 2000000) (disch := omega) only [go_sem]; rfl) ?_)); simp (maxSteps := 2000000) (disch := omega) only [go_sem]; refine EndsG.finQ rfl (RdQ.yes (p := p) (j := j) (by rw [hpi, post]; simp [*]) (by omega)) ?_; simp (maxSteps := 2000000) (disch := omega) only [go_sem])
  · have hpi : pItem s i = none := by rw [pItem, hq]
    (refine vK ?_; with_reducible repeat' first | exact Le.l | refine Sw ?_ ?_ | intro (K : _ → _ → Prop) hK | intro h)
    rename_i b3
    (refine AW.i rfl (fun h => ?_) (fun h => ?_) <;> try simp only [hC, reduceCtorEq] at h)
    · simp only [h, cond_true]
      have hlt := isAt_iff.1 h
      (refine vK ?_; with_reducible repeat' first | exact Le.l | refine Sw ?_ ?_ | intro (K : _ → _ → Prop) hK | intro h)
      (refine AW.ret (EndsG.imp (Imp.frzO (b := b2) (by simp (maxSteps := 2000000) (disch := omega) only [go_sem]; rfl) ?_)); simp (maxSteps := 2000000) (disch := omega) only [go_sem]; refine EndsG.finQ rfl (RdQ.no (.mk 4 [] [p]) (j := j + 1) hpi (by omega)) ?_; simp (maxSteps := 2000000) (disch := omega) only [go_sem])
    · simp only [h, cond_false]
      (refine vK ?_; with_reducible repeat' first | exact Le.l | refine Sw ?_ ?_ | intro (K : _ → _ → Prop) hK | intro h)
      (refine AW.i rfl (fun h => ?_) (fun h => ?_) <;> try simp only [hC, reduceCtorEq] at h)
      · simp only [h, cond_true]
        have hlt := isAt_iff.1 h
        (refine vK ?_; with_reducible repeat' first | exact Le.l | refine Sw ?_ ?_ | intro (K : _ → _ → Prop) hK | intro h)
        (refine AW.ret (EndsG.imp (Imp.frzO (b := b2) (by simp (maxSteps := 2000000) (disch := omega) only [go_sem]; rfl) ?_)); simp (maxSteps := 2000000) (disch := omega) only [go_sem]; refine EndsG.finQ rfl (RdQ.no (.mk 2 [] [p, .mk 4 [] [p]]) (j := j + 1) hpi (by omega)) ?_; simp (maxSteps := 2000000) (disch := omega) only [go_sem])
      · simp only [h, cond_false]
        (refine vK ?_; with_reducible repeat' first | exact Le.l | refine Sw ?_ ?_ | intro (K : _ → _ → Prop) hK | intro h)
        (refine AW.i rfl (fun h => ?_) (fun h => ?_) <;> try simp only [hC, reduceCtorEq] at h)
        · simp only [h, cond_true]
          have hlt := isAt_iff.1 h
          (refine vK ?_; with_reducible repeat' first | exact Le.l | refine Sw ?_ ?_ | intro (K : _ → _ → Prop) hK | intro h)
          (refine AW.ret (EndsG.imp (Imp.frzO (b := b2) (by simp (maxSteps := 2000000) (disch := omega) only [go_sem]; rfl) ?_)); simp (maxSteps := 2000000) (disch := omega) only [go_sem]; refine EndsG.finQ rfl (RdQ.no (.mk 5 [] [p]) (j := j + 1) hpi (by omega)) ?_; simp (maxSteps := 2000000) (disch := omega) only [go_sem])
        · simp only [h, cond_false]
          (refine vK ?_; with_reducible repeat' first | exact Le.l | refine Sw ?_ ?_ | intro (K : _ → _ → Prop) hK | intro h)
          (refine AW.ret (EndsG.imp (Imp.frzO (b := b2) (by simp (maxSteps := 2000000) (disch := omega) only [go_sem]; rfl) ?_)); simp (maxSteps := 2000000) (disch := omega) only [go_sem]; refine EndsG.finQ rfl (RdQ.no p (j := j) hpi (by omega)) ?_; simp (maxSteps := 2000000) (disch := omega) only [go_sem])
end Go.Proofs.YtfglembdjbhanaaGreatDoor
namespace Go.Proofs.YtfglembdjbhanaaGreatDoor
open Go.Ab Go.Dt
set_option maxRecDepth 20000
set_option maxHeartbeats 4000000

theorem seq_n (n : Nat) (hitem : ∀ (b : Nat) (s : Str) (i : Nat), GCtr lim Tryz.prog 148 [(b, some [.str s, .v (.int .i64 i), .v (.bool false)])] [.ptr b 0] (RdQ b s i (pItem s i)) (i < s.length ∧ s.length ≤ 30 ∧ s.length - i < n)) (b : Nat) (s : Str) (i : Nat) :
    GCtr lim Tryz.prog 136 [(b, some [.str s, .v (.int .i64 i), .v (.bool false)])] [.ptr b 0] (RdQ b s i (pSeq s i [])) (i ≤ s.length ∧ s.length ≤ 30 ∧ s.length - i < n) := by
  refine GCtr.of_body en136 Tryz.func136 rfl rfl fun hp => (?_); rw [Tryz.ntmps136]
  (refine vK ?_; with_reducible repeat' first | exact Le.l | refine Sw ?_ ?_ | intro (K : _ → _ → Prop) hK | intro h)
  rename_i b2
  refine AW.loopV [3] [0, 2] (fun m xs o => ∃ (l : List GPat) (j : Nat) (bad : Bool), xs = [.sl true 3 (l.map encPat)] ∧ o = [(b2, some [.v (.int .i64 0), .str [], .v (.slice none 0 0)]), (b, some [.str s, .v (.int .i64 j), .v (.bool bad)])] ∧ m = (if bad then 0 else s.length - j + 1) ∧ j ≤ s.length ∧ l.length ≤ 31 ∧ i ≤ j ∧ (bad = false → i ≤ j ∧ l.length ≤ j ∧ pSeq s j l = pSeq s i []) ∧ (bad = true → pSeq s i [] = none)) _ [(b2, some [.v (.int .i64 0), .str [], .v (.slice none 0 0)]), (b, some [.str s, .v (.int .i64 i), .v (.bool false)])] (subO_two (Ne.symm h) rfl rfl) ⟨[], i, false, ?_, rfl, rfl, ?_, ?_, ?_, ?_, ?_⟩ ?_
  · rfl
  · omega
  · simp
  · omega
  · simp
  · simp
  rintro m xs o ⟨l, j, bad, rfl, rfl, rfl, hj, hl0, hij, hR, hN⟩
  cases bad with
  | true =>
    have hN := hN rfl
    (refine vK ?_; with_reducible repeat' first | exact Le.l | refine Sw ?_ ?_ | intro (K : _ → _ → Prop) hK | intro h)
    (refine AW.i rfl (fun h => ?_) (fun h => ?_) <;> try simp only [hC, reduceCtorEq] at h)
    refine AW.imp (Imp.frz 3 ?_)
    simp (maxSteps := 2000000) (disch := omega) only [go_sem]
    (refine vK ?_; with_reducible repeat' first | exact Le.l | refine Sw ?_ ?_ | intro (K : _ → _ → Prop) hK | intro h)
    (refine AW.i rfl (fun h => ?_) (fun h => ?_) <;> try simp only [hC, reduceCtorEq] at h)
    · (refine vK ?_; with_reducible repeat' first | exact Le.l | refine Sw ?_ ?_ | intro (K : _ → _ → Prop) hK | intro h)
      (refine AW.ret (EndsG.imp (Imp.frzO (b := b2) (by simp (maxSteps := 2000000) (disch := omega) only [go_sem]; rfl) ?_)); simp (maxSteps := 2000000) (disch := omega) only [go_sem]; refine EndsG.finQ rfl (RdQ.no (at_ l 0) (j := j) hN (by omega)) ?_; simp (maxSteps := 2000000) (disch := omega) only [go_sem])
    · (refine vK ?_; with_reducible repeat' first | exact Le.l | refine Sw ?_ ?_ | intro (K : _ → _ → Prop) hK | intro h)
      (refine AW.ret (EndsG.imp (Imp.frzO (b := b2) (by simp (maxSteps := 2000000) (disch := omega) only [go_sem]; rfl) ?_)); simp (maxSteps := 2000000) (disch := omega) only [go_sem]; refine EndsG.finQ rfl (RdQ.no (.mk 2 [] l) (j := j) hN (by omega)) ?_; simp (maxSteps := 2000000) (disch := omega) only [go_sem])
  | false =>
    have hR := hR rfl
    (refine vK ?_; with_reducible repeat' first | exact Le.l | refine Sw ?_ ?_ | intro (K : _ → _ → Prop) hK | intro h)
    (refine AW.i rfl (fun h => ?_) (fun h => ?_) <;> try simp only [hC, reduceCtorEq] at h)
    · rename_i hc
      (refine vK ?_; with_reducible repeat' first | exact Le.l | refine Sw ?_ ?_ | intro (K : _ → _ → Prop) hK | intro h)
      refine GK.rd (fun p k hq hk => ?_) (fun p k hq hk => ?_)
      · have hb := pItem_bd hq
        (refine vK ?_; with_reducible repeat' first | exact Le.l | refine Sw ?_ ?_ | intro (K : _ → _ → Prop) hK | intro h)
        exact ⟨_, [_], [(b2, some [.v (.int .i64 0), .str [], .v (.slice none 0 0)]), (b, some [.str s, .v (.int .i64 k), .v (.bool false)])], by simp; omega, ⟨l ++ [p], k, false, rfl, rfl, rfl, by omega, by simp; omega, by omega, fun _ => ⟨by omega, by simp; omega, by rw [← hR.2.2, pSeq_go l h.1.1 h.1.2 h.2 hq]⟩, by simp⟩, by simp [encPat_eq], by simp (maxSteps := 2000000) (disch := omega) only [go_sem]⟩
      · (refine vK ?_; with_reducible repeat' first | exact Le.l | refine Sw ?_ ?_ | intro (K : _ → _ → Prop) hK | intro h)
        exact ⟨_, [_], [(b2, some [.v (.int .i64 0), .str [], .v (.slice none 0 0)]), (b, some [.str s, .v (.int .i64 k), .v (.bool true)])], by simp, ⟨l ++ [p], k, true, rfl, rfl, rfl, by omega, by simp; omega, by omega, by simp, fun _ => by rw [← hR.2.2, pSeq_none l h.1.1 h.1.2 h.2 hq]⟩, by simp [encPat_eq], by simp (maxSteps := 2000000) (disch := omega) only [go_sem]⟩
    · refine AW.imp (Imp.frz 3 ?_)
      simp (maxSteps := 2000000) (disch := omega) only [go_sem]
      (refine vK ?_; with_reducible repeat' first | exact Le.l | refine Sw ?_ ?_ | intro (K : _ → _ → Prop) hK | intro h)
      (refine AW.i rfl (fun h => ?_) (fun h => ?_) <;> try simp only [hC, reduceCtorEq] at h)
      · (refine vK ?_; with_reducible repeat' first | exact Le.l | refine Sw ?_ ?_ | intro (K : _ → _ → Prop) hK | intro h)
        (refine AW.ret (EndsG.imp (Imp.frzO (b := b2) (by simp (maxSteps := 2000000) (disch := omega) only [go_sem]; rfl) ?_)); simp (maxSteps := 2000000) (disch := omega) only [go_sem]; refine EndsG.finQ rfl (RdQ.yes (p := at_ l 0) (j := j) (by rw [← hR.2.2, pSeq_stop l (by omega), mkSeq, if_pos (by omega)]) (by omega)) ?_; simp (maxSteps := 2000000) (disch := omega) only [go_sem])
      · (refine vK ?_; with_reducible repeat' first | exact Le.l | refine Sw ?_ ?_ | intro (K : _ → _ → Prop) hK | intro h)
        (refine AW.ret (EndsG.imp (Imp.frzO (b := b2) (by simp (maxSteps := 2000000) (disch := omega) only [go_sem]; rfl) ?_)); simp (maxSteps := 2000000) (disch := omega) only [go_sem]; refine EndsG.finQ rfl (RdQ.yes (p := .mk 2 [] l) (j := j) (by rw [← hR.2.2, pSeq_stop l (by omega), mkSeq, if_neg (by omega)]) (by omega)) ?_; simp (maxSteps := 2000000) (disch := omega) only [go_sem])
instance seq_bad (b : Nat) (s : Str) (i : Nat) : Ctr lim Tryz.prog 136 [(b, some [.str s, .v (.int .i64 i), .v (.bool true)])] [.ptr b 0] (.agg [.v (.int .i64 2), .str [], .sl false 3 []]) [some [.str s, .v (.int .i64 i), .v (.bool true)]] True := by
  refine Ctr.of_body en136 Tryz.func136 rfl rfl fun hp => (?_); rw [Tryz.ntmps136]
  (refine vK ?_; with_reducible repeat' first | exact Le.l | refine Sw ?_ ?_ | intro (K : _ → _ → Prop) hK | intro h)
  rename_i b2
  refine AW.loopV [3] [0, 2] (fun m xs o => xs = [.sl true 3 []] ∧ o = [(b2, some [.v (.int .i64 0), .str [], .v (.slice none 0 0)]), (b, some [.str s, .v (.int .i64 i), .v (.bool true)])]) 0 [(b2, some [.v (.int .i64 0), .str [], .v (.slice none 0 0)]), (b, some [.str s, .v (.int .i64 i), .v (.bool true)])] (subO_two (Ne.symm h) rfl rfl) ⟨rfl, rfl⟩ ?_
  rintro m xs o ⟨rfl, rfl⟩
  (refine vK ?_; with_reducible repeat' first | exact Le.l | refine Sw ?_ ?_ | intro (K : _ → _ → Prop) hK | intro h)
  (refine AW.i rfl (fun h => ?_) (fun h => ?_) <;> try simp only [hC, reduceCtorEq] at h)
  refine AW.imp (Imp.frz 3 ?_)
  simp (maxSteps := 2000000) (disch := omega) only [go_sem]
  (refine vK ?_; with_reducible repeat' first | exact Le.l | refine Sw ?_ ?_ | intro (K : _ → _ → Prop) hK | intro h)
  (refine AW.i rfl (fun h => ?_) (fun h => ?_) <;> try simp only [hC, reduceCtorEq] at h)
  · simp at h
  · all_goals exact uU

theorem alt_n (n : Nat) (hseq : ∀ (b : Nat) (s : Str) (i : Nat), GCtr lim Tryz.prog 136 [(b, some [.str s, .v (.int .i64 i), .v (.bool false)])] [.ptr b 0] (RdQ b s i (pSeq s i [])) (i ≤ s.length ∧ s.length ≤ 30 ∧ s.length - i < n)) (b : Nat) (s : Str) (i : Nat) :
    GCtr lim Tryz.prog 122 [(b, some [.str s, .v (.int .i64 i), .v (.bool false)])] [.ptr b 0] (RdQ b s i (pAlt s i)) (i ≤ s.length ∧ s.length ≤ 30 ∧ s.length - i < n) := by
  refine GCtr.of_body en122 Tryz.func122 rfl rfl fun hp => (?_); rw [Tryz.ntmps122]
  (refine vK ?_; with_reducible repeat' first | exact Le.l | refine Sw ?_ ?_ | intro (K : _ → _ → Prop) hK | intro h)
  rename_i b2
  refine GK.rdB fun p j bad hq hj => ?_
  (refine vK ?_; with_reducible repeat' first | exact Le.l | refine Sw ?_ ?_ | intro (K : _ → _ → Prop) hK | intro h)
  refine AW.loopV [3] [0, 2] (fun m xs o => ∃ (l : List GPat) (j : Nat) (bad : Bool), xs = [.sl true 3 (l.map encPat)] ∧ o = [(b2, some [.v (.int .i64 0), .str [], .v (.slice none 0 0)]), (b, some [.str s, .v (.int .i64 j), .v (.bool bad)])] ∧ m = s.length - j ∧ j ≤ s.length ∧ l.length ≤ j + 1 ∧ i ≤ j ∧ (bad = false → pAltL s j l = pAlt s i) ∧ (bad = true → pAlt s i = none)) _ [(b2, some [.v (.int .i64 0), .str [], .v (.slice none 0 0)]), (b, some [.str s, .v (.int .i64 j), .v (.bool bad)])] (subO_two (Ne.symm h) rfl rfl) ⟨[p], j, bad, ?_, rfl, rfl, ?_, ?_, ?_, ?_, ?_⟩ ?_
  · simp [T, encPat_eq]
  · omega
  · simp
  · omega
  · rintro rfl
    rcases hq with ⟨_, hq⟩ | ⟨h, _⟩
    · exact (pAlt_go hp.1 hq).symm
    · cases h
  · rintro rfl
    rcases hq with ⟨h, _⟩ | ⟨_, hq⟩
    · cases h
    · exact pAlt_none hq
  clear hq hj bad
  rintro m xs o ⟨l, j, bad, rfl, rfl, rfl, hj, hl, hij, hR, hN⟩
  (refine vK ?_; with_reducible repeat' first | exact Le.l | refine Sw ?_ ?_ | intro (K : _ → _ → Prop) hK | intro h)
  (refine AW.i rfl (fun h => ?_) (fun h => ?_) <;> try simp only [hC, reduceCtorEq] at h)
  · simp only [h, cond_true]
    have hlt := isAt_iff.1 h
    cases bad with
    | true =>
      have hN := hN rfl
      (refine vK ?_; with_reducible repeat' first | exact Le.l | refine Sw ?_ ?_ | intro (K : _ → _ → Prop) hK | intro h)
      exact ⟨_, [_], [(b2, some [.v (.int .i64 0), .str [], .v (.slice none 0 0)]), (b, some [.str s, .v (.int .i64 (j + 1 : Nat)), .v (.bool true)])], by omega, ⟨l ++ [.mk 2 [] []], j + 1, true, rfl, rfl, rfl, by omega, by simp; omega, by omega, by simp, fun _ => hN⟩, by simp [encPat_eq, fOp_mk, fText_mk, fKids_mk], by simp (maxSteps := 2000000) (disch := omega) only [go_sem]⟩
    | false =>
      have hR := hR rfl
      (refine vK ?_; with_reducible repeat' first | exact Le.l | refine Sw ?_ ?_ | intro (K : _ → _ → Prop) hK | intro h)
      refine GK.rd (fun p k hq hk => ?_) (fun p k hq hk => ?_)
      · (refine vK ?_; with_reducible repeat' first | exact Le.l | refine Sw ?_ ?_ | intro (K : _ → _ → Prop) hK | intro h)
        exact ⟨_, [_], [(b2, some [.v (.int .i64 0), .str [], .v (.slice none 0 0)]), (b, some [.str s, .v (.int .i64 k), .v (.bool false)])], by omega, ⟨l ++ [p], k, false, rfl, rfl, rfl, by omega, by simp; omega, by omega, fun _ => by rw [← hR, pAltL_go l h hq], by simp⟩, by simp [encPat_eq], by simp (maxSteps := 2000000) (disch := omega) only [go_sem]⟩
      · (refine vK ?_; with_reducible repeat' first | exact Le.l | refine Sw ?_ ?_ | intro (K : _ → _ → Prop) hK | intro h)
        exact ⟨_, [_], [(b2, some [.v (.int .i64 0), .str [], .v (.slice none 0 0)]), (b, some [.str s, .v (.int .i64 k), .v (.bool true)])], by omega, ⟨l ++ [p], k, true, rfl, rfl, rfl, by omega, by simp; omega, by omega, by simp, fun _ => by rw [← hR, pAltL_none l h hq]⟩, by simp [encPat_eq], by simp (maxSteps := 2000000) (disch := omega) only [go_sem]⟩
  · rename_i hstop
    simp only [h, cond_false]
    refine AW.imp (Imp.frz 3 ?_)
    simp (maxSteps := 2000000) (disch := omega) only [go_sem]
    (refine vK ?_; with_reducible repeat' first | exact Le.l | refine Sw ?_ ?_ | intro (K : _ → _ → Prop) hK | intro h)
    cases bad with
    | true =>
      have hN := hN rfl
      (refine AW.i rfl (fun h => ?_) (fun h => ?_) <;> try simp only [hC, reduceCtorEq] at h)
      · (refine vK ?_; with_reducible repeat' first | exact Le.l | refine Sw ?_ ?_ | intro (K : _ → _ → Prop) hK | intro h)
        (refine AW.ret (EndsG.imp (Imp.frzO (b := b2) (by simp (maxSteps := 2000000) (disch := omega) only [go_sem]; rfl) ?_)); simp (maxSteps := 2000000) (disch := omega) only [go_sem]; refine EndsG.finQ rfl (RdQ.no (at_ l 0) (j := j) hN (by omega)) ?_; simp (maxSteps := 2000000) (disch := omega) only [go_sem])
      · (refine vK ?_; with_reducible repeat' first | exact Le.l | refine Sw ?_ ?_ | intro (K : _ → _ → Prop) hK | intro h)
        (refine AW.ret (EndsG.imp (Imp.frzO (b := b2) (by simp (maxSteps := 2000000) (disch := omega) only [go_sem]; rfl) ?_)); simp (maxSteps := 2000000) (disch := omega) only [go_sem]; refine EndsG.finQ rfl (RdQ.no (.mk 3 [] l) (j := j) hN (by omega)) ?_; simp (maxSteps := 2000000) (disch := omega) only [go_sem])
    | false =>
      have hR := hR rfl
      have hst := pAltL_stop l h
      (refine AW.i rfl (fun h => ?_) (fun h => ?_) <;> try simp only [hC, reduceCtorEq] at h)
      · (refine vK ?_; with_reducible repeat' first | exact Le.l | refine Sw ?_ ?_ | intro (K : _ → _ → Prop) hK | intro h)
        (refine AW.ret (EndsG.imp (Imp.frzO (b := b2) (by simp (maxSteps := 2000000) (disch := omega) only [go_sem]; rfl) ?_)); simp (maxSteps := 2000000) (disch := omega) only [go_sem]; refine EndsG.finQ rfl (RdQ.yes (p := at_ l 0) (j := j) (by rw [← hR, hst, mkAlt, if_pos (by omega)]) (by omega)) ?_; simp (maxSteps := 2000000) (disch := omega) only [go_sem])
      · (refine vK ?_; with_reducible repeat' first | exact Le.l | refine Sw ?_ ?_ | intro (K : _ → _ → Prop) hK | intro h)
        (refine AW.ret (EndsG.imp (Imp.frzO (b := b2) (by simp (maxSteps := 2000000) (disch := omega) only [go_sem]; rfl) ?_)); simp (maxSteps := 2000000) (disch := omega) only [go_sem]; refine EndsG.finQ rfl (RdQ.yes (p := .mk 3 [] l) (j := j) (by rw [← hR, hst, mkAlt, if_neg (by omega)]) (by omega)) ?_; simp (maxSteps := 2000000) (disch := omega) only [go_sem])
end Go.Proofs.YtfglembdjbhanaaGreatDoor
