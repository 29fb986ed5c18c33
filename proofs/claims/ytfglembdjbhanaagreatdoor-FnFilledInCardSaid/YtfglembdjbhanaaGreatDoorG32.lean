/-
  Part of a proof: Ft3.
-/
import Derived.Test.YtfglembdjbhanaaGreatDoorG22
import Derived.Test.YtfglembdjbhanaaGreatDoorG28
import Derived.Test.YtfglembdjbhanaaGreatDoorG29
import Derived.Test.YtfglembdjbhanaaGreatDoorG31
set_option linter.unusedSimpArgs false
set_option linter.unusedVariables false
namespace Go.Proofs.YtfglembdjbhanaaGreatDoor
open Go.Ab Go.Dt
set_option maxRecDepth 20000
set_option maxHeartbeats 4000000
attribute [local go_sem] encArgM_frz
instance ft1_i (L : Nat → Nat) (p : GParam) (n v : Str) : Ctr L Tryz.prog 33 [] [.agg [.str p.fName, .v (.int .i64 p.fType.fKind), .sl false 2 (p.fType.fRanges.map (encRange false)), .sl false 1 (p.fType.fNames.map AV.str), .str p.fType.fPattern, .str p.fType.fPath], .vp [.str n, .str v]] (.v (.bool (p.fName == n))) [] True := by
  refine Ctr.of_body en33 Tryz.func33 rfl rfl fun hp => (?_); rw [Tryz.ntmps33]
  all_goals exact uU
instance ft2_i (L : Nat → Nat) (p : GParam) (n v : Str) : Ctr L Tryz.prog 35 [] [.agg [.str p.fName, .v (.int .i64 p.fType.fKind), .sl false 2 (p.fType.fRanges.map (encRange false)), .sl false 1 (p.fType.fNames.map AV.str), .str p.fType.fPattern, .str p.fType.fPath], .vp [.str n, .str v]] (.v (.bool (p.fName == n))) [] True := by
  refine Ctr.of_body en35 Tryz.func35 rfl rfl fun hp => (?_); rw [Tryz.ntmps35]
  all_goals exact uU
instance ixP1_i (l : List GParam) (n v : Str) : Ctr lim Tryz.prog 34 [] [.sl false 6 (l.map (encParam false)), .fn 33 [.vp [.str n, .str v]]] (.v (.int .i64 (prmI l n))) [] True := by
  refine Ctr.of_body en34 Tryz.func34 rfl rfl fun hp => (?_); rw [Tryz.ntmps34]
  refine AW.fact 0 fun hf => ?_
  simp (disch := omega) only [go_sem, Nat.reduceBEq] at hf
  (refine vU ?_; with_reducible repeat' first | exact Le.l | refine Sw ?_ ?_ | intro (K : _ → _ → Prop) hK | intro h)
  refine AW.loopV [8] [0, 1, 7] (fun m xs o => ∃ k : Nat, xs = [.v (.int .i64 k)] ∧ o = [] ∧ m = l.length - k ∧ k ≤ l.length ∧ ∀ x ∈ l.take k, (x.fName == n) = false) l.length [] trivial ⟨0, ?_, rfl, rfl, ?_, ?_⟩ ?_
  · rfl
  · omega
  · simp
  rintro m xs o ⟨k, rfl, rfl, rfl, hk, hR⟩
  (refine vU ?_; with_reducible repeat' first | exact Le.l | refine Sw ?_ ?_ | intro (K : _ → _ → Prop) hK | intro h)
  · rw [prmI, idx_at' (by assumption) hR (by simpa using h)]
  · exact ⟨_, [_], [], by omega, ⟨k + 1, rfl, rfl, rfl, by omega, take_step' (by assumption) hR (by simpa using h)⟩, rfl, trivial⟩
  · rw [prmI, idx_end h hR]
instance ixP2_i (l : List GParam) (n v : Str) : Ctr lim Tryz.prog 34 [] [.sl false 6 (l.map (encParam false)), .fn 35 [.vp [.str n, .str v]]] (.v (.int .i64 (prmI l n))) [] True := by
  refine Ctr.of_body en34 Tryz.func34 rfl rfl fun hp => (?_); rw [Tryz.ntmps34]
  refine AW.fact 0 fun hf => ?_
  simp (disch := omega) only [go_sem, Nat.reduceBEq] at hf
  (refine vU ?_; with_reducible repeat' first | exact Le.l | refine Sw ?_ ?_ | intro (K : _ → _ → Prop) hK | intro h)
  refine AW.loopV [8] [0, 1, 7] (fun m xs o => ∃ k : Nat, xs = [.v (.int .i64 k)] ∧ o = [] ∧ m = l.length - k ∧ k ≤ l.length ∧ ∀ x ∈ l.take k, (x.fName == n) = false) l.length [] trivial ⟨0, ?_, rfl, rfl, ?_, ?_⟩ ?_
  · rfl
  · omega
  · simp
  rintro m xs o ⟨k, rfl, rfl, rfl, hk, hR⟩
  (refine vU ?_; with_reducible repeat' first | exact Le.l | refine Sw ?_ ?_ | intro (K : _ → _ → Prop) hK | intro h)
  · rw [prmI, idx_at' (by assumption) hR (by simpa using h)]
  · exact ⟨_, [_], [], by omega, ⟨k + 1, rfl, rfl, rfl, by omega, take_step' (by assumption) hR (by simpa using h)⟩, rfl, trivial⟩
  · rw [prmI, idx_end h hR]
instance cfP_i (l : List GParam) (n v : Str) : Ctr lim Tryz.prog 32 [] [.sl false 6 (l.map (encParam false)), .fn 33 [.vp [.str n, .str v]]] (.v (.bool (decide (0 ≤ prmI l n)))) [] True := by
  refine Ctr.of_body en32 Tryz.func32 rfl rfl fun hp => (?_); rw [Tryz.ntmps32]
  all_goals exact uU
section
variable (ip : Str → Bool) (cb : GType → Str → Bool) (cs : GType → Str → Str)
theorem iFillTemplate_t (t : GTemplate) (l : List GArg) (hcs : ∀ x s, s.length ≤ 1048576 → (cs x s).length ≤ 1048576)
    (hT : ∀ x : GTemplate, Ctr lim Tryz.prog 30 [] [.agg [.str x.fName, .sl false 6 (x.fParams.map (encParam false)), .sl false 3 (x.fBody.map (encNode false))]] (.v (.bool (isTemplate ip x))) [] (wt x.fBody ≤ 1048576 ∧ x.fParams.length ≤ 1048576))
    (hC : ∀ (x : GType) (s : Str), Ctr lim Tryz.prog 36 [] [.agg [.v (.int .i64 x.fKind), .sl false 2 (x.fRanges.map (encRange false)), .sl false 1 (x.fNames.map AV.str), .str x.fPattern, .str x.fPath], .str s] (.tup [.str (cs x s), .v (.bool (cb x s))]) [] (s.length ≤ 1048576)) :
    Ctr lim Tryz.prog 7 [] [.agg [.str t.fName, .sl false 6 (t.fParams.map (encParam false)), .sl false 3 (t.fBody.map (encNode false))], .sl false 2 (l.map (encArg false))] (.tup [.sl true 3 ((ftN ip cb cs t l).map (encNode true)), .v (.int .i64 (ftC ip cb t l))]) [] (wt t.fBody ≤ 1048576 ∧ t.fParams.length ≤ 1048576 ∧ l.length ≤ 1048576 ∧ ArgsOk l) := by
  refine Ctr.of_body en7 Tryz.func7 rfl rfl fun hp => (?_); rw [Tryz.ntmps7]
  have hA := hp.2.2.2
  (refine vU ?_; with_reducible repeat' first | exact Le.l | refine Sw ?_ ?_ | intro (K : _ → _ → Prop) hK | intro h)
  · have e : isTemplate ip t = false := by simpa using h
    simp [ftN, ftOk, ftC, e]
  have eT : isTemplate ip t = true := by simpa using h
  refine AW.loopV [6, 22] [1, 2, 20, 21] (fun m xs o => ∃ k : Nat, xs = [.sl true 1 (((l.take k).map GArg.fName).map AV.str), .v (.int .i64 k)] ∧ o = [] ∧ m = l.length - k ∧ k ≤ l.length ∧ allTo (argOk t.fParams l) k = true) l.length [] trivial ⟨0, ?_, rfl, rfl, ?_, rfl⟩ ?_
  · rfl
  · omega
  rintro m xs o ⟨k, rfl, rfl, rfl, hk, hR⟩
  have hlt : (l.take k).length = k := by rw [List.length_take]; omega
  (refine vK ?_; with_reducible repeat' first | exact Le.l | refine Sw ?_ ?_ | intro (K : _ → _ → Prop) hK | intro h)
  (refine AW.i rfl (fun h => ?_) (fun h => ?_) <;> try simp only [hC, reduceCtorEq] at h)
  · have hk2 : k < l.length := by simpa using h
    (refine vN ?_; with_reducible repeat' first | exact Le.l | refine Sw ?_ ?_ | intro (K : _ → _ → Prop) hK | intro h)
    refine AW.regn fun K hK => ?_
    (refine vN ?_; with_reducible repeat' first | exact Le.l | refine Sw ?_ ?_ | intro (K : _ → _ → Prop) hK | intro h)
    refine AW.imp (Imp.vpO 8 (b := h) (off := 0) (cells := [.str (at_ l k).fName, .str (at_ l k).fValue]) gO gO rfl ?_)
    simp (maxSteps := 2000000) (disch := omega) only [go_sem]
    have hf := arg_first hk2
    (refine vU ?_; with_reducible repeat' first | exact Le.l | refine Sw ?_ ?_ | intro (K : _ → _ → Prop) hK | intro h)
    · rw [h]; rfl
    · have e : argOk t.fParams l k = false := by
        rw [argOk]; rw [hf] at h; revert h
        cases decide (0 ≤ prmI t.fParams (at_ l k).fName) <;> cases decide (idx (argP (at_ l k).fName) l = k) <;> simp
      simp [ftN, ftOk, ftC, eT, argOk_no hk2 e]
    · have e : argOk t.fParams l k = true := by
        rw [argOk]; rw [hf] at h; revert h
        cases decide (0 ≤ prmI t.fParams (at_ l k).fName) <;> cases decide (idx (argP (at_ l k).fName) l = k) <;> simp
      exact ⟨_, [_, _], [], by omega, ⟨k + 1, by rw [take_atL hk2, List.map_append, List.map_append]; rfl, rfl, rfl, by omega, allTo_step hR e⟩, rfl, trivial⟩
  have hk3 : ¬ k < l.length := by simpa using h
  obtain rfl : k = l.length := by omega
  (refine vU ?_; with_reducible repeat' first | exact Le.l | refine Sw ?_ ?_ | intro (K : _ → _ → Prop) hK | intro h)
  · have e : argsOk t.fParams l = false := by rw [argsOk, decide_eq_false (by simp at h; omega), Bool.and_false]
    simp [ftN, ftOk, ftC, eT, e]
  have eA : argsOk t.fParams l = true := by rw [argsOk, hR, decide_eq_true (by simp at h; omega)]; rfl
  have eN : ArgsOk (l.map (cnA cs t.fParams)) := fun a ha => by
    obtain ⟨x, hx, rfl⟩ := List.mem_map.1 ha
    exact hcs _ _ (hA x hx)
  refine AW.loopV [9, 54] [2, 52, 53] (fun m xs o => ∃ k : Nat, xs = [.sl true 2 (((l.take k).map (cnA cs t.fParams)).map (encArg true)), .v (.int .i64 k)] ∧ o = [] ∧ m = l.length - k ∧ k ≤ l.length ∧ allTo (fun j => cnB cb t.fParams (at_ l j)) k = true) l.length [] trivial ⟨0, ?_, rfl, rfl, ?_, rfl⟩ ?_
  · rfl
  · omega
  rintro m xs o ⟨k, rfl, rfl, rfl, hk, hQ⟩
  have hlt : (l.take k).length = k := by rw [List.length_take]; omega
  (refine vK ?_; with_reducible repeat' first | exact Le.l | refine Sw ?_ ?_ | intro (K : _ → _ → Prop) hK | intro h)
  (refine AW.i rfl (fun h => ?_) (fun h => ?_) <;> try simp only [hC, reduceCtorEq] at h)
  · have hk2 : k < l.length := by simpa using h
    (refine vN ?_; with_reducible repeat' first | exact Le.l | refine Sw ?_ ?_ | intro (K : _ → _ → Prop) hK | intro h)
    refine AW.regn fun K hK => ?_
    (refine vN ?_; with_reducible repeat' first | exact Le.l | refine Sw ?_ ?_ | intro (K : _ → _ → Prop) hK | intro h)
    refine AW.imp (Imp.vpO 11 (b := h) (off := 0) (cells := [.str (at_ l k).fName, .str (at_ l k).fValue]) gO gO rfl ?_)
    simp (maxSteps := 2000000) (disch := omega) only [go_sem]
    have h0 := argOk_get eA hk2
    have h1 := prm_lt t.fParams (at_ l k).fName
    have h2 := hA _ (at_mem hk2)
    have h3 := hcs (at_ t.fParams (prmI t.fParams (at_ l k).fName).toNat).fType _ h2
    (refine vU ?_; with_reducible repeat' first | exact Le.l | refine Sw ?_ ?_ | intro (K : _ → _ → Prop) hK | intro h)
    · have e : allTo (fun j => cnB cb t.fParams (at_ l j)) l.length = false := allTo_false hk2 (by simpa [cnB, prT] using h)
      simp [ftN, ftOk, ftC, eT, eA, e]
    · rw [List.all_eq_true]; exact map_elem (fun _ => rfl) _
    · exact ⟨_, [_, _], [], by omega, ⟨k + 1, by rw [take_atL hk2, List.map_append, List.map_append]; rfl, rfl, rfl, by omega, allTo_step hQ (by simpa [cnB, prT] using h)⟩, rfl, trivial⟩
  have hk3 : ¬ k < l.length := by simpa using h
  obtain rfl : k = l.length := by omega
  rw [List.take_length]
  (refine vU ?_; with_reducible repeat' first | exact Le.l | refine Sw ?_ ?_ | intro (K : _ → _ → Prop) hK | intro h)
  · exact fill_cl _ _
  · simp [ftN, ftOk, ftC, eT, eA, hQ]
end
end Go.Proofs.YtfglembdjbhanaaGreatDoor
