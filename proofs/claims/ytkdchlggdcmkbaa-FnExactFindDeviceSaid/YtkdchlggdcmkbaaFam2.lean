/-
  The helper functions of the laws: part 3.
-/
import Derived.Test.YtkdchlggdcmkbaaFam2b
set_option linter.unusedSimpArgs false
set_option linter.unusedVariables false
namespace Go.Proofs.Ytkdchlggdcmkbaa
open Go.Ab Go.Dt
theorem eqServiceS_c {L : Nat → Nat} (hL : ∀ z, L z ≤ 4611686018427387904) (l : List Dt.GService) (hx : ∀ x, x ∈ l → PureC L Try.prog 112 [encService false x, encService false x] (.v (.bool true))) : PureC L Try.prog 73 [.sl false 4 (l.map (encService false)), .sl false 4 (l.map (encService false))] (.v (.bool true)) := by
  refine PureC.of_body Try.func73 rfl rfl ?_
  rw [Try.ntmps73]
  refine AW.len 0 rfl fun hlen => ?_
  have hlen' := Nat.le_trans hlen (hL 4)
  rw [List.length_map] at hlen'
  clear hlen
  refine AW.sreg [] fun K hK => ?_
  simp only [go_sem, Nat.reduceBEq, Nat.reduceAdd]
  refine hK _ _ (OpsW.nil ?_)
  refine AW.seq (AW.sreg [] fun K hK => ?_)
  simp only [go_sem, Nat.reduceBEq, Nat.reduceAdd]
  refine hK _ _ (OpsW.nil ?_)
  refine AW.cond rfl (fun h => absurd h (by simp)) (fun _ => AW.skip ?_)
  refine AW.seq (AW.sreg [] fun K hK => ?_)
  simp only [go_sem, Nat.reduceBEq, Nat.reduceAdd]
  refine hK _ _ (OpsW.nil ?_)
  refine AW.block (AW.loopK [0, 1, 5] (fun m t => ∃ k : Nat, t = [(0, .sl false 4 (l.map (encService false))), (1, .sl false 4 (l.map (encService false))), (5, .v (.int .i64 k))] ∧ m = l.length - k ∧ k ≤ l.length) l.length ⟨0, rfl, by simp, by simp⟩ ?_)
  rintro m t ⟨k, rfl, rfl, hk⟩
  refine AW.seq (AW.sreg [] fun K hK => ?_)
  simp only [go_sem, Nat.reduceBEq, Nat.reduceAdd]
  refine hK _ _ (OpsW.nil ?_)
  refine AW.cond rfl (fun h => ?_) (fun h => ?_)
  · have hlt : k < l.length := by simpa using h
    clear h
    refine AW.skip (AW.seq (AW.block (AW.sdrw [] fun K hK => ?_)))
    simp only [go_sem, Nat.reduceBEq, Nat.reduceAdd, hlt]
    refine ⟨_, CallOK.pure en112 rfl (by have := hx l[k] (List.getElem_mem hlt); simpa only [go_sem] using this), ?_⟩
    simp only [go_sem, Nat.reduceBEq, Nat.reduceAdd]
    refine hK _ _ ?_ ?_
    · kernel_rfl
    refine OpsW.nil ?_
    refine AW.cond rfl (fun h => absurd h (by simp)) (fun _ => ?_)
    refine AW.skip (AW.reg [] fun K hK => ?_)
    simp only [go_sem, Nat.reduceBEq, Nat.reduceAdd]
    refine hK _ _ (OpsW.nil ⟨rfl, l.length - (k + 1), by omega, k + 1, ?_, rfl, hlt⟩)
    simp only [go_sem, Nat.reduceBEq, Nat.reduceAdd]
    rw [wrap_i64 (by omega) (by omega)]; rfl
  · refine AW.exit ?_
    simp only [blockQ, thenQ, if_true]
    refine AW.sreg [] fun K hK => ?_
    simp only [go_sem, Nat.reduceBEq, Nat.reduceAdd]
    exact hK _ _ (OpsW.nil (AW.ret (Ends.one' rfl rfl)))

theorem eqService_c {L : Nat → Nat} (x : Dt.GService) (h2 : PureC L Try.prog 23 [.sl false 2 (x.fArgs.map (encArg false)), .sl false 2 (x.fArgs.map (encArg false))] (.v (.bool true))) (h3 : PureC L Try.prog 11 [.sl false 1 (x.fTargets.map AV.str), .sl false 1 (x.fTargets.map AV.str)] (.v (.bool true))) : PureC L Try.prog 112 [encService false x, encService false x] (.v (.bool true)) := by
  refine PureC.of_body Try.func112 rfl rfl ?_
  rw [Try.ntmps112]
  refine AW.sreg [] fun K hK => ?_
  simp only [go_sem, Nat.reduceBEq, Nat.reduceAdd]
  refine hK _ _ (OpsW.nil ?_)
  refine AW.seq (AW.sreg [] fun K hK => ?_)
  simp only [go_sem, Nat.reduceBEq, Nat.reduceAdd]
  refine hK _ _ (OpsW.nil ?_)
  refine AW.cond rfl (fun h => absurd h (by simp)) (fun _ => AW.skip ?_)
  refine AW.seq (AW.sreg [] fun K hK => ?_)
  simp only [go_sem, Nat.reduceBEq, Nat.reduceAdd]
  refine hK _ _ (OpsW.nil ?_)
  refine AW.cond rfl (fun h => absurd h (by simp)) (fun _ => AW.skip ?_)
  refine AW.seq (AW.sreg [] fun K hK => ?_)
  simp only [go_sem, Nat.reduceBEq, Nat.reduceAdd]
  refine ⟨_, CallOK.pure en23 rfl h2, ?_⟩
  simp only [go_sem, Nat.reduceBEq, Nat.reduceAdd]
  refine hK _ _ (OpsW.nil ?_)
  refine AW.cond rfl (fun h => absurd h (by simp)) (fun _ => AW.skip ?_)
  refine AW.seq (AW.sreg [] fun K hK => ?_)
  simp only [go_sem, Nat.reduceBEq, Nat.reduceAdd]
  refine ⟨_, CallOK.pure en11 rfl h3, ?_⟩
  simp only [go_sem, Nat.reduceBEq, Nat.reduceAdd]
  refine hK _ _ (OpsW.nil ?_)
  refine AW.cond rfl (fun h => absurd h (by simp)) (fun _ => AW.skip ?_)
  refine AW.sreg [] fun K hK => ?_
  simp only [go_sem, Nat.reduceBEq, Nat.reduceAdd]
  exact hK _ _ (OpsW.nil (AW.ret (Ends.one' rfl rfl)))

theorem eqService_a {L : Nat → Nat} (hL : ∀ z, L z ≤ 4611686018427387904) (x : Dt.GService) : PureC L Try.prog 112 [encService false x, encService false x] (.v (.bool true)) := eqService_c x (eqArgS_a hL x.fArgs) (eqstringS_a hL x.fTargets)
theorem eqServiceS_a {L : Nat → Nat} (hL : ∀ z, L z ≤ 4611686018427387904) (l : List Dt.GService) : PureC L Try.prog 73 [.sl false 4 (l.map (encService false)), .sl false 4 (l.map (encService false))] (.v (.bool true)) := eqServiceS_c hL l fun x _ => eqService_a hL x
theorem szServiceS_c {L : Nat → Nat} (hL : ∀ z, L z ≤ 4611686018427387904) (l : List Dt.GService) (hx : ∀ x, x ∈ l → ∀ r : Int, 0 ≤ r → r ≤ 1048576 → PureC L Try.prog 104 [encService false x, .v (.int .i64 r)] (.v (.int .i64 (szService x r))))
    (left : Int) (h0 : 0 ≤ left) (h1 : left ≤ 1048576) : PureC L Try.prog 64 [.sl false 4 (l.map (encService false)), .v (.int .i64 left)] (.v (.int .i64 (szSl szService l left))) := by
  refine PureC.of_body Try.func64 rfl rfl ?_
  rw [Try.ntmps64]
  refine AW.len 0 rfl fun hlen => ?_
  have hlen' := Nat.le_trans hlen (hL 4)
  rw [List.length_map] at hlen'
  clear hlen
  refine AW.sreg [] fun K hK => ?_
  simp only [go_sem, Nat.reduceBEq, Nat.reduceAdd]
  refine hK _ _ (OpsW.nil ?_)
  refine AW.sreg [] fun K hK => ?_
  simp only [go_sem, Nat.reduceBEq, Nat.reduceAdd]
  rw [wrap_i64 (by omega) (by omega)]
  refine hK _ _ (OpsW.nil ?_)
  refine AW.seq (AW.sreg [] fun K hK => ?_)
  simp only [go_sem, Nat.reduceBEq, Nat.reduceAdd]
  refine hK _ _ (OpsW.nil ?_)
  refine AW.cond rfl (fun h => ?_) (fun h => ?_)
  · have h2 : left - (l.length : Int) < 0 := by simpa using h
    refine AW.sreg [] fun K hK => ?_
    simp only [go_sem, Nat.reduceBEq, Nat.reduceAdd]
    refine hK _ _ (OpsW.nil (AW.ret (Ends.one' rfl ?_)))
    rw [szSl, thn, if_pos h2]; rfl
  have h2 : ¬ (left - (l.length : Int) < 0) := by simpa using h
  clear h
  refine AW.skip (AW.seq (AW.sreg [] fun K hK => ?_))
  simp only [go_sem, Nat.reduceBEq, Nat.reduceAdd]
  refine hK _ _ (OpsW.nil ?_)
  refine AW.block (AW.loopK [0, 1, 5] (fun m t => ∃ (k : Nat) (r : Int), t = [(0, .sl false 4 (l.map (encService false))), (1, .v (.int .i64 r)), (5, .v (.int .i64 k))] ∧ m = l.length - k ∧ k ≤ l.length ∧ r = szGo szService (l.take k) (left - l.length) ∧ 0 ≤ r ∧ r ≤ 1048576) l.length ⟨0, _, rfl, by simp, by simp, by simp [szGo], by omega, by omega⟩ ?_)
  rintro m t ⟨k, r, rfl, rfl, hk, hr, hr0, hr1⟩
  refine AW.seq (AW.sreg [] fun K hK => ?_)
  simp only [go_sem, Nat.reduceBEq, Nat.reduceAdd]
  refine hK _ _ (OpsW.nil ?_)
  refine AW.cond rfl (fun h => ?_) (fun h => ?_)
  · have hlt : k < l.length := by simpa using h
    clear h
    have hsn : szGo szService (l.take (k + 1)) (left - l.length) = thn (szService l[k] r) id := by
      rw [List.take_succ_eq_append_getElem hlt, szGo_snoc _ _ _ _ (by rw [← hr]; exact hr0), ← hr]
    have hle := szService_le l[k] r hr0
    refine AW.skip (AW.seq (AW.block (AW.sreg [] fun K hK => ?_)))
    simp only [go_sem, Nat.reduceBEq, Nat.reduceAdd, hlt]
    refine ⟨_, CallOK.pure en104 rfl (by have := hx l[k] (List.getElem_mem hlt) r hr0 hr1; simpa only [go_sem] using this), ?_⟩
    simp only [go_sem, Nat.reduceBEq, Nat.reduceAdd]
    refine hK _ _ (OpsW.nil ?_)
    refine AW.sreg [] fun K hK => ?_
    simp only [go_sem, Nat.reduceBEq, Nat.reduceAdd]
    refine hK _ _ (OpsW.nil ?_)
    refine AW.cond rfl (fun h => ?_) (fun h => ?_)
    · have h3 : szService l[k] r < 0 := by simpa using h
      refine AW.sreg [] fun K hK => ?_
      simp only [go_sem, Nat.reduceBEq, Nat.reduceAdd]
      refine hK _ _ (OpsW.nil (AW.ret (Ends.one' rfl ?_)))
      rw [thn, if_pos h3] at hsn
      have := szGo_neg szService (l.take (k + 1)) (l.drop (k + 1)) _ hsn (List.ne_nil_of_length_pos (by rw [List.length_take]; omega))
      rw [List.take_append_drop] at this
      rw [szSl, thn, if_neg h2, this]; rfl
    · have h3 : ¬ (szService l[k] r < 0) := by simpa using h
      clear h
      rw [thn, if_neg h3] at hsn
      refine AW.skip (AW.reg [] fun K hK => ?_)
      simp only [go_sem, Nat.reduceBEq, Nat.reduceAdd]
      refine hK _ _ (OpsW.nil ⟨rfl, l.length - (k + 1), by omega, k + 1, _, ?_, rfl, hlt, hsn.symm, by simp only [id]; omega, by simp only [id]; omega⟩)
      simp only [go_sem, Nat.reduceBEq, Nat.reduceAdd]
      rw [wrap_i64 (by omega) (by omega)]; rfl
  · have hge : k = l.length := by have := h; simp at this; omega
    subst hge
    refine AW.exit ?_
    simp only [blockQ, thenQ, if_true]
    refine AW.sreg [] fun K hK => ?_
    simp only [go_sem, Nat.reduceBEq, Nat.reduceAdd]
    refine hK _ _ (OpsW.nil (AW.ret (Ends.one' rfl ?_)))
    rw [List.take_of_length_le (Nat.le_refl _)] at hr
    rw [szSl, thn, if_neg h2, ← hr]; rfl

theorem szService_c {L : Nat → Nat} (x : Dt.GService) (h2 : ∀ r : Int, 0 ≤ r → r ≤ 1048576 → PureC L Try.prog 19 [.sl false 2 (x.fArgs.map (encArg false)), .v (.int .i64 r)] (.v (.int .i64 (szSl szArg x.fArgs r)))) (h3 : ∀ r : Int, 0 ≤ r → r ≤ 1048576 → PureC L Try.prog 148 [.sl false 1 (x.fTargets.map AV.str), .v (.int .i64 r)] (.v (.int .i64 (szSl szStr x.fTargets r)))) (left : Int) (g0 : 0 ≤ left) (g1 : left ≤ 1048576) : PureC L Try.prog 104 [encService false x, .v (.int .i64 left)] (.v (.int .i64 (szService x left))) := by
  refine PureC.of_body Try.func104 rfl rfl ?_
  rw [Try.ntmps104]
  simp only [go_sem]
  refine AW.aggStr 0 rfl (s := x.fName) (by simp) fun b0 => ?_
  refine AW.aggStr 0 rfl (s := x.fTemplate) (by simp) fun b1 => ?_
  refine AW.sreg [] fun K hK => ?_
  simp only [go_sem, Nat.reduceBEq, Nat.reduceAdd]
  refine hK _ _ (OpsW.nil ?_)
  refine AW.sreg [] fun K hK => ?_
  simp only [go_sem, Nat.reduceBEq, Nat.reduceAdd]
  rw [wrap_i64 (by omega) (by omega)]
  refine hK _ _ (OpsW.nil ?_)
  refine AW.seq (AW.sreg [] fun K hK => ?_)
  simp only [go_sem, Nat.reduceBEq, Nat.reduceAdd]
  refine hK _ _ (OpsW.nil ?_)
  refine AW.cond rfl (fun h => ?_) (fun h => ?_)
  · have q0 : (left - (x.fName.length : Int)) < 0 := by simpa using h
    refine AW.sreg [] fun K hK => ?_
    simp only [go_sem, Nat.reduceBEq, Nat.reduceAdd]
    refine hK _ _ (OpsW.nil (AW.ret (Ends.one' rfl ?_)))
    have p0 : (szStr x.fName left) < 0 := q0
    rw [szService, thn_neg p0]; rfl
  have q0 : ¬ ((left - (x.fName.length : Int)) < 0) := by simpa using h
  have p0 : ¬ ((szStr x.fName left) < 0) := q0
  clear h
  refine AW.skip ?_
  refine AW.sreg [] fun K hK => ?_
  simp only [go_sem, Nat.reduceBEq, Nat.reduceAdd]
  rw [wrap_i64 (by omega) (by omega)]
  refine hK _ _ (OpsW.nil ?_)
  refine AW.seq (AW.sreg [] fun K hK => ?_)
  simp only [go_sem, Nat.reduceBEq, Nat.reduceAdd]
  refine hK _ _ (OpsW.nil ?_)
  refine AW.cond rfl (fun h => ?_) (fun h => ?_)
  · have q1 : ((left - (x.fName.length : Int)) - (x.fTemplate.length : Int)) < 0 := by simpa using h
    refine AW.sreg [] fun K hK => ?_
    simp only [go_sem, Nat.reduceBEq, Nat.reduceAdd]
    refine hK _ _ (OpsW.nil (AW.ret (Ends.one' rfl ?_)))
    have p1 : (szStr x.fTemplate (szStr x.fName left)) < 0 := q1
    rw [szService, thn_pos p0, thn_neg p1]; rfl
  have q1 : ¬ (((left - (x.fName.length : Int)) - (x.fTemplate.length : Int)) < 0) := by simpa using h
  have p1 : ¬ ((szStr x.fTemplate (szStr x.fName left)) < 0) := q1
  clear h
  refine AW.skip ?_
  refine AW.sreg [] fun K hK => ?_
  simp only [go_sem, Nat.reduceBEq, Nat.reduceAdd]
  refine ⟨_, CallOK.pure en19 rfl (h2 ((left - (x.fName.length : Int)) - (x.fTemplate.length : Int)) (by omega) (by omega)), ?_⟩
  simp only [go_sem, Nat.reduceBEq, Nat.reduceAdd]
  have e2 := szSl_le szArg (fun y r hr => szArg_le y r hr) x.fArgs ((left - (x.fName.length : Int)) - (x.fTemplate.length : Int)) (by omega)
  refine hK _ _ (OpsW.nil ?_)
  refine AW.seq (AW.sreg [] fun K hK => ?_)
  simp only [go_sem, Nat.reduceBEq, Nat.reduceAdd]
  refine hK _ _ (OpsW.nil ?_)
  refine AW.cond rfl (fun h => ?_) (fun h => ?_)
  · have q2 : (szSl szArg x.fArgs ((left - (x.fName.length : Int)) - (x.fTemplate.length : Int))) < 0 := by simpa using h
    refine AW.sreg [] fun K hK => ?_
    simp only [go_sem, Nat.reduceBEq, Nat.reduceAdd]
    refine hK _ _ (OpsW.nil (AW.ret (Ends.one' rfl ?_)))
    have p2 : (szSl szArg x.fArgs (szStr x.fTemplate (szStr x.fName left))) < 0 := q2
    rw [szService, thn_pos p0, thn_pos p1, thn_neg p2]; rfl
  have q2 : ¬ ((szSl szArg x.fArgs ((left - (x.fName.length : Int)) - (x.fTemplate.length : Int))) < 0) := by simpa using h
  have p2 : ¬ ((szSl szArg x.fArgs (szStr x.fTemplate (szStr x.fName left))) < 0) := q2
  clear h
  refine AW.skip ?_
  refine AW.sreg [] fun K hK => ?_
  simp only [go_sem, Nat.reduceBEq, Nat.reduceAdd]
  refine ⟨_, CallOK.pure en148 rfl (h3 (szSl szArg x.fArgs ((left - (x.fName.length : Int)) - (x.fTemplate.length : Int))) (by omega) (by omega)), ?_⟩
  simp only [go_sem, Nat.reduceBEq, Nat.reduceAdd]
  have e3 := szSl_le szStr (fun y r hr => szStr_le y r hr) x.fTargets (szSl szArg x.fArgs ((left - (x.fName.length : Int)) - (x.fTemplate.length : Int))) (by omega)
  refine hK _ _ (OpsW.nil ?_)
  refine AW.seq (AW.sreg [] fun K hK => ?_)
  simp only [go_sem, Nat.reduceBEq, Nat.reduceAdd]
  refine hK _ _ (OpsW.nil ?_)
  refine AW.cond rfl (fun h => ?_) (fun h => ?_)
  · have q3 : (szSl szStr x.fTargets (szSl szArg x.fArgs ((left - (x.fName.length : Int)) - (x.fTemplate.length : Int)))) < 0 := by simpa using h
    refine AW.sreg [] fun K hK => ?_
    simp only [go_sem, Nat.reduceBEq, Nat.reduceAdd]
    refine hK _ _ (OpsW.nil (AW.ret (Ends.one' rfl ?_)))
    have p3 : (szSl szStr x.fTargets (szSl szArg x.fArgs (szStr x.fTemplate (szStr x.fName left)))) < 0 := q3
    rw [szService, thn_pos p0, thn_pos p1, thn_pos p2, thn_neg p3]; rfl
  have q3 : ¬ ((szSl szStr x.fTargets (szSl szArg x.fArgs ((left - (x.fName.length : Int)) - (x.fTemplate.length : Int)))) < 0) := by simpa using h
  have p3 : ¬ ((szSl szStr x.fTargets (szSl szArg x.fArgs (szStr x.fTemplate (szStr x.fName left)))) < 0) := q3
  clear h
  refine AW.skip ?_
  refine AW.sreg [] fun K hK => ?_
  simp only [go_sem, Nat.reduceBEq, Nat.reduceAdd]
  refine hK _ _ (OpsW.nil (AW.ret (Ends.one' rfl ?_)))
  rw [szService, thn_pos p0, thn_pos p1, thn_pos p2, thn_pos p3]; rfl

theorem szService_a {L : Nat → Nat} (hL : ∀ z, L z ≤ 4611686018427387904) (x : Dt.GService) (r : Int) (r0 : 0 ≤ r) (r1 : r ≤ 1048576) : PureC L Try.prog 104 [encService false x, .v (.int .i64 r)] (.v (.int .i64 (szService x r))) := szService_c x (szArgS_a hL x.fArgs) (szstringS_a hL x.fTargets) r r0 r1
theorem szServiceS_a {L : Nat → Nat} (hL : ∀ z, L z ≤ 4611686018427387904) (l : List Dt.GService) (left : Int) (h0 : 0 ≤ left) (h1 : left ≤ 1048576) : PureC L Try.prog 64 [.sl false 4 (l.map (encService false)), .v (.int .i64 left)] (.v (.int .i64 (szSl szService l left))) := szServiceS_c hL l (fun x _ => szService_a hL x) left h0 h1
theorem toServiceS_c (l : List Dt.GService) (hx : ∀ x, x ∈ l → PureC lim Try.prog 108 [encService false x] (encService true x)) : PureC lim Try.prog 67 [.sl false 4 (l.map (encService false))] (.sl true 4 (l.map (encService true))) := by
  refine PureC.of_body Try.func67 rfl rfl ?_
  rw [Try.ntmps67]
  refine AW.len 0 rfl fun hlen => ?_
  rw [List.length_map] at hlen
  have hl : l.length ≤ 2147483648 := hlen
  refine AW.sreg [] fun K hK => ?_
  simp only [go_sem, Nat.reduceBEq, Nat.reduceAdd]
  refine hK _ _ (OpsW.nil ?_)
  refine AW.sreg [] fun K hK => ?_
  simp only [go_sem, Nat.reduceBEq, Nat.reduceAdd]
  refine hK _ _ (OpsW.mk rfl rfl rfl rfl elm_60 zer_126 rfl rfl rfl hlen (by omega) (fun K hK b hb => ?_) (by omega))
  simp only [go_sem, Nat.reduceBEq, Nat.reduceAdd]
  refine hK _ _ (OpsW.go [] fun K hK => ?_)
  simp only [go_sem, Nat.reduceBEq, Nat.reduceAdd]
  refine hK _ _ (OpsW.nil ?_)
  refine AW.seq (AW.sreg [] fun K hK => ?_)
  simp only [go_sem, Nat.reduceBEq, Nat.reduceAdd]
  refine hK _ _ (OpsW.nil ?_)
  refine AW.block (AW.loopO [0, 3, 4] (fun m t o => ∃ k b : Nat, t = [(0, .sl false 4 (l.map (encService false))), (3, .arr b 0 l.length 4), (4, .v (.int .i64 k))] ∧ o = [(b, some (mkC (encService true) [.string ⟨([] : List UInt8).toArray⟩, .string ⟨([] : List UInt8).toArray⟩, .slice none 0 0, .slice none 0 0] l k))] ∧ m = l.length - k ∧ k ≤ l.length) l.length [(b, some (mkC (encService true) [.string ⟨([] : List UInt8).toArray⟩, .string ⟨([] : List UInt8).toArray⟩, .slice none 0 0, .slice none 0 0] l 0))] (by rw [mkC_zero]; exact fun _ _ h => h) ⟨0, b, rfl, rfl, by simp, by simp⟩ ?_)
  rintro m t o ⟨k, b, rfl, rfl, rfl, hk⟩
  have hC := mkC_len (encService true) [.string ⟨([] : List UInt8).toArray⟩, .string ⟨([] : List UInt8).toArray⟩, .slice none 0 0, .slice none 0 0] 4 (fun x => by first | rfl | simp only [go_sem]) rfl l k hk
  refine AW.seq (AW.sreg [] fun K hK => ?_)
  simp only [go_sem, Nat.reduceBEq, Nat.reduceAdd]
  refine hK _ _ (OpsW.nil ?_)
  refine AW.cond rfl (fun h => ?_) (fun h => ?_)
  · have hlt : k < l.length := by simpa using h
    clear h
    have hst := mkC_step (encService true) [.string ⟨([] : List UInt8).toArray⟩, .string ⟨([] : List UInt8).toArray⟩, .slice none 0 0, .slice none 0 0] 4 (fun x => by first | rfl | simp only [go_sem]) rfl l k hlt
    refine AW.skip (AW.seq (AW.block (AW.reg [] fun K hK => ?_)))
    simp only [go_sem, Nat.reduceBEq, Nat.reduceAdd, hlt]
    refine ⟨_, CallOK.pure en108 rfl (by have := hx l[k] (List.getElem_mem hlt); simpa only [go_sem] using this), ?_⟩
    try simp only [go_sem, Nat.reduceBEq, Nat.reduceAdd, hlt]
    refine hK _ _ ?_
    refine OpsW.store rfl rfl rfl rfl rfl (by simp only [O, if_true]; rfl) ty_126 rfl (by rfl) (by rfl) (by rw [hC]; omega) fun K hK => ?_
    simp only [go_sem, Nat.reduceBEq, Nat.reduceAdd]
    refine hK _ _ (OpsW.nil ?_)
    simp only [blockQ, thenQ]
    refine AW.reg [] fun K hK => ?_
    simp only [go_sem, Nat.reduceBEq, Nat.reduceAdd]
    refine hK _ _ (OpsW.nil ⟨rfl, l.length - (k + 1), [(b, some (mkC (encService true) [.string ⟨([] : List UInt8).toArray⟩, .string ⟨([] : List UInt8).toArray⟩, .slice none 0 0, .slice none 0 0] l (k + 1)))], by omega, ⟨k + 1, b, ?_, rfl, rfl, hlt⟩, ?_⟩)
    · simp only [go_sem, Nat.reduceBEq, Nat.reduceAdd]
      rw [wrap_i64 (by omega) (by omega)]; rfl
    · intro q cs hq
      simp only [O] at hq ⊢
      split at hq
      · rename_i e; rw [if_pos e, ← hq, ← hst]; first | rfl | (simp only [go_sem]; done) | simp only [go_sem, hlt]
      · cases hq
  · have hge : k = l.length := by have := h; simp at this; omega
    subst hge
    refine AW.exit ?_
    simp only [blockQ, thenQ, if_true]
    refine AW.sreg [] fun K hK => ?_
    simp only [go_sem, Nat.reduceBEq, Nat.reduceAdd]
    refine hK _ _ (OpsW.nil (AW.ret ?_))
    refine Ends.res rfl (ResOK.pack rfl (by simp only [O, if_true]; rfl) (by simp) ?_ ?_)
    · rw [mkC_end, List.drop_zero, List.take_of_length_le (by rw [mkC_end] at hC; omega)]
    · intro z hz
      obtain ⟨y, _, rfl⟩ := List.mem_map.1 hz
      first | rfl | simp only [go_sem]

theorem toService_c {L : Nat → Nat} (x : Dt.GService) (h2 : PureC L Try.prog 21 [.sl false 2 (x.fArgs.map (encArg false))] (.sl true 2 (x.fArgs.map (encArg true)))) (h3 : PureC L Try.prog 149 [.sl false 1 (x.fTargets.map AV.str)] (.sl true 1 (x.fTargets.map AV.str))) : PureC L Try.prog 108 [encService false x] (encService true x) := by
  refine PureC.of_body Try.func108 rfl rfl ?_
  rw [Try.ntmps108]
  refine AW.sreg [] fun K hK => ?_
  simp only [go_sem, Nat.reduceBEq, Nat.reduceAdd]
  refine hK _ _ (OpsW.alloc rfl rfl rfl rfl zer_126 fun K hK b2 hb2 => ?_)
  simp only [go_sem, Nat.reduceBEq, Nat.reduceAdd]
  refine hK _ _ (OpsW.nil ?_)
  refine AW.sreg [] fun K hK => ?_
  simp only [go_sem, Nat.reduceBEq, Nat.reduceAdd]
  refine hK _ _ (OpsW.alloc rfl rfl rfl rfl zer_126 fun K hK b3 hb3 => ?_)
  have hne : b2 ≠ b3 := hb3 b2 _ (by simp only [O, if_true]; rfl)
  have hne' : b3 ≠ b2 := fun e => hne e.symm
  simp only [go_sem, Nat.reduceBEq, Nat.reduceAdd]
  refine hK _ _ (OpsW.nil ?_)
  refine AW.sreg [] fun K hK => ?_
  simp only [go_sem, Nat.reduceBEq, Nat.reduceAdd, hne, hne']
  refine hK _ _ (OpsW.store rfl rfl rfl rfl rfl (by simp only [O, if_true]; rfl) ty_9 rfl (by rfl) (by rfl) (by simp) fun K hK => ?_)
  simp only [go_sem, Nat.reduceBEq, Nat.reduceAdd]
  refine hK _ _ (OpsW.nil ?_)
  refine AW.sreg [] fun K hK => ?_
  simp only [go_sem, Nat.reduceBEq, Nat.reduceAdd, hne, hne']
  refine hK _ _ (OpsW.store rfl rfl rfl rfl rfl (by simp only [O, if_true]; rfl) ty_9 rfl (by rfl) (by rfl) (by simp) fun K hK => ?_)
  simp only [go_sem, Nat.reduceBEq, Nat.reduceAdd]
  refine hK _ _ (OpsW.nil ?_)
  refine AW.sreg [] fun K hK => ?_
  simp only [go_sem, Nat.reduceBEq, Nat.reduceAdd, hne, hne']
  refine ⟨_, CallOK.pure en21 rfl h2, ?_⟩
  try simp only [go_sem, Nat.reduceBEq, Nat.reduceAdd, hne, hne']
  refine hK _ _ (OpsW.store rfl rfl rfl rfl rfl (by simp only [O, if_true]; rfl) ty_43 rfl (by rfl) (by rfl) (by simp) fun K hK => ?_)
  simp only [go_sem, Nat.reduceBEq, Nat.reduceAdd]
  refine hK _ _ (OpsW.nil ?_)
  refine AW.sreg [] fun K hK => ?_
  simp only [go_sem, Nat.reduceBEq, Nat.reduceAdd, hne, hne']
  refine ⟨_, CallOK.pure en149 rfl h3, ?_⟩
  try simp only [go_sem, Nat.reduceBEq, Nat.reduceAdd, hne, hne']
  refine hK _ _ (OpsW.store rfl rfl rfl rfl rfl (by simp only [O, if_true]; rfl) ty_22 rfl (by rfl) (by rfl) (by simp) fun K hK => ?_)
  simp only [go_sem, Nat.reduceBEq, Nat.reduceAdd]
  refine hK _ _ (OpsW.nil ?_)
  refine AW.sreg [18] fun K hK => ?_
  simp only [go_sem, Nat.reduceBEq, Nat.reduceAdd]
  refine hK _ _ (OpsW.take rfl rfl rfl rfl rfl (by simp only [O, if_true]; rfl) ty_126 rfl fun K hK => ?_)
  simp only [go_sem, Nat.reduceBEq, Nat.reduceAdd]
  refine hK _ _ (OpsW.store rfl rfl rfl rfl rfl (by simp only [O, hne', if_false, if_true]; rfl) ty_126 rfl (by rfl) (by rfl) (by simp) fun K hK => ?_)
  simp only [go_sem, Nat.reduceBEq, Nat.reduceAdd]
  refine hK _ _ (OpsW.nil (AW.ret ?_))
  simp only [go_sem]
  exact Ends.res rfl (ResOK.cell rfl (by simp only [O, if_true]; rfl) ty_126 rfl)

theorem toService_a (x : Dt.GService) : PureC lim Try.prog 108 [encService false x] (encService true x) := toService_c x (toArgS_a x.fArgs) (tostringS_a x.fTargets)
theorem toService_v (x : Dt.GService) : PureC lim Try.prog 108 [encService false x] (encService false x) := by
  have := (toService_a x).frz
  rwa [encService_frz] at this
theorem toServiceS_a (l : List Dt.GService) : PureC lim Try.prog 67 [.sl false 4 (l.map (encService false))] (.sl true 4 (l.map (encService true))) := toServiceS_c l fun x _ => toService_a x
theorem toServiceS_v (l : List Dt.GService) : PureC lim Try.prog 67 [.sl false 4 (l.map (encService false))] (.sl false 4 (l.map (encService false))) := by
  have := (toServiceS_a l).frz
  rwa [show (AV.sl true 4 (l.map (encService true))).frz = AV.sl false 4 (l.map (encService false)) by simp only [AV.frz, cond_true, encServiceM_frz]] at this
theorem eqPlan_c {L : Nat → Nat} (x : Dt.GPlan) (h0 : PureC L Try.prog 72 [.sl false 3 (x.fTemplates.map (encTemplate false)), .sl false 3 (x.fTemplates.map (encTemplate false))] (.v (.bool true))) (h1 : PureC L Try.prog 73 [.sl false 4 (x.fServices.map (encService false)), .sl false 4 (x.fServices.map (encService false))] (.v (.bool true))) : PureC L Try.prog 33 [encPlan false x, encPlan false x] (.v (.bool true)) := by
  refine PureC.of_body Try.func33 rfl rfl ?_
  rw [Try.ntmps33]
  refine AW.sreg [] fun K hK => ?_
  simp only [go_sem, Nat.reduceBEq, Nat.reduceAdd]
  refine hK _ _ (OpsW.nil ?_)
  refine AW.seq (AW.sreg [] fun K hK => ?_)
  simp only [go_sem, Nat.reduceBEq, Nat.reduceAdd]
  refine ⟨_, CallOK.pure en72 rfl h0, ?_⟩
  simp only [go_sem, Nat.reduceBEq, Nat.reduceAdd]
  refine hK _ _ (OpsW.nil ?_)
  refine AW.cond rfl (fun h => absurd h (by simp)) (fun _ => AW.skip ?_)
  refine AW.seq (AW.sreg [] fun K hK => ?_)
  simp only [go_sem, Nat.reduceBEq, Nat.reduceAdd]
  refine ⟨_, CallOK.pure en73 rfl h1, ?_⟩
  simp only [go_sem, Nat.reduceBEq, Nat.reduceAdd]
  refine hK _ _ (OpsW.nil ?_)
  refine AW.cond rfl (fun h => absurd h (by simp)) (fun _ => AW.skip ?_)
  refine AW.sreg [] fun K hK => ?_
  simp only [go_sem, Nat.reduceBEq, Nat.reduceAdd]
  exact hK _ _ (OpsW.nil (AW.ret (Ends.one' rfl rfl)))

theorem eqPlan_a {L : Nat → Nat} (hL : ∀ z, L z ≤ 4611686018427387904) (x : Dt.GPlan) : PureC L Try.prog 33 [encPlan false x, encPlan false x] (.v (.bool true)) := eqPlan_c x (eqTemplateS_a hL x.fTemplates) (eqServiceS_a hL x.fServices)
theorem szPlan_c {L : Nat → Nat} (x : Dt.GPlan) (h0 : ∀ r : Int, 0 ≤ r → r ≤ 1048576 → PureC L Try.prog 63 [.sl false 3 (x.fTemplates.map (encTemplate false)), .v (.int .i64 r)] (.v (.int .i64 (szSl szTemplate x.fTemplates r)))) (h1 : ∀ r : Int, 0 ≤ r → r ≤ 1048576 → PureC L Try.prog 64 [.sl false 4 (x.fServices.map (encService false)), .v (.int .i64 r)] (.v (.int .i64 (szSl szService x.fServices r)))) (left : Int) (g0 : 0 ≤ left) (g1 : left ≤ 1048576) : PureC L Try.prog 29 [encPlan false x, .v (.int .i64 left)] (.v (.int .i64 (szPlan x left))) := by
  refine PureC.of_body Try.func29 rfl rfl ?_
  rw [Try.ntmps29]
  refine AW.sreg [] fun K hK => ?_
  simp only [go_sem, Nat.reduceBEq, Nat.reduceAdd]
  refine hK _ _ (OpsW.nil ?_)
  refine AW.sreg [] fun K hK => ?_
  simp only [go_sem, Nat.reduceBEq, Nat.reduceAdd]
  refine ⟨_, CallOK.pure en63 rfl (h0 left (by omega) (by omega)), ?_⟩
  simp only [go_sem, Nat.reduceBEq, Nat.reduceAdd]
  have e0 := szSl_le szTemplate (fun y r hr => szTemplate_le y r hr) x.fTemplates left (by omega)
  refine hK _ _ (OpsW.nil ?_)
  refine AW.seq (AW.sreg [] fun K hK => ?_)
  simp only [go_sem, Nat.reduceBEq, Nat.reduceAdd]
  refine hK _ _ (OpsW.nil ?_)
  refine AW.cond rfl (fun h => ?_) (fun h => ?_)
  · have q0 : (szSl szTemplate x.fTemplates left) < 0 := by simpa using h
    refine AW.sreg [] fun K hK => ?_
    simp only [go_sem, Nat.reduceBEq, Nat.reduceAdd]
    refine hK _ _ (OpsW.nil (AW.ret (Ends.one' rfl ?_)))
    have p0 : (szSl szTemplate x.fTemplates left) < 0 := q0
    rw [szPlan, thn_neg p0]; rfl
  have q0 : ¬ ((szSl szTemplate x.fTemplates left) < 0) := by simpa using h
  have p0 : ¬ ((szSl szTemplate x.fTemplates left) < 0) := q0
  clear h
  refine AW.skip ?_
  refine AW.sreg [] fun K hK => ?_
  simp only [go_sem, Nat.reduceBEq, Nat.reduceAdd]
  refine ⟨_, CallOK.pure en64 rfl (h1 (szSl szTemplate x.fTemplates left) (by omega) (by omega)), ?_⟩
  simp only [go_sem, Nat.reduceBEq, Nat.reduceAdd]
  have e1 := szSl_le szService (fun y r hr => szService_le y r hr) x.fServices (szSl szTemplate x.fTemplates left) (by omega)
  refine hK _ _ (OpsW.nil ?_)
  refine AW.seq (AW.sreg [] fun K hK => ?_)
  simp only [go_sem, Nat.reduceBEq, Nat.reduceAdd]
  refine hK _ _ (OpsW.nil ?_)
  refine AW.cond rfl (fun h => ?_) (fun h => ?_)
  · have q1 : (szSl szService x.fServices (szSl szTemplate x.fTemplates left)) < 0 := by simpa using h
    refine AW.sreg [] fun K hK => ?_
    simp only [go_sem, Nat.reduceBEq, Nat.reduceAdd]
    refine hK _ _ (OpsW.nil (AW.ret (Ends.one' rfl ?_)))
    have p1 : (szSl szService x.fServices (szSl szTemplate x.fTemplates left)) < 0 := q1
    rw [szPlan, thn_pos p0, thn_neg p1]; rfl
  have q1 : ¬ ((szSl szService x.fServices (szSl szTemplate x.fTemplates left)) < 0) := by simpa using h
  have p1 : ¬ ((szSl szService x.fServices (szSl szTemplate x.fTemplates left)) < 0) := q1
  clear h
  refine AW.skip ?_
  refine AW.sreg [] fun K hK => ?_
  simp only [go_sem, Nat.reduceBEq, Nat.reduceAdd]
  refine hK _ _ (OpsW.nil (AW.ret (Ends.one' rfl ?_)))
  rw [szPlan, thn_pos p0, thn_pos p1]; rfl

theorem szPlan_a {L : Nat → Nat} (hL : ∀ z, L z ≤ 4611686018427387904) (x : Dt.GPlan) (r : Int) (r0 : 0 ≤ r) (r1 : r ≤ 1048576) : PureC L Try.prog 29 [encPlan false x, .v (.int .i64 r)] (.v (.int .i64 (szPlan x r))) := szPlan_c x (szTemplateS_a hL x.fTemplates) (szServiceS_a hL x.fServices) r r0 r1
theorem toPlan_c {L : Nat → Nat} (x : Dt.GPlan) (h0 : PureC L Try.prog 66 [.sl false 3 (x.fTemplates.map (encTemplate false))] (.sl true 3 (x.fTemplates.map (encTemplate true)))) (h1 : PureC L Try.prog 67 [.sl false 4 (x.fServices.map (encService false))] (.sl true 4 (x.fServices.map (encService true)))) : PureC L Try.prog 31 [encPlan false x] (encPlan true x) := by
  refine PureC.of_body Try.func31 rfl rfl ?_
  rw [Try.ntmps31]
  refine AW.sreg [] fun K hK => ?_
  simp only [go_sem, Nat.reduceBEq, Nat.reduceAdd]
  refine hK _ _ (OpsW.alloc rfl rfl rfl rfl zer_62 fun K hK b2 hb2 => ?_)
  simp only [go_sem, Nat.reduceBEq, Nat.reduceAdd]
  refine hK _ _ (OpsW.nil ?_)
  refine AW.sreg [] fun K hK => ?_
  simp only [go_sem, Nat.reduceBEq, Nat.reduceAdd]
  refine hK _ _ (OpsW.alloc rfl rfl rfl rfl zer_62 fun K hK b3 hb3 => ?_)
  have hne : b2 ≠ b3 := hb3 b2 _ (by simp only [O, if_true]; rfl)
  have hne' : b3 ≠ b2 := fun e => hne e.symm
  simp only [go_sem, Nat.reduceBEq, Nat.reduceAdd]
  refine hK _ _ (OpsW.nil ?_)
  refine AW.sreg [] fun K hK => ?_
  simp only [go_sem, Nat.reduceBEq, Nat.reduceAdd, hne, hne']
  refine ⟨_, CallOK.pure en66 rfl h0, ?_⟩
  try simp only [go_sem, Nat.reduceBEq, Nat.reduceAdd, hne, hne']
  refine hK _ _ (OpsW.store rfl rfl rfl rfl rfl (by simp only [O, if_true]; rfl) ty_59 rfl (by rfl) (by rfl) (by simp) fun K hK => ?_)
  simp only [go_sem, Nat.reduceBEq, Nat.reduceAdd]
  refine hK _ _ (OpsW.nil ?_)
  refine AW.sreg [] fun K hK => ?_
  simp only [go_sem, Nat.reduceBEq, Nat.reduceAdd, hne, hne']
  refine ⟨_, CallOK.pure en67 rfl h1, ?_⟩
  try simp only [go_sem, Nat.reduceBEq, Nat.reduceAdd, hne, hne']
  refine hK _ _ (OpsW.store rfl rfl rfl rfl rfl (by simp only [O, if_true]; rfl) ty_60 rfl (by rfl) (by rfl) (by simp) fun K hK => ?_)
  simp only [go_sem, Nat.reduceBEq, Nat.reduceAdd]
  refine hK _ _ (OpsW.nil ?_)
  refine AW.sreg [12] fun K hK => ?_
  simp only [go_sem, Nat.reduceBEq, Nat.reduceAdd]
  refine hK _ _ (OpsW.take rfl rfl rfl rfl rfl (by simp only [O, if_true]; rfl) ty_62 rfl fun K hK => ?_)
  simp only [go_sem, Nat.reduceBEq, Nat.reduceAdd]
  refine hK _ _ (OpsW.store rfl rfl rfl rfl rfl (by simp only [O, hne', if_false, if_true]; rfl) ty_62 rfl (by rfl) (by rfl) (by simp) fun K hK => ?_)
  simp only [go_sem, Nat.reduceBEq, Nat.reduceAdd]
  refine hK _ _ (OpsW.nil (AW.ret ?_))
  simp only [go_sem]
  exact Ends.res rfl (ResOK.cell rfl (by simp only [O, if_true]; rfl) ty_62 rfl)

theorem toPlan_a (x : Dt.GPlan) : PureC lim Try.prog 31 [encPlan false x] (encPlan true x) := toPlan_c x (toTemplateS_a x.fTemplates) (toServiceS_a x.fServices)
theorem toPlan_v (x : Dt.GPlan) : PureC lim Try.prog 31 [encPlan false x] (encPlan false x) := by
  have := (toPlan_a x).frz
  rwa [encPlan_frz] at this
theorem eqDeviceS_c {L : Nat → Nat} (hL : ∀ z, L z ≤ 4611686018427387904) (l : List Dt.GDevice) (hx : ∀ x, x ∈ l → PureC L Try.prog 62 [encDevice false x, encDevice false x] (.v (.bool true))) : PureC L Try.prog 28 [.sl false 15 (l.map (encDevice false)), .sl false 15 (l.map (encDevice false))] (.v (.bool true)) := by
  refine PureC.of_body Try.func28 rfl rfl ?_
  rw [Try.ntmps28]
  refine AW.len 0 rfl fun hlen => ?_
  have hlen' := Nat.le_trans hlen (hL 15)
  rw [List.length_map] at hlen'
  clear hlen
  refine AW.sreg [] fun K hK => ?_
  simp only [go_sem, Nat.reduceBEq, Nat.reduceAdd]
  refine hK _ _ (OpsW.nil ?_)
  refine AW.seq (AW.sreg [] fun K hK => ?_)
  simp only [go_sem, Nat.reduceBEq, Nat.reduceAdd]
  refine hK _ _ (OpsW.nil ?_)
  refine AW.cond rfl (fun h => absurd h (by simp)) (fun _ => AW.skip ?_)
  refine AW.seq (AW.sreg [] fun K hK => ?_)
  simp only [go_sem, Nat.reduceBEq, Nat.reduceAdd]
  refine hK _ _ (OpsW.nil ?_)
  refine AW.block (AW.loopK [0, 1, 5] (fun m t => ∃ k : Nat, t = [(0, .sl false 15 (l.map (encDevice false))), (1, .sl false 15 (l.map (encDevice false))), (5, .v (.int .i64 k))] ∧ m = l.length - k ∧ k ≤ l.length) l.length ⟨0, rfl, by simp, by simp⟩ ?_)
  rintro m t ⟨k, rfl, rfl, hk⟩
  refine AW.seq (AW.sreg [] fun K hK => ?_)
  simp only [go_sem, Nat.reduceBEq, Nat.reduceAdd]
  refine hK _ _ (OpsW.nil ?_)
  refine AW.cond rfl (fun h => ?_) (fun h => ?_)
  · have hlt : k < l.length := by simpa using h
    clear h
    refine AW.skip (AW.seq (AW.block (AW.sdrw [] fun K hK => ?_)))
    simp only [go_sem, Nat.reduceBEq, Nat.reduceAdd, hlt]
    refine ⟨_, CallOK.pure en62 rfl (by have := hx l[k] (List.getElem_mem hlt); simpa only [go_sem] using this), ?_⟩
    simp only [go_sem, Nat.reduceBEq, Nat.reduceAdd]
    refine hK _ _ ?_ ?_
    · kernel_rfl
    refine OpsW.nil ?_
    refine AW.cond rfl (fun h => absurd h (by simp)) (fun _ => ?_)
    refine AW.skip (AW.reg [] fun K hK => ?_)
    simp only [go_sem, Nat.reduceBEq, Nat.reduceAdd]
    refine hK _ _ (OpsW.nil ⟨rfl, l.length - (k + 1), by omega, k + 1, ?_, rfl, hlt⟩)
    simp only [go_sem, Nat.reduceBEq, Nat.reduceAdd]
    rw [wrap_i64 (by omega) (by omega)]; rfl
  · refine AW.exit ?_
    simp only [blockQ, thenQ, if_true]
    refine AW.sreg [] fun K hK => ?_
    simp only [go_sem, Nat.reduceBEq, Nat.reduceAdd]
    exact hK _ _ (OpsW.nil (AW.ret (Ends.one' rfl rfl)))

theorem eqDevice_c {L : Nat → Nat} (x : Dt.GDevice) (h1 : PureC L Try.prog 103 [encStore false x.fStore, encStore false x.fStore] (.v (.bool true))) (h2 : PureC L Try.prog 93 [.sl false 3 (x.fBase.map (encNode false)), .sl false 3 (x.fBase.map (encNode false))] (.v (.bool true))) : PureC L Try.prog 62 [encDevice false x, encDevice false x] (.v (.bool true)) := by
  refine PureC.of_body Try.func62 rfl rfl ?_
  rw [Try.ntmps62]
  refine AW.sreg [] fun K hK => ?_
  simp only [go_sem, Nat.reduceBEq, Nat.reduceAdd]
  refine hK _ _ (OpsW.nil ?_)
  refine AW.seq (AW.sreg [] fun K hK => ?_)
  simp only [go_sem, Nat.reduceBEq, Nat.reduceAdd]
  refine hK _ _ (OpsW.nil ?_)
  refine AW.cond rfl (fun h => absurd h (by simp)) (fun _ => AW.skip ?_)
  refine AW.seq (AW.sreg [] fun K hK => ?_)
  simp only [go_sem, Nat.reduceBEq, Nat.reduceAdd]
  refine ⟨_, CallOK.pure en103 rfl h1, ?_⟩
  simp only [go_sem, Nat.reduceBEq, Nat.reduceAdd]
  refine hK _ _ (OpsW.nil ?_)
  refine AW.cond rfl (fun h => absurd h (by simp)) (fun _ => AW.skip ?_)
  refine AW.seq (AW.sreg [] fun K hK => ?_)
  simp only [go_sem, Nat.reduceBEq, Nat.reduceAdd]
  refine ⟨_, CallOK.pure en93 rfl h2, ?_⟩
  simp only [go_sem, Nat.reduceBEq, Nat.reduceAdd]
  refine hK _ _ (OpsW.nil ?_)
  refine AW.cond rfl (fun h => absurd h (by simp)) (fun _ => AW.skip ?_)
  refine AW.seq (AW.sreg [] fun K hK => ?_)
  simp only [go_sem, Nat.reduceBEq, Nat.reduceAdd]
  refine hK _ _ (OpsW.nil ?_)
  refine AW.cond rfl (fun h => absurd h (by simp)) (fun _ => AW.skip ?_)
  refine AW.seq (AW.sreg [] fun K hK => ?_)
  simp only [go_sem, Nat.reduceBEq, Nat.reduceAdd]
  refine hK _ _ (OpsW.nil ?_)
  refine AW.cond rfl (fun h => absurd h (by simp)) (fun _ => AW.skip ?_)
  refine AW.seq (AW.sreg [] fun K hK => ?_)
  simp only [go_sem, Nat.reduceBEq, Nat.reduceAdd]
  refine hK _ _ (OpsW.nil ?_)
  refine AW.cond rfl (fun h => absurd h (by simp)) (fun _ => AW.skip ?_)
  refine AW.sreg [] fun K hK => ?_
  simp only [go_sem, Nat.reduceBEq, Nat.reduceAdd]
  exact hK _ _ (OpsW.nil (AW.ret (Ends.one' rfl rfl)))

theorem eqDevice_a {L : Nat → Nat} (hL : ∀ z, L z ≤ 4611686018427387904) (x : Dt.GDevice) : PureC L Try.prog 62 [encDevice false x, encDevice false x] (.v (.bool true)) := eqDevice_c x (eqStore_a hL x.fStore) (eqNodeS_a hL x.fBase)
theorem eqDeviceS_a {L : Nat → Nat} (hL : ∀ z, L z ≤ 4611686018427387904) (l : List Dt.GDevice) : PureC L Try.prog 28 [.sl false 15 (l.map (encDevice false)), .sl false 15 (l.map (encDevice false))] (.v (.bool true)) := eqDeviceS_c hL l fun x _ => eqDevice_a hL x
theorem szDeviceS_c {L : Nat → Nat} (hL : ∀ z, L z ≤ 4611686018427387904) (l : List Dt.GDevice) (hx : ∀ x, x ∈ l → ∀ r : Int, 0 ≤ r → r ≤ 1048576 → PureC L Try.prog 58 [encDevice false x, .v (.int .i64 r)] (.v (.int .i64 (szDevice x r))))
    (left : Int) (h0 : 0 ≤ left) (h1 : left ≤ 1048576) : PureC L Try.prog 24 [.sl false 15 (l.map (encDevice false)), .v (.int .i64 left)] (.v (.int .i64 (szSl szDevice l left))) := by
  refine PureC.of_body Try.func24 rfl rfl ?_
  rw [Try.ntmps24]
  refine AW.len 0 rfl fun hlen => ?_
  have hlen' := Nat.le_trans hlen (hL 15)
  rw [List.length_map] at hlen'
  clear hlen
  refine AW.sreg [] fun K hK => ?_
  simp only [go_sem, Nat.reduceBEq, Nat.reduceAdd]
  refine hK _ _ (OpsW.nil ?_)
  refine AW.sreg [] fun K hK => ?_
  simp only [go_sem, Nat.reduceBEq, Nat.reduceAdd]
  rw [wrap_i64 (by omega) (by omega)]
  refine hK _ _ (OpsW.nil ?_)
  refine AW.seq (AW.sreg [] fun K hK => ?_)
  simp only [go_sem, Nat.reduceBEq, Nat.reduceAdd]
  refine hK _ _ (OpsW.nil ?_)
  refine AW.cond rfl (fun h => ?_) (fun h => ?_)
  · have h2 : left - (l.length : Int) < 0 := by simpa using h
    refine AW.sreg [] fun K hK => ?_
    simp only [go_sem, Nat.reduceBEq, Nat.reduceAdd]
    refine hK _ _ (OpsW.nil (AW.ret (Ends.one' rfl ?_)))
    rw [szSl, thn, if_pos h2]; rfl
  have h2 : ¬ (left - (l.length : Int) < 0) := by simpa using h
  clear h
  refine AW.skip (AW.seq (AW.sreg [] fun K hK => ?_))
  simp only [go_sem, Nat.reduceBEq, Nat.reduceAdd]
  refine hK _ _ (OpsW.nil ?_)
  refine AW.block (AW.loopK [0, 1, 5] (fun m t => ∃ (k : Nat) (r : Int), t = [(0, .sl false 15 (l.map (encDevice false))), (1, .v (.int .i64 r)), (5, .v (.int .i64 k))] ∧ m = l.length - k ∧ k ≤ l.length ∧ r = szGo szDevice (l.take k) (left - l.length) ∧ 0 ≤ r ∧ r ≤ 1048576) l.length ⟨0, _, rfl, by simp, by simp, by simp [szGo], by omega, by omega⟩ ?_)
  rintro m t ⟨k, r, rfl, rfl, hk, hr, hr0, hr1⟩
  refine AW.seq (AW.sreg [] fun K hK => ?_)
  simp only [go_sem, Nat.reduceBEq, Nat.reduceAdd]
  refine hK _ _ (OpsW.nil ?_)
  refine AW.cond rfl (fun h => ?_) (fun h => ?_)
  · have hlt : k < l.length := by simpa using h
    clear h
    have hsn : szGo szDevice (l.take (k + 1)) (left - l.length) = thn (szDevice l[k] r) id := by
      rw [List.take_succ_eq_append_getElem hlt, szGo_snoc _ _ _ _ (by rw [← hr]; exact hr0), ← hr]
    have hle := szDevice_le l[k] r hr0
    refine AW.skip (AW.seq (AW.block (AW.sreg [] fun K hK => ?_)))
    simp only [go_sem, Nat.reduceBEq, Nat.reduceAdd, hlt]
    refine ⟨_, CallOK.pure en58 rfl (by have := hx l[k] (List.getElem_mem hlt) r hr0 hr1; simpa only [go_sem] using this), ?_⟩
    simp only [go_sem, Nat.reduceBEq, Nat.reduceAdd]
    refine hK _ _ (OpsW.nil ?_)
    refine AW.sreg [] fun K hK => ?_
    simp only [go_sem, Nat.reduceBEq, Nat.reduceAdd]
    refine hK _ _ (OpsW.nil ?_)
    refine AW.cond rfl (fun h => ?_) (fun h => ?_)
    · have h3 : szDevice l[k] r < 0 := by simpa using h
      refine AW.sreg [] fun K hK => ?_
      simp only [go_sem, Nat.reduceBEq, Nat.reduceAdd]
      refine hK _ _ (OpsW.nil (AW.ret (Ends.one' rfl ?_)))
      rw [thn, if_pos h3] at hsn
      have := szGo_neg szDevice (l.take (k + 1)) (l.drop (k + 1)) _ hsn (List.ne_nil_of_length_pos (by rw [List.length_take]; omega))
      rw [List.take_append_drop] at this
      rw [szSl, thn, if_neg h2, this]; rfl
    · have h3 : ¬ (szDevice l[k] r < 0) := by simpa using h
      clear h
      rw [thn, if_neg h3] at hsn
      refine AW.skip (AW.reg [] fun K hK => ?_)
      simp only [go_sem, Nat.reduceBEq, Nat.reduceAdd]
      refine hK _ _ (OpsW.nil ⟨rfl, l.length - (k + 1), by omega, k + 1, _, ?_, rfl, hlt, hsn.symm, by simp only [id]; omega, by simp only [id]; omega⟩)
      simp only [go_sem, Nat.reduceBEq, Nat.reduceAdd]
      rw [wrap_i64 (by omega) (by omega)]; rfl
  · have hge : k = l.length := by have := h; simp at this; omega
    subst hge
    refine AW.exit ?_
    simp only [blockQ, thenQ, if_true]
    refine AW.sreg [] fun K hK => ?_
    simp only [go_sem, Nat.reduceBEq, Nat.reduceAdd]
    refine hK _ _ (OpsW.nil (AW.ret (Ends.one' rfl ?_)))
    rw [List.take_of_length_le (Nat.le_refl _)] at hr
    rw [szSl, thn, if_neg h2, ← hr]; rfl

theorem szDevice_c {L : Nat → Nat} (x : Dt.GDevice) (h1 : ∀ r : Int, 0 ≤ r → r ≤ 1048576 → PureC L Try.prog 101 [encStore false x.fStore, .v (.int .i64 r)] (.v (.int .i64 (szStore x.fStore r)))) (h2 : ∀ r : Int, 0 ≤ r → r ≤ 1048576 → PureC L Try.prog 79 [.sl false 3 (x.fBase.map (encNode false)), .v (.int .i64 r)] (.v (.int .i64 (szSl szNode x.fBase r)))) (left : Int) (g0 : 0 ≤ left) (g1 : left ≤ 1048576) : PureC L Try.prog 58 [encDevice false x, .v (.int .i64 left)] (.v (.int .i64 (szDevice x left))) := by
  refine PureC.of_body Try.func58 rfl rfl ?_
  rw [Try.ntmps58]
  simp only [go_sem]
  refine AW.aggStr 0 rfl (s := x.fName) (by simp) fun b0 => ?_
  refine AW.sreg [] fun K hK => ?_
  simp only [go_sem, Nat.reduceBEq, Nat.reduceAdd]
  refine hK _ _ (OpsW.nil ?_)
  refine AW.sreg [] fun K hK => ?_
  simp only [go_sem, Nat.reduceBEq, Nat.reduceAdd]
  rw [wrap_i64 (by omega) (by omega)]
  refine hK _ _ (OpsW.nil ?_)
  refine AW.seq (AW.sreg [] fun K hK => ?_)
  simp only [go_sem, Nat.reduceBEq, Nat.reduceAdd]
  refine hK _ _ (OpsW.nil ?_)
  refine AW.cond rfl (fun h => ?_) (fun h => ?_)
  · have q0 : (left - (x.fName.length : Int)) < 0 := by simpa using h
    refine AW.sreg [] fun K hK => ?_
    simp only [go_sem, Nat.reduceBEq, Nat.reduceAdd]
    refine hK _ _ (OpsW.nil (AW.ret (Ends.one' rfl ?_)))
    have p0 : (szStr x.fName left) < 0 := q0
    rw [szDevice, thn_neg p0]; rfl
  have q0 : ¬ ((left - (x.fName.length : Int)) < 0) := by simpa using h
  have p0 : ¬ ((szStr x.fName left) < 0) := q0
  clear h
  refine AW.skip ?_
  refine AW.sreg [] fun K hK => ?_
  simp only [go_sem, Nat.reduceBEq, Nat.reduceAdd]
  refine ⟨_, CallOK.pure en101 rfl (h1 (left - (x.fName.length : Int)) (by omega) (by omega)), ?_⟩
  simp only [go_sem, Nat.reduceBEq, Nat.reduceAdd]
  have e1 := szStore_le x.fStore (left - (x.fName.length : Int)) (by omega)
  refine hK _ _ (OpsW.nil ?_)
  refine AW.seq (AW.sreg [] fun K hK => ?_)
  simp only [go_sem, Nat.reduceBEq, Nat.reduceAdd]
  refine hK _ _ (OpsW.nil ?_)
  refine AW.cond rfl (fun h => ?_) (fun h => ?_)
  · have q1 : (szStore x.fStore (left - (x.fName.length : Int))) < 0 := by simpa using h
    refine AW.sreg [] fun K hK => ?_
    simp only [go_sem, Nat.reduceBEq, Nat.reduceAdd]
    refine hK _ _ (OpsW.nil (AW.ret (Ends.one' rfl ?_)))
    have p1 : (szStore x.fStore (szStr x.fName left)) < 0 := q1
    rw [szDevice, thn_pos p0, thn_neg p1]; rfl
  have q1 : ¬ ((szStore x.fStore (left - (x.fName.length : Int))) < 0) := by simpa using h
  have p1 : ¬ ((szStore x.fStore (szStr x.fName left)) < 0) := q1
  clear h
  refine AW.skip ?_
  refine AW.sreg [] fun K hK => ?_
  simp only [go_sem, Nat.reduceBEq, Nat.reduceAdd]
  refine ⟨_, CallOK.pure en79 rfl (h2 (szStore x.fStore (left - (x.fName.length : Int))) (by omega) (by omega)), ?_⟩
  simp only [go_sem, Nat.reduceBEq, Nat.reduceAdd]
  have e2 := szSl_le szNode (fun y r hr => szNode_le y r hr) x.fBase (szStore x.fStore (left - (x.fName.length : Int))) (by omega)
  refine hK _ _ (OpsW.nil ?_)
  refine AW.seq (AW.sreg [] fun K hK => ?_)
  simp only [go_sem, Nat.reduceBEq, Nat.reduceAdd]
  refine hK _ _ (OpsW.nil ?_)
  refine AW.cond rfl (fun h => ?_) (fun h => ?_)
  · have q2 : (szSl szNode x.fBase (szStore x.fStore (left - (x.fName.length : Int)))) < 0 := by simpa using h
    refine AW.sreg [] fun K hK => ?_
    simp only [go_sem, Nat.reduceBEq, Nat.reduceAdd]
    refine hK _ _ (OpsW.nil (AW.ret (Ends.one' rfl ?_)))
    have p2 : (szSl szNode x.fBase (szStore x.fStore (szStr x.fName left))) < 0 := q2
    rw [szDevice, thn_pos p0, thn_pos p1, thn_neg p2]; rfl
  have q2 : ¬ ((szSl szNode x.fBase (szStore x.fStore (left - (x.fName.length : Int)))) < 0) := by simpa using h
  have p2 : ¬ ((szSl szNode x.fBase (szStore x.fStore (szStr x.fName left))) < 0) := q2
  clear h
  refine AW.skip ?_
  refine AW.sreg [] fun K hK => ?_
  simp only [go_sem, Nat.reduceBEq, Nat.reduceAdd]
  refine hK _ _ (OpsW.nil (AW.ret (Ends.one' rfl ?_)))
  rw [szDevice, thn_pos p0, thn_pos p1, thn_pos p2]; rfl

theorem szDevice_a {L : Nat → Nat} (hL : ∀ z, L z ≤ 4611686018427387904) (x : Dt.GDevice) (r : Int) (r0 : 0 ≤ r) (r1 : r ≤ 1048576) : PureC L Try.prog 58 [encDevice false x, .v (.int .i64 r)] (.v (.int .i64 (szDevice x r))) := szDevice_c x (szStore_a hL x.fStore) (szNodeS_a hL x.fBase) r r0 r1
theorem szDeviceS_a {L : Nat → Nat} (hL : ∀ z, L z ≤ 4611686018427387904) (l : List Dt.GDevice) (left : Int) (h0 : 0 ≤ left) (h1 : left ≤ 1048576) : PureC L Try.prog 24 [.sl false 15 (l.map (encDevice false)), .v (.int .i64 left)] (.v (.int .i64 (szSl szDevice l left))) := szDeviceS_c hL l (fun x _ => szDevice_a hL x) left h0 h1
theorem toDeviceS_c (l : List Dt.GDevice) (hx : ∀ x, x ∈ l → PureC lim Try.prog 59 [encDevice false x] (encDevice true x)) : PureC lim Try.prog 26 [.sl false 15 (l.map (encDevice false))] (.sl true 15 (l.map (encDevice true))) := by
  refine PureC.of_body Try.func26 rfl rfl ?_
  rw [Try.ntmps26]
  refine AW.len 0 rfl fun hlen => ?_
  rw [List.length_map] at hlen
  have hl : l.length ≤ 2147483648 := hlen
  refine AW.sreg [] fun K hK => ?_
  simp only [go_sem, Nat.reduceBEq, Nat.reduceAdd]
  refine hK _ _ (OpsW.nil ?_)
  refine AW.sreg [] fun K hK => ?_
  simp only [go_sem, Nat.reduceBEq, Nat.reduceAdd]
  refine hK _ _ (OpsW.mk rfl rfl rfl rfl elm_50 zer_117 rfl rfl rfl hlen (by omega) (fun K hK b hb => ?_) (by omega))
  simp only [go_sem, Nat.reduceBEq, Nat.reduceAdd]
  refine hK _ _ (OpsW.go [] fun K hK => ?_)
  simp only [go_sem, Nat.reduceBEq, Nat.reduceAdd]
  refine hK _ _ (OpsW.nil ?_)
  refine AW.seq (AW.sreg [] fun K hK => ?_)
  simp only [go_sem, Nat.reduceBEq, Nat.reduceAdd]
  refine hK _ _ (OpsW.nil ?_)
  refine AW.block (AW.loopO [0, 3, 4] (fun m t o => ∃ k b : Nat, t = [(0, .sl false 15 (l.map (encDevice false))), (3, .arr b 0 l.length 15), (4, .v (.int .i64 k))] ∧ o = [(b, some (mkC (encDevice true) [.string ⟨([] : List UInt8).toArray⟩, .slice none 0 0, .slice none 0 0, .slice none 0 0, .int .i64 0, .slice none 0 0, .bool false, .int .i64 0, .int .i64 0, .string ⟨([] : List UInt8).toArray⟩, .slice none 0 0, .slice none 0 0, .bool false, .int .i64 0, .bool false] l k))] ∧ m = l.length - k ∧ k ≤ l.length) l.length [(b, some (mkC (encDevice true) [.string ⟨([] : List UInt8).toArray⟩, .slice none 0 0, .slice none 0 0, .slice none 0 0, .int .i64 0, .slice none 0 0, .bool false, .int .i64 0, .int .i64 0, .string ⟨([] : List UInt8).toArray⟩, .slice none 0 0, .slice none 0 0, .bool false, .int .i64 0, .bool false] l 0))] (by rw [mkC_zero]; exact fun _ _ h => h) ⟨0, b, rfl, rfl, by simp, by simp⟩ ?_)
  rintro m t o ⟨k, b, rfl, rfl, rfl, hk⟩
  have hC := mkC_len (encDevice true) [.string ⟨([] : List UInt8).toArray⟩, .slice none 0 0, .slice none 0 0, .slice none 0 0, .int .i64 0, .slice none 0 0, .bool false, .int .i64 0, .int .i64 0, .string ⟨([] : List UInt8).toArray⟩, .slice none 0 0, .slice none 0 0, .bool false, .int .i64 0, .bool false] 15 (fun x => by first | rfl | simp only [go_sem]) rfl l k hk
  refine AW.seq (AW.sreg [] fun K hK => ?_)
  simp only [go_sem, Nat.reduceBEq, Nat.reduceAdd]
  refine hK _ _ (OpsW.nil ?_)
  refine AW.cond rfl (fun h => ?_) (fun h => ?_)
  · have hlt : k < l.length := by simpa using h
    clear h
    have hst := mkC_step (encDevice true) [.string ⟨([] : List UInt8).toArray⟩, .slice none 0 0, .slice none 0 0, .slice none 0 0, .int .i64 0, .slice none 0 0, .bool false, .int .i64 0, .int .i64 0, .string ⟨([] : List UInt8).toArray⟩, .slice none 0 0, .slice none 0 0, .bool false, .int .i64 0, .bool false] 15 (fun x => by first | rfl | simp only [go_sem]) rfl l k hlt
    refine AW.skip (AW.seq (AW.block (AW.reg [] fun K hK => ?_)))
    simp only [go_sem, Nat.reduceBEq, Nat.reduceAdd, hlt]
    refine ⟨_, CallOK.pure en59 rfl (by have := hx l[k] (List.getElem_mem hlt); simpa only [go_sem] using this), ?_⟩
    try simp only [go_sem, Nat.reduceBEq, Nat.reduceAdd, hlt]
    refine hK _ _ ?_
    refine OpsW.store rfl rfl rfl rfl rfl (by simp only [O, if_true]; rfl) ty_117 rfl (by rfl) (by rfl) (by rw [hC]; omega) fun K hK => ?_
    simp only [go_sem, Nat.reduceBEq, Nat.reduceAdd]
    refine hK _ _ (OpsW.nil ?_)
    simp only [blockQ, thenQ]
    refine AW.reg [] fun K hK => ?_
    simp only [go_sem, Nat.reduceBEq, Nat.reduceAdd]
    refine hK _ _ (OpsW.nil ⟨rfl, l.length - (k + 1), [(b, some (mkC (encDevice true) [.string ⟨([] : List UInt8).toArray⟩, .slice none 0 0, .slice none 0 0, .slice none 0 0, .int .i64 0, .slice none 0 0, .bool false, .int .i64 0, .int .i64 0, .string ⟨([] : List UInt8).toArray⟩, .slice none 0 0, .slice none 0 0, .bool false, .int .i64 0, .bool false] l (k + 1)))], by omega, ⟨k + 1, b, ?_, rfl, rfl, hlt⟩, ?_⟩)
    · simp only [go_sem, Nat.reduceBEq, Nat.reduceAdd]
      rw [wrap_i64 (by omega) (by omega)]; rfl
    · intro q cs hq
      simp only [O] at hq ⊢
      split at hq
      · rename_i e; rw [if_pos e, ← hq, ← hst]; first | rfl | (simp only [go_sem]; done) | simp only [go_sem, hlt]
      · cases hq
  · have hge : k = l.length := by have := h; simp at this; omega
    subst hge
    refine AW.exit ?_
    simp only [blockQ, thenQ, if_true]
    refine AW.sreg [] fun K hK => ?_
    simp only [go_sem, Nat.reduceBEq, Nat.reduceAdd]
    refine hK _ _ (OpsW.nil (AW.ret ?_))
    refine Ends.res rfl (ResOK.pack rfl (by simp only [O, if_true]; rfl) (by simp) ?_ ?_)
    · rw [mkC_end, List.drop_zero, List.take_of_length_le (by rw [mkC_end] at hC; omega)]
    · intro z hz
      obtain ⟨y, _, rfl⟩ := List.mem_map.1 hz
      first | rfl | simp only [go_sem]

theorem toDevice_c {L : Nat → Nat} (x : Dt.GDevice) (h1 : PureC L Try.prog 102 [encStore false x.fStore] (encStore true x.fStore)) (h2 : PureC L Try.prog 86 [.sl false 3 (x.fBase.map (encNode false))] (.sl true 3 (x.fBase.map (encNode true)))) : PureC L Try.prog 59 [encDevice false x] (encDevice true x) := by
  refine PureC.of_body Try.func59 rfl rfl ?_
  rw [Try.ntmps59]
  refine AW.sreg [] fun K hK => ?_
  simp only [go_sem, Nat.reduceBEq, Nat.reduceAdd]
  refine hK _ _ (OpsW.alloc rfl rfl rfl rfl zer_117 fun K hK b2 hb2 => ?_)
  simp only [go_sem, Nat.reduceBEq, Nat.reduceAdd]
  refine hK _ _ (OpsW.nil ?_)
  refine AW.sreg [] fun K hK => ?_
  simp only [go_sem, Nat.reduceBEq, Nat.reduceAdd]
  refine hK _ _ (OpsW.alloc rfl rfl rfl rfl zer_117 fun K hK b3 hb3 => ?_)
  have hne : b2 ≠ b3 := hb3 b2 _ (by simp only [O, if_true]; rfl)
  have hne' : b3 ≠ b2 := fun e => hne e.symm
  simp only [go_sem, Nat.reduceBEq, Nat.reduceAdd]
  refine hK _ _ (OpsW.nil ?_)
  refine AW.sreg [] fun K hK => ?_
  simp only [go_sem, Nat.reduceBEq, Nat.reduceAdd, hne, hne']
  refine hK _ _ (OpsW.store rfl rfl rfl rfl rfl (by simp only [O, if_true]; rfl) ty_9 rfl (by rfl) (by rfl) (by simp) fun K hK => ?_)
  simp only [go_sem, Nat.reduceBEq, Nat.reduceAdd]
  refine hK _ _ (OpsW.nil ?_)
  refine AW.sreg [] fun K hK => ?_
  simp only [go_sem, Nat.reduceBEq, Nat.reduceAdd, hne, hne']
  refine ⟨_, CallOK.pure en102 rfl h1, ?_⟩
  try simp only [go_sem, Nat.reduceBEq, Nat.reduceAdd, hne, hne']
  refine hK _ _ (OpsW.store rfl rfl rfl rfl rfl (by simp only [O, if_true]; rfl) ty_115 rfl (by rfl) (by rfl) (by simp) fun K hK => ?_)
  simp only [go_sem, Nat.reduceBEq, Nat.reduceAdd]
  refine hK _ _ (OpsW.nil ?_)
  refine AW.sreg [] fun K hK => ?_
  simp only [go_sem, Nat.reduceBEq, Nat.reduceAdd, hne, hne']
  refine ⟨_, CallOK.pure en86 rfl h2, ?_⟩
  try simp only [go_sem, Nat.reduceBEq, Nat.reduceAdd, hne, hne']
  refine hK _ _ (OpsW.store rfl rfl rfl rfl rfl (by simp only [O, if_true]; rfl) ty_76 rfl (by rfl) (by rfl) (by simp) fun K hK => ?_)
  simp only [go_sem, Nat.reduceBEq, Nat.reduceAdd]
  refine hK _ _ (OpsW.nil ?_)
  refine AW.sreg [] fun K hK => ?_
  simp only [go_sem, Nat.reduceBEq, Nat.reduceAdd, hne, hne']
  refine hK _ _ (OpsW.store rfl rfl rfl rfl rfl (by simp only [O, if_true]; rfl) ty_4 rfl (by rfl) (by rfl) (by simp) fun K hK => ?_)
  simp only [go_sem, Nat.reduceBEq, Nat.reduceAdd]
  refine hK _ _ (OpsW.nil ?_)
  refine AW.sreg [] fun K hK => ?_
  simp only [go_sem, Nat.reduceBEq, Nat.reduceAdd, hne, hne']
  refine hK _ _ (OpsW.store rfl rfl rfl rfl rfl (by simp only [O, if_true]; rfl) ty_3 rfl (by rfl) (by rfl) (by simp) fun K hK => ?_)
  simp only [go_sem, Nat.reduceBEq, Nat.reduceAdd]
  refine hK _ _ (OpsW.nil ?_)
  refine AW.sreg [] fun K hK => ?_
  simp only [go_sem, Nat.reduceBEq, Nat.reduceAdd, hne, hne']
  refine hK _ _ (OpsW.store rfl rfl rfl rfl rfl (by simp only [O, if_true]; rfl) ty_4 rfl (by rfl) (by rfl) (by simp) fun K hK => ?_)
  simp only [go_sem, Nat.reduceBEq, Nat.reduceAdd]
  refine hK _ _ (OpsW.nil ?_)
  refine AW.sreg [24] fun K hK => ?_
  simp only [go_sem, Nat.reduceBEq, Nat.reduceAdd]
  refine hK _ _ (OpsW.take rfl rfl rfl rfl rfl (by simp only [O, if_true]; rfl) ty_117 rfl fun K hK => ?_)
  simp only [go_sem, Nat.reduceBEq, Nat.reduceAdd]
  refine hK _ _ (OpsW.store rfl rfl rfl rfl rfl (by simp only [O, hne', if_false, if_true]; rfl) ty_117 rfl (by rfl) (by rfl) (by simp) fun K hK => ?_)
  simp only [go_sem, Nat.reduceBEq, Nat.reduceAdd]
  refine hK _ _ (OpsW.nil (AW.ret ?_))
  simp only [go_sem]
  exact Ends.res rfl (ResOK.cell rfl (by simp only [O, if_true]; rfl) ty_117 rfl)

theorem toDevice_a (x : Dt.GDevice) : PureC lim Try.prog 59 [encDevice false x] (encDevice true x) := toDevice_c x (toStore_a x.fStore) (toNodeS_a x.fBase)
theorem toDevice_v (x : Dt.GDevice) : PureC lim Try.prog 59 [encDevice false x] (encDevice false x) := by
  have := (toDevice_a x).frz
  rwa [encDevice_frz] at this
theorem toDeviceS_a (l : List Dt.GDevice) : PureC lim Try.prog 26 [.sl false 15 (l.map (encDevice false))] (.sl true 15 (l.map (encDevice true))) := toDeviceS_c l fun x _ => toDevice_a x
theorem toDeviceS_v (l : List Dt.GDevice) : PureC lim Try.prog 26 [.sl false 15 (l.map (encDevice false))] (.sl false 15 (l.map (encDevice false))) := by
  have := (toDeviceS_a l).frz
  rwa [show (AV.sl true 15 (l.map (encDevice true))).frz = AV.sl false 15 (l.map (encDevice false)) by simp only [AV.frz, cond_true, encDeviceM_frz]] at this
theorem eqTaskS_c {L : Nat → Nat} (hL : ∀ z, L z ≤ 4611686018427387904) (l : List Dt.GTask) (hx : ∀ x, x ∈ l → PureC L Try.prog 100 [encTask false x, encTask false x] (.v (.bool true))) : PureC L Try.prog 49 [.sl false 3 (l.map (encTask false)), .sl false 3 (l.map (encTask false))] (.v (.bool true)) := by
  refine PureC.of_body Try.func49 rfl rfl ?_
  rw [Try.ntmps49]
  refine AW.len 0 rfl fun hlen => ?_
  have hlen' := Nat.le_trans hlen (hL 3)
  rw [List.length_map] at hlen'
  clear hlen
  refine AW.sreg [] fun K hK => ?_
  simp only [go_sem, Nat.reduceBEq, Nat.reduceAdd]
  refine hK _ _ (OpsW.nil ?_)
  refine AW.seq (AW.sreg [] fun K hK => ?_)
  simp only [go_sem, Nat.reduceBEq, Nat.reduceAdd]
  refine hK _ _ (OpsW.nil ?_)
  refine AW.cond rfl (fun h => absurd h (by simp)) (fun _ => AW.skip ?_)
  refine AW.seq (AW.sreg [] fun K hK => ?_)
  simp only [go_sem, Nat.reduceBEq, Nat.reduceAdd]
  refine hK _ _ (OpsW.nil ?_)
  refine AW.block (AW.loopK [0, 1, 5] (fun m t => ∃ k : Nat, t = [(0, .sl false 3 (l.map (encTask false))), (1, .sl false 3 (l.map (encTask false))), (5, .v (.int .i64 k))] ∧ m = l.length - k ∧ k ≤ l.length) l.length ⟨0, rfl, by simp, by simp⟩ ?_)
  rintro m t ⟨k, rfl, rfl, hk⟩
  refine AW.seq (AW.sreg [] fun K hK => ?_)
  simp only [go_sem, Nat.reduceBEq, Nat.reduceAdd]
  refine hK _ _ (OpsW.nil ?_)
  refine AW.cond rfl (fun h => ?_) (fun h => ?_)
  · have hlt : k < l.length := by simpa using h
    clear h
    refine AW.skip (AW.seq (AW.block (AW.sdrw [] fun K hK => ?_)))
    simp only [go_sem, Nat.reduceBEq, Nat.reduceAdd, hlt]
    refine ⟨_, CallOK.pure en100 rfl (by have := hx l[k] (List.getElem_mem hlt); simpa only [go_sem] using this), ?_⟩
    simp only [go_sem, Nat.reduceBEq, Nat.reduceAdd]
    refine hK _ _ ?_ ?_
    · kernel_rfl
    refine OpsW.nil ?_
    refine AW.cond rfl (fun h => absurd h (by simp)) (fun _ => ?_)
    refine AW.skip (AW.reg [] fun K hK => ?_)
    simp only [go_sem, Nat.reduceBEq, Nat.reduceAdd]
    refine hK _ _ (OpsW.nil ⟨rfl, l.length - (k + 1), by omega, k + 1, ?_, rfl, hlt⟩)
    simp only [go_sem, Nat.reduceBEq, Nat.reduceAdd]
    rw [wrap_i64 (by omega) (by omega)]; rfl
  · refine AW.exit ?_
    simp only [blockQ, thenQ, if_true]
    refine AW.sreg [] fun K hK => ?_
    simp only [go_sem, Nat.reduceBEq, Nat.reduceAdd]
    exact hK _ _ (OpsW.nil (AW.ret (Ends.one' rfl rfl)))

theorem eqTask_c {L : Nat → Nat} (x : Dt.GTask) (h1 : PureC L Try.prog 93 [.sl false 3 (x.fTree.map (encNode false)), .sl false 3 (x.fTree.map (encNode false))] (.v (.bool true))) : PureC L Try.prog 100 [encTask false x, encTask false x] (.v (.bool true)) := by
  refine PureC.of_body Try.func100 rfl rfl ?_
  rw [Try.ntmps100]
  refine AW.sreg [] fun K hK => ?_
  simp only [go_sem, Nat.reduceBEq, Nat.reduceAdd]
  refine hK _ _ (OpsW.nil ?_)
  refine AW.seq (AW.sreg [] fun K hK => ?_)
  simp only [go_sem, Nat.reduceBEq, Nat.reduceAdd]
  refine hK _ _ (OpsW.nil ?_)
  refine AW.cond rfl (fun h => absurd h (by simp)) (fun _ => AW.skip ?_)
  refine AW.seq (AW.sreg [] fun K hK => ?_)
  simp only [go_sem, Nat.reduceBEq, Nat.reduceAdd]
  refine ⟨_, CallOK.pure en93 rfl h1, ?_⟩
  simp only [go_sem, Nat.reduceBEq, Nat.reduceAdd]
  refine hK _ _ (OpsW.nil ?_)
  refine AW.cond rfl (fun h => absurd h (by simp)) (fun _ => AW.skip ?_)
  refine AW.seq (AW.sreg [] fun K hK => ?_)
  simp only [go_sem, Nat.reduceBEq, Nat.reduceAdd]
  refine hK _ _ (OpsW.nil ?_)
  refine AW.cond rfl (fun h => absurd h (by simp)) (fun _ => AW.skip ?_)
  refine AW.sreg [] fun K hK => ?_
  simp only [go_sem, Nat.reduceBEq, Nat.reduceAdd]
  exact hK _ _ (OpsW.nil (AW.ret (Ends.one' rfl rfl)))

theorem eqTask_a {L : Nat → Nat} (hL : ∀ z, L z ≤ 4611686018427387904) (x : Dt.GTask) : PureC L Try.prog 100 [encTask false x, encTask false x] (.v (.bool true)) := eqTask_c x (eqNodeS_a hL x.fTree)
theorem eqTaskS_a {L : Nat → Nat} (hL : ∀ z, L z ≤ 4611686018427387904) (l : List Dt.GTask) : PureC L Try.prog 49 [.sl false 3 (l.map (encTask false)), .sl false 3 (l.map (encTask false))] (.v (.bool true)) := eqTaskS_c hL l fun x _ => eqTask_a hL x
theorem szTaskS_c {L : Nat → Nat} (hL : ∀ z, L z ≤ 4611686018427387904) (l : List Dt.GTask) (hx : ∀ x, x ∈ l → ∀ r : Int, 0 ≤ r → r ≤ 1048576 → PureC L Try.prog 98 [encTask false x, .v (.int .i64 r)] (.v (.int .i64 (szTask x r))))
    (left : Int) (h0 : 0 ≤ left) (h1 : left ≤ 1048576) : PureC L Try.prog 46 [.sl false 3 (l.map (encTask false)), .v (.int .i64 left)] (.v (.int .i64 (szSl szTask l left))) := by
  refine PureC.of_body Try.func46 rfl rfl ?_
  rw [Try.ntmps46]
  refine AW.len 0 rfl fun hlen => ?_
  have hlen' := Nat.le_trans hlen (hL 3)
  rw [List.length_map] at hlen'
  clear hlen
  refine AW.sreg [] fun K hK => ?_
  simp only [go_sem, Nat.reduceBEq, Nat.reduceAdd]
  refine hK _ _ (OpsW.nil ?_)
  refine AW.sreg [] fun K hK => ?_
  simp only [go_sem, Nat.reduceBEq, Nat.reduceAdd]
  rw [wrap_i64 (by omega) (by omega)]
  refine hK _ _ (OpsW.nil ?_)
  refine AW.seq (AW.sreg [] fun K hK => ?_)
  simp only [go_sem, Nat.reduceBEq, Nat.reduceAdd]
  refine hK _ _ (OpsW.nil ?_)
  refine AW.cond rfl (fun h => ?_) (fun h => ?_)
  · have h2 : left - (l.length : Int) < 0 := by simpa using h
    refine AW.sreg [] fun K hK => ?_
    simp only [go_sem, Nat.reduceBEq, Nat.reduceAdd]
    refine hK _ _ (OpsW.nil (AW.ret (Ends.one' rfl ?_)))
    rw [szSl, thn, if_pos h2]; rfl
  have h2 : ¬ (left - (l.length : Int) < 0) := by simpa using h
  clear h
  refine AW.skip (AW.seq (AW.sreg [] fun K hK => ?_))
  simp only [go_sem, Nat.reduceBEq, Nat.reduceAdd]
  refine hK _ _ (OpsW.nil ?_)
  refine AW.block (AW.loopK [0, 1, 5] (fun m t => ∃ (k : Nat) (r : Int), t = [(0, .sl false 3 (l.map (encTask false))), (1, .v (.int .i64 r)), (5, .v (.int .i64 k))] ∧ m = l.length - k ∧ k ≤ l.length ∧ r = szGo szTask (l.take k) (left - l.length) ∧ 0 ≤ r ∧ r ≤ 1048576) l.length ⟨0, _, rfl, by simp, by simp, by simp [szGo], by omega, by omega⟩ ?_)
  rintro m t ⟨k, r, rfl, rfl, hk, hr, hr0, hr1⟩
  refine AW.seq (AW.sreg [] fun K hK => ?_)
  simp only [go_sem, Nat.reduceBEq, Nat.reduceAdd]
  refine hK _ _ (OpsW.nil ?_)
  refine AW.cond rfl (fun h => ?_) (fun h => ?_)
  · have hlt : k < l.length := by simpa using h
    clear h
    have hsn : szGo szTask (l.take (k + 1)) (left - l.length) = thn (szTask l[k] r) id := by
      rw [List.take_succ_eq_append_getElem hlt, szGo_snoc _ _ _ _ (by rw [← hr]; exact hr0), ← hr]
    have hle := szTask_le l[k] r hr0
    refine AW.skip (AW.seq (AW.block (AW.sreg [] fun K hK => ?_)))
    simp only [go_sem, Nat.reduceBEq, Nat.reduceAdd, hlt]
    refine ⟨_, CallOK.pure en98 rfl (by have := hx l[k] (List.getElem_mem hlt) r hr0 hr1; simpa only [go_sem] using this), ?_⟩
    simp only [go_sem, Nat.reduceBEq, Nat.reduceAdd]
    refine hK _ _ (OpsW.nil ?_)
    refine AW.sreg [] fun K hK => ?_
    simp only [go_sem, Nat.reduceBEq, Nat.reduceAdd]
    refine hK _ _ (OpsW.nil ?_)
    refine AW.cond rfl (fun h => ?_) (fun h => ?_)
    · have h3 : szTask l[k] r < 0 := by simpa using h
      refine AW.sreg [] fun K hK => ?_
      simp only [go_sem, Nat.reduceBEq, Nat.reduceAdd]
      refine hK _ _ (OpsW.nil (AW.ret (Ends.one' rfl ?_)))
      rw [thn, if_pos h3] at hsn
      have := szGo_neg szTask (l.take (k + 1)) (l.drop (k + 1)) _ hsn (List.ne_nil_of_length_pos (by rw [List.length_take]; omega))
      rw [List.take_append_drop] at this
      rw [szSl, thn, if_neg h2, this]; rfl
    · have h3 : ¬ (szTask l[k] r < 0) := by simpa using h
      clear h
      rw [thn, if_neg h3] at hsn
      refine AW.skip (AW.reg [] fun K hK => ?_)
      simp only [go_sem, Nat.reduceBEq, Nat.reduceAdd]
      refine hK _ _ (OpsW.nil ⟨rfl, l.length - (k + 1), by omega, k + 1, _, ?_, rfl, hlt, hsn.symm, by simp only [id]; omega, by simp only [id]; omega⟩)
      simp only [go_sem, Nat.reduceBEq, Nat.reduceAdd]
      rw [wrap_i64 (by omega) (by omega)]; rfl
  · have hge : k = l.length := by have := h; simp at this; omega
    subst hge
    refine AW.exit ?_
    simp only [blockQ, thenQ, if_true]
    refine AW.sreg [] fun K hK => ?_
    simp only [go_sem, Nat.reduceBEq, Nat.reduceAdd]
    refine hK _ _ (OpsW.nil (AW.ret (Ends.one' rfl ?_)))
    rw [List.take_of_length_le (Nat.le_refl _)] at hr
    rw [szSl, thn, if_neg h2, ← hr]; rfl

theorem szTask_c {L : Nat → Nat} (x : Dt.GTask) (h1 : ∀ r : Int, 0 ≤ r → r ≤ 1048576 → PureC L Try.prog 79 [.sl false 3 (x.fTree.map (encNode false)), .v (.int .i64 r)] (.v (.int .i64 (szSl szNode x.fTree r)))) (left : Int) (g0 : 0 ≤ left) (g1 : left ≤ 1048576) : PureC L Try.prog 98 [encTask false x, .v (.int .i64 left)] (.v (.int .i64 (szTask x left))) := by
  refine PureC.of_body Try.func98 rfl rfl ?_
  rw [Try.ntmps98]
  simp only [go_sem]
  refine AW.aggStr 0 rfl (s := x.fDevice) (by simp) fun b0 => ?_
  refine AW.sreg [] fun K hK => ?_
  simp only [go_sem, Nat.reduceBEq, Nat.reduceAdd]
  refine hK _ _ (OpsW.nil ?_)
  refine AW.sreg [] fun K hK => ?_
  simp only [go_sem, Nat.reduceBEq, Nat.reduceAdd]
  rw [wrap_i64 (by omega) (by omega)]
  refine hK _ _ (OpsW.nil ?_)
  refine AW.seq (AW.sreg [] fun K hK => ?_)
  simp only [go_sem, Nat.reduceBEq, Nat.reduceAdd]
  refine hK _ _ (OpsW.nil ?_)
  refine AW.cond rfl (fun h => ?_) (fun h => ?_)
  · have q0 : (left - (x.fDevice.length : Int)) < 0 := by simpa using h
    refine AW.sreg [] fun K hK => ?_
    simp only [go_sem, Nat.reduceBEq, Nat.reduceAdd]
    refine hK _ _ (OpsW.nil (AW.ret (Ends.one' rfl ?_)))
    have p0 : (szStr x.fDevice left) < 0 := q0
    rw [szTask, thn_neg p0]; rfl
  have q0 : ¬ ((left - (x.fDevice.length : Int)) < 0) := by simpa using h
  have p0 : ¬ ((szStr x.fDevice left) < 0) := q0
  clear h
  refine AW.skip ?_
  refine AW.sreg [] fun K hK => ?_
  simp only [go_sem, Nat.reduceBEq, Nat.reduceAdd]
  refine ⟨_, CallOK.pure en79 rfl (h1 (left - (x.fDevice.length : Int)) (by omega) (by omega)), ?_⟩
  simp only [go_sem, Nat.reduceBEq, Nat.reduceAdd]
  have e1 := szSl_le szNode (fun y r hr => szNode_le y r hr) x.fTree (left - (x.fDevice.length : Int)) (by omega)
  refine hK _ _ (OpsW.nil ?_)
  refine AW.seq (AW.sreg [] fun K hK => ?_)
  simp only [go_sem, Nat.reduceBEq, Nat.reduceAdd]
  refine hK _ _ (OpsW.nil ?_)
  refine AW.cond rfl (fun h => ?_) (fun h => ?_)
  · have q1 : (szSl szNode x.fTree (left - (x.fDevice.length : Int))) < 0 := by simpa using h
    refine AW.sreg [] fun K hK => ?_
    simp only [go_sem, Nat.reduceBEq, Nat.reduceAdd]
    refine hK _ _ (OpsW.nil (AW.ret (Ends.one' rfl ?_)))
    have p1 : (szSl szNode x.fTree (szStr x.fDevice left)) < 0 := q1
    rw [szTask, thn_pos p0, thn_neg p1]; rfl
  have q1 : ¬ ((szSl szNode x.fTree (left - (x.fDevice.length : Int))) < 0) := by simpa using h
  have p1 : ¬ ((szSl szNode x.fTree (szStr x.fDevice left)) < 0) := q1
  clear h
  refine AW.skip ?_
  refine AW.sreg [] fun K hK => ?_
  simp only [go_sem, Nat.reduceBEq, Nat.reduceAdd]
  refine hK _ _ (OpsW.nil (AW.ret (Ends.one' rfl ?_)))
  rw [szTask, thn_pos p0, thn_pos p1]; rfl

theorem szTask_a {L : Nat → Nat} (hL : ∀ z, L z ≤ 4611686018427387904) (x : Dt.GTask) (r : Int) (r0 : 0 ≤ r) (r1 : r ≤ 1048576) : PureC L Try.prog 98 [encTask false x, .v (.int .i64 r)] (.v (.int .i64 (szTask x r))) := szTask_c x (szNodeS_a hL x.fTree) r r0 r1
theorem szTaskS_a {L : Nat → Nat} (hL : ∀ z, L z ≤ 4611686018427387904) (l : List Dt.GTask) (left : Int) (h0 : 0 ≤ left) (h1 : left ≤ 1048576) : PureC L Try.prog 46 [.sl false 3 (l.map (encTask false)), .v (.int .i64 left)] (.v (.int .i64 (szSl szTask l left))) := szTaskS_c hL l (fun x _ => szTask_a hL x) left h0 h1
theorem toTaskS_c (l : List Dt.GTask) (hx : ∀ x, x ∈ l → PureC lim Try.prog 99 [encTask false x] (encTask true x)) : PureC lim Try.prog 48 [.sl false 3 (l.map (encTask false))] (.sl true 3 (l.map (encTask true))) := by
  refine PureC.of_body Try.func48 rfl rfl ?_
  rw [Try.ntmps48]
  refine AW.len 0 rfl fun hlen => ?_
  rw [List.length_map] at hlen
  have hl : l.length ≤ 2147483648 := hlen
  refine AW.sreg [] fun K hK => ?_
  simp only [go_sem, Nat.reduceBEq, Nat.reduceAdd]
  refine hK _ _ (OpsW.nil ?_)
  refine AW.sreg [] fun K hK => ?_
  simp only [go_sem, Nat.reduceBEq, Nat.reduceAdd]
  refine hK _ _ (OpsW.mk rfl rfl rfl rfl elm_33 zer_158 rfl rfl rfl hlen (by omega) (fun K hK b hb => ?_) (by omega))
  simp only [go_sem, Nat.reduceBEq, Nat.reduceAdd]
  refine hK _ _ (OpsW.go [] fun K hK => ?_)
  simp only [go_sem, Nat.reduceBEq, Nat.reduceAdd]
  refine hK _ _ (OpsW.nil ?_)
  refine AW.seq (AW.sreg [] fun K hK => ?_)
  simp only [go_sem, Nat.reduceBEq, Nat.reduceAdd]
  refine hK _ _ (OpsW.nil ?_)
  refine AW.block (AW.loopO [0, 3, 4] (fun m t o => ∃ k b : Nat, t = [(0, .sl false 3 (l.map (encTask false))), (3, .arr b 0 l.length 3), (4, .v (.int .i64 k))] ∧ o = [(b, some (mkC (encTask true) [.string ⟨([] : List UInt8).toArray⟩, .slice none 0 0, .int .i64 0] l k))] ∧ m = l.length - k ∧ k ≤ l.length) l.length [(b, some (mkC (encTask true) [.string ⟨([] : List UInt8).toArray⟩, .slice none 0 0, .int .i64 0] l 0))] (by rw [mkC_zero]; exact fun _ _ h => h) ⟨0, b, rfl, rfl, by simp, by simp⟩ ?_)
  rintro m t o ⟨k, b, rfl, rfl, rfl, hk⟩
  have hC := mkC_len (encTask true) [.string ⟨([] : List UInt8).toArray⟩, .slice none 0 0, .int .i64 0] 3 (fun x => by first | rfl | simp only [go_sem]) rfl l k hk
  refine AW.seq (AW.sreg [] fun K hK => ?_)
  simp only [go_sem, Nat.reduceBEq, Nat.reduceAdd]
  refine hK _ _ (OpsW.nil ?_)
  refine AW.cond rfl (fun h => ?_) (fun h => ?_)
  · have hlt : k < l.length := by simpa using h
    clear h
    have hst := mkC_step (encTask true) [.string ⟨([] : List UInt8).toArray⟩, .slice none 0 0, .int .i64 0] 3 (fun x => by first | rfl | simp only [go_sem]) rfl l k hlt
    refine AW.skip (AW.seq (AW.block (AW.reg [] fun K hK => ?_)))
    simp only [go_sem, Nat.reduceBEq, Nat.reduceAdd, hlt]
    refine ⟨_, CallOK.pure en99 rfl (by have := hx l[k] (List.getElem_mem hlt); simpa only [go_sem] using this), ?_⟩
    try simp only [go_sem, Nat.reduceBEq, Nat.reduceAdd, hlt]
    refine hK _ _ ?_
    refine OpsW.store rfl rfl rfl rfl rfl (by simp only [O, if_true]; rfl) ty_158 rfl (by rfl) (by rfl) (by rw [hC]; omega) fun K hK => ?_
    simp only [go_sem, Nat.reduceBEq, Nat.reduceAdd]
    refine hK _ _ (OpsW.nil ?_)
    simp only [blockQ, thenQ]
    refine AW.reg [] fun K hK => ?_
    simp only [go_sem, Nat.reduceBEq, Nat.reduceAdd]
    refine hK _ _ (OpsW.nil ⟨rfl, l.length - (k + 1), [(b, some (mkC (encTask true) [.string ⟨([] : List UInt8).toArray⟩, .slice none 0 0, .int .i64 0] l (k + 1)))], by omega, ⟨k + 1, b, ?_, rfl, rfl, hlt⟩, ?_⟩)
    · simp only [go_sem, Nat.reduceBEq, Nat.reduceAdd]
      rw [wrap_i64 (by omega) (by omega)]; rfl
    · intro q cs hq
      simp only [O] at hq ⊢
      split at hq
      · rename_i e; rw [if_pos e, ← hq, ← hst]; first | rfl | (simp only [go_sem]; done) | simp only [go_sem, hlt]
      · cases hq
  · have hge : k = l.length := by have := h; simp at this; omega
    subst hge
    refine AW.exit ?_
    simp only [blockQ, thenQ, if_true]
    refine AW.sreg [] fun K hK => ?_
    simp only [go_sem, Nat.reduceBEq, Nat.reduceAdd]
    refine hK _ _ (OpsW.nil (AW.ret ?_))
    refine Ends.res rfl (ResOK.pack rfl (by simp only [O, if_true]; rfl) (by simp) ?_ ?_)
    · rw [mkC_end, List.drop_zero, List.take_of_length_le (by rw [mkC_end] at hC; omega)]
    · intro z hz
      obtain ⟨y, _, rfl⟩ := List.mem_map.1 hz
      first | rfl | simp only [go_sem]

theorem toTask_c {L : Nat → Nat} (x : Dt.GTask) (h1 : PureC L Try.prog 86 [.sl false 3 (x.fTree.map (encNode false))] (.sl true 3 (x.fTree.map (encNode true)))) : PureC L Try.prog 99 [encTask false x] (encTask true x) := by
  refine PureC.of_body Try.func99 rfl rfl ?_
  rw [Try.ntmps99]
  refine AW.sreg [] fun K hK => ?_
  simp only [go_sem, Nat.reduceBEq, Nat.reduceAdd]
  refine hK _ _ (OpsW.alloc rfl rfl rfl rfl zer_158 fun K hK b2 hb2 => ?_)
  simp only [go_sem, Nat.reduceBEq, Nat.reduceAdd]
  refine hK _ _ (OpsW.nil ?_)
  refine AW.sreg [] fun K hK => ?_
  simp only [go_sem, Nat.reduceBEq, Nat.reduceAdd]
  refine hK _ _ (OpsW.alloc rfl rfl rfl rfl zer_158 fun K hK b3 hb3 => ?_)
  have hne : b2 ≠ b3 := hb3 b2 _ (by simp only [O, if_true]; rfl)
  have hne' : b3 ≠ b2 := fun e => hne e.symm
  simp only [go_sem, Nat.reduceBEq, Nat.reduceAdd]
  refine hK _ _ (OpsW.nil ?_)
  refine AW.sreg [] fun K hK => ?_
  simp only [go_sem, Nat.reduceBEq, Nat.reduceAdd, hne, hne']
  refine hK _ _ (OpsW.store rfl rfl rfl rfl rfl (by simp only [O, if_true]; rfl) ty_9 rfl (by rfl) (by rfl) (by simp) fun K hK => ?_)
  simp only [go_sem, Nat.reduceBEq, Nat.reduceAdd]
  refine hK _ _ (OpsW.nil ?_)
  refine AW.sreg [] fun K hK => ?_
  simp only [go_sem, Nat.reduceBEq, Nat.reduceAdd, hne, hne']
  refine ⟨_, CallOK.pure en86 rfl h1, ?_⟩
  try simp only [go_sem, Nat.reduceBEq, Nat.reduceAdd, hne, hne']
  refine hK _ _ (OpsW.store rfl rfl rfl rfl rfl (by simp only [O, if_true]; rfl) ty_76 rfl (by rfl) (by rfl) (by simp) fun K hK => ?_)
  simp only [go_sem, Nat.reduceBEq, Nat.reduceAdd]
  refine hK _ _ (OpsW.nil ?_)
  refine AW.sreg [] fun K hK => ?_
  simp only [go_sem, Nat.reduceBEq, Nat.reduceAdd, hne, hne']
  refine hK _ _ (OpsW.store rfl rfl rfl rfl rfl (by simp only [O, if_true]; rfl) ty_3 rfl (by rfl) (by rfl) (by simp) fun K hK => ?_)
  simp only [go_sem, Nat.reduceBEq, Nat.reduceAdd]
  refine hK _ _ (OpsW.nil ?_)
  refine AW.sreg [14] fun K hK => ?_
  simp only [go_sem, Nat.reduceBEq, Nat.reduceAdd]
  refine hK _ _ (OpsW.take rfl rfl rfl rfl rfl (by simp only [O, if_true]; rfl) ty_158 rfl fun K hK => ?_)
  simp only [go_sem, Nat.reduceBEq, Nat.reduceAdd]
  refine hK _ _ (OpsW.store rfl rfl rfl rfl rfl (by simp only [O, hne', if_false, if_true]; rfl) ty_158 rfl (by rfl) (by rfl) (by simp) fun K hK => ?_)
  simp only [go_sem, Nat.reduceBEq, Nat.reduceAdd]
  refine hK _ _ (OpsW.nil (AW.ret ?_))
  simp only [go_sem]
  exact Ends.res rfl (ResOK.cell rfl (by simp only [O, if_true]; rfl) ty_158 rfl)

theorem toTask_a (x : Dt.GTask) : PureC lim Try.prog 99 [encTask false x] (encTask true x) := toTask_c x (toNodeS_a x.fTree)
theorem toTask_v (x : Dt.GTask) : PureC lim Try.prog 99 [encTask false x] (encTask false x) := by
  have := (toTask_a x).frz
  rwa [encTask_frz] at this
theorem toTaskS_a (l : List Dt.GTask) : PureC lim Try.prog 48 [.sl false 3 (l.map (encTask false))] (.sl true 3 (l.map (encTask true))) := toTaskS_c l fun x _ => toTask_a x
theorem toTaskS_v (l : List Dt.GTask) : PureC lim Try.prog 48 [.sl false 3 (l.map (encTask false))] (.sl false 3 (l.map (encTask false))) := by
  have := (toTaskS_a l).frz
  rwa [show (AV.sl true 3 (l.map (encTask true))).frz = AV.sl false 3 (l.map (encTask false)) by simp only [AV.frz, cond_true, encTaskM_frz]] at this
theorem eqCampaign_c {L : Nat → Nat} (x : Dt.GCampaign) (h1 : PureC L Try.prog 49 [.sl false 3 (x.fTasks.map (encTask false)), .sl false 3 (x.fTasks.map (encTask false))] (.v (.bool true))) : PureC L Try.prog 18 [encCampaign false x, encCampaign false x] (.v (.bool true)) := by
  refine PureC.of_body Try.func18 rfl rfl ?_
  rw [Try.ntmps18]
  refine AW.sreg [] fun K hK => ?_
  simp only [go_sem, Nat.reduceBEq, Nat.reduceAdd]
  refine hK _ _ (OpsW.nil ?_)
  refine AW.seq (AW.sreg [] fun K hK => ?_)
  simp only [go_sem, Nat.reduceBEq, Nat.reduceAdd]
  refine hK _ _ (OpsW.nil ?_)
  refine AW.cond rfl (fun h => absurd h (by simp)) (fun _ => AW.skip ?_)
  refine AW.seq (AW.sreg [] fun K hK => ?_)
  simp only [go_sem, Nat.reduceBEq, Nat.reduceAdd]
  refine ⟨_, CallOK.pure en49 rfl h1, ?_⟩
  simp only [go_sem, Nat.reduceBEq, Nat.reduceAdd]
  refine hK _ _ (OpsW.nil ?_)
  refine AW.cond rfl (fun h => absurd h (by simp)) (fun _ => AW.skip ?_)
  refine AW.sreg [] fun K hK => ?_
  simp only [go_sem, Nat.reduceBEq, Nat.reduceAdd]
  exact hK _ _ (OpsW.nil (AW.ret (Ends.one' rfl rfl)))

theorem eqCampaign_a {L : Nat → Nat} (hL : ∀ z, L z ≤ 4611686018427387904) (x : Dt.GCampaign) : PureC L Try.prog 18 [encCampaign false x, encCampaign false x] (.v (.bool true)) := eqCampaign_c x (eqTaskS_a hL x.fTasks)
theorem szCampaign_c {L : Nat → Nat} (x : Dt.GCampaign) (h1 : ∀ r : Int, 0 ≤ r → r ≤ 1048576 → PureC L Try.prog 46 [.sl false 3 (x.fTasks.map (encTask false)), .v (.int .i64 r)] (.v (.int .i64 (szSl szTask x.fTasks r)))) (left : Int) (g0 : 0 ≤ left) (g1 : left ≤ 1048576) : PureC L Try.prog 14 [encCampaign false x, .v (.int .i64 left)] (.v (.int .i64 (szCampaign x left))) := by
  refine PureC.of_body Try.func14 rfl rfl ?_
  rw [Try.ntmps14]
  refine AW.sreg [] fun K hK => ?_
  simp only [go_sem, Nat.reduceBEq, Nat.reduceAdd]
  refine hK _ _ (OpsW.nil ?_)
  refine AW.sreg [] fun K hK => ?_
  simp only [go_sem, Nat.reduceBEq, Nat.reduceAdd]
  refine ⟨_, CallOK.pure en46 rfl (h1 left (by omega) (by omega)), ?_⟩
  simp only [go_sem, Nat.reduceBEq, Nat.reduceAdd]
  have e1 := szSl_le szTask (fun y r hr => szTask_le y r hr) x.fTasks left (by omega)
  refine hK _ _ (OpsW.nil ?_)
  refine AW.seq (AW.sreg [] fun K hK => ?_)
  simp only [go_sem, Nat.reduceBEq, Nat.reduceAdd]
  refine hK _ _ (OpsW.nil ?_)
  refine AW.cond rfl (fun h => ?_) (fun h => ?_)
  · have q1 : (szSl szTask x.fTasks left) < 0 := by simpa using h
    refine AW.sreg [] fun K hK => ?_
    simp only [go_sem, Nat.reduceBEq, Nat.reduceAdd]
    refine hK _ _ (OpsW.nil (AW.ret (Ends.one' rfl ?_)))
    have p1 : (szSl szTask x.fTasks left) < 0 := q1
    rw [szCampaign, thn_neg p1]; rfl
  have q1 : ¬ ((szSl szTask x.fTasks left) < 0) := by simpa using h
  have p1 : ¬ ((szSl szTask x.fTasks left) < 0) := q1
  clear h
  refine AW.skip ?_
  refine AW.sreg [] fun K hK => ?_
  simp only [go_sem, Nat.reduceBEq, Nat.reduceAdd]
  refine hK _ _ (OpsW.nil (AW.ret (Ends.one' rfl ?_)))
  rw [szCampaign, thn_pos p1]; rfl

theorem szCampaign_a {L : Nat → Nat} (hL : ∀ z, L z ≤ 4611686018427387904) (x : Dt.GCampaign) (r : Int) (r0 : 0 ≤ r) (r1 : r ≤ 1048576) : PureC L Try.prog 14 [encCampaign false x, .v (.int .i64 r)] (.v (.int .i64 (szCampaign x r))) := szCampaign_c x (szTaskS_a hL x.fTasks) r r0 r1
theorem toCampaign_c {L : Nat → Nat} (x : Dt.GCampaign) (h1 : PureC L Try.prog 48 [.sl false 3 (x.fTasks.map (encTask false))] (.sl true 3 (x.fTasks.map (encTask true)))) : PureC L Try.prog 16 [encCampaign false x] (encCampaign true x) := by
  refine PureC.of_body Try.func16 rfl rfl ?_
  rw [Try.ntmps16]
  refine AW.sreg [] fun K hK => ?_
  simp only [go_sem, Nat.reduceBEq, Nat.reduceAdd]
  refine hK _ _ (OpsW.alloc rfl rfl rfl rfl zer_35 fun K hK b2 hb2 => ?_)
  simp only [go_sem, Nat.reduceBEq, Nat.reduceAdd]
  refine hK _ _ (OpsW.nil ?_)
  refine AW.sreg [] fun K hK => ?_
  simp only [go_sem, Nat.reduceBEq, Nat.reduceAdd]
  refine hK _ _ (OpsW.alloc rfl rfl rfl rfl zer_35 fun K hK b3 hb3 => ?_)
  have hne : b2 ≠ b3 := hb3 b2 _ (by simp only [O, if_true]; rfl)
  have hne' : b3 ≠ b2 := fun e => hne e.symm
  simp only [go_sem, Nat.reduceBEq, Nat.reduceAdd]
  refine hK _ _ (OpsW.nil ?_)
  refine AW.sreg [] fun K hK => ?_
  simp only [go_sem, Nat.reduceBEq, Nat.reduceAdd, hne, hne']
  refine hK _ _ (OpsW.store rfl rfl rfl rfl rfl (by simp only [O, if_true]; rfl) ty_3 rfl (by rfl) (by rfl) (by simp) fun K hK => ?_)
  simp only [go_sem, Nat.reduceBEq, Nat.reduceAdd]
  refine hK _ _ (OpsW.nil ?_)
  refine AW.sreg [] fun K hK => ?_
  simp only [go_sem, Nat.reduceBEq, Nat.reduceAdd, hne, hne']
  refine ⟨_, CallOK.pure en48 rfl h1, ?_⟩
  try simp only [go_sem, Nat.reduceBEq, Nat.reduceAdd, hne, hne']
  refine hK _ _ (OpsW.store rfl rfl rfl rfl rfl (by simp only [O, if_true]; rfl) ty_33 rfl (by rfl) (by rfl) (by simp) fun K hK => ?_)
  simp only [go_sem, Nat.reduceBEq, Nat.reduceAdd]
  refine hK _ _ (OpsW.nil ?_)
  refine AW.sreg [11] fun K hK => ?_
  simp only [go_sem, Nat.reduceBEq, Nat.reduceAdd]
  refine hK _ _ (OpsW.take rfl rfl rfl rfl rfl (by simp only [O, if_true]; rfl) ty_35 rfl fun K hK => ?_)
  simp only [go_sem, Nat.reduceBEq, Nat.reduceAdd]
  refine hK _ _ (OpsW.store rfl rfl rfl rfl rfl (by simp only [O, hne', if_false, if_true]; rfl) ty_35 rfl (by rfl) (by rfl) (by simp) fun K hK => ?_)
  simp only [go_sem, Nat.reduceBEq, Nat.reduceAdd]
  refine hK _ _ (OpsW.nil (AW.ret ?_))
  simp only [go_sem]
  exact Ends.res rfl (ResOK.cell rfl (by simp only [O, if_true]; rfl) ty_35 rfl)

theorem toCampaign_a (x : Dt.GCampaign) : PureC lim Try.prog 16 [encCampaign false x] (encCampaign true x) := toCampaign_c x (toTaskS_a x.fTasks)
theorem toCampaign_v (x : Dt.GCampaign) : PureC lim Try.prog 16 [encCampaign false x] (encCampaign false x) := by
  have := (toCampaign_a x).frz
  rwa [encCampaign_frz] at this
end Go.Proofs.Ytkdchlggdcmkbaa
