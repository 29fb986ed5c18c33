/-
  The helper functions of the laws: part 2.
-/
import Derived.Test.YtkdchlggdcmkbaaFam2a
set_option linter.unusedSimpArgs false
set_option linter.unusedVariables false
namespace Go.Proofs.Ytkdchlggdcmkbaa
open Go.Ab Go.Dt
theorem toSchema_c {L : Nat → Nat} (x : Dt.GSchema) (h2 : PureC L Try.prog 154 [encType false x.fType] (encType true x.fType)) (h3 : PureC L Try.prog 149 [.sl false 1 (x.fKeys.map AV.str)] (.sl true 1 (x.fKeys.map AV.str))) (h4 : PureC L Try.prog 149 [.sl false 1 (x.fUnique.map AV.str)] (.sl true 1 (x.fUnique.map AV.str))) (h12 : PureC L Try.prog 171 [.sl false 7 (x.fWhen.map (encExpr false))] (.sl true 7 (x.fWhen.map (encExpr true)))) (h13 : PureC L Try.prog 171 [.sl false 7 (x.fMust.map (encExpr false))] (.sl true 7 (x.fMust.map (encExpr true)))) (h14 : PureC L Try.prog 142 [.sl false 19 (x.fKids.map (encSchema false))] (.sl true 19 (x.fKids.map (encSchema true)))) : PureC L Try.prog 161 [encSchema false x] (encSchema true x) := by
  refine PureC.of_body Try.func161 rfl rfl ?_
  rw [Try.ntmps161]
  refine AW.sreg [] fun K hK => ?_
  simp only [go_sem, Nat.reduceBEq, Nat.reduceAdd]
  refine hK _ _ (OpsW.alloc rfl rfl rfl rfl zer_226 fun K hK b2 hb2 => ?_)
  simp only [go_sem, Nat.reduceBEq, Nat.reduceAdd]
  refine hK _ _ (OpsW.nil ?_)
  refine AW.sreg [] fun K hK => ?_
  simp only [go_sem, Nat.reduceBEq, Nat.reduceAdd]
  refine hK _ _ (OpsW.alloc rfl rfl rfl rfl zer_226 fun K hK b3 hb3 => ?_)
  have hne : b2 ≠ b3 := hb3 b2 _ (by simp only [O, if_true]; rfl)
  have hne' : b3 ≠ b2 := fun e => hne e.symm
  simp only [go_sem, Nat.reduceBEq, Nat.reduceAdd]
  refine hK _ _ (OpsW.nil ?_)
  refine AW.sreg [] fun K hK => ?_
  simp only [go_sem, Nat.reduceBEq, Nat.reduceAdd, hne, hne']
  refine hK _ _ (OpsW.store rfl rfl rfl rfl rfl (by simp only [O, if_true]; rfl) ty_3 rfl (by rfl) (by rfl) (by simp) fun K hK => ?_)
  simp only [go_sem, Nat.reduceBEq, Nat.reduceAdd]
  refine hK _ _ (OpsW.nil ?_)
  refine AW.sreg [] fun K hK => ?_
  simp only [go_sem, Nat.reduceBEq, Nat.reduceAdd, hne, hne']
  refine hK _ _ (OpsW.store rfl rfl rfl rfl rfl (by simp only [O, if_true]; rfl) ty_9 rfl (by rfl) (by rfl) (by simp) fun K hK => ?_)
  simp only [go_sem, Nat.reduceBEq, Nat.reduceAdd]
  refine hK _ _ (OpsW.nil ?_)
  refine AW.sreg [] fun K hK => ?_
  simp only [go_sem, Nat.reduceBEq, Nat.reduceAdd, hne, hne']
  refine ⟨_, CallOK.pure en154 rfl h2, ?_⟩
  try simp only [go_sem, Nat.reduceBEq, Nat.reduceAdd, hne, hne']
  refine hK _ _ (OpsW.store rfl rfl rfl rfl rfl (by simp only [O, if_true]; rfl) ty_140 rfl (by rfl) (by rfl) (by simp) fun K hK => ?_)
  simp only [go_sem, Nat.reduceBEq, Nat.reduceAdd]
  refine hK _ _ (OpsW.nil ?_)
  refine AW.sreg [] fun K hK => ?_
  simp only [go_sem, Nat.reduceBEq, Nat.reduceAdd, hne, hne']
  refine ⟨_, CallOK.pure en149 rfl h3, ?_⟩
  try simp only [go_sem, Nat.reduceBEq, Nat.reduceAdd, hne, hne']
  refine hK _ _ (OpsW.store rfl rfl rfl rfl rfl (by simp only [O, if_true]; rfl) ty_22 rfl (by rfl) (by rfl) (by simp) fun K hK => ?_)
  simp only [go_sem, Nat.reduceBEq, Nat.reduceAdd]
  refine hK _ _ (OpsW.nil ?_)
  refine AW.sreg [] fun K hK => ?_
  simp only [go_sem, Nat.reduceBEq, Nat.reduceAdd, hne, hne']
  refine ⟨_, CallOK.pure en149 rfl h4, ?_⟩
  try simp only [go_sem, Nat.reduceBEq, Nat.reduceAdd, hne, hne']
  refine hK _ _ (OpsW.store rfl rfl rfl rfl rfl (by simp only [O, if_true]; rfl) ty_22 rfl (by rfl) (by rfl) (by simp) fun K hK => ?_)
  simp only [go_sem, Nat.reduceBEq, Nat.reduceAdd]
  refine hK _ _ (OpsW.nil ?_)
  refine AW.sreg [] fun K hK => ?_
  simp only [go_sem, Nat.reduceBEq, Nat.reduceAdd, hne, hne']
  refine hK _ _ (OpsW.store rfl rfl rfl rfl rfl (by simp only [O, if_true]; rfl) ty_9 rfl (by rfl) (by rfl) (by simp) fun K hK => ?_)
  simp only [go_sem, Nat.reduceBEq, Nat.reduceAdd]
  refine hK _ _ (OpsW.nil ?_)
  refine AW.sreg [] fun K hK => ?_
  simp only [go_sem, Nat.reduceBEq, Nat.reduceAdd, hne, hne']
  refine hK _ _ (OpsW.store rfl rfl rfl rfl rfl (by simp only [O, if_true]; rfl) ty_4 rfl (by rfl) (by rfl) (by simp) fun K hK => ?_)
  simp only [go_sem, Nat.reduceBEq, Nat.reduceAdd]
  refine hK _ _ (OpsW.nil ?_)
  refine AW.sreg [] fun K hK => ?_
  simp only [go_sem, Nat.reduceBEq, Nat.reduceAdd, hne, hne']
  refine hK _ _ (OpsW.store rfl rfl rfl rfl rfl (by simp only [O, if_true]; rfl) ty_4 rfl (by rfl) (by rfl) (by simp) fun K hK => ?_)
  simp only [go_sem, Nat.reduceBEq, Nat.reduceAdd]
  refine hK _ _ (OpsW.nil ?_)
  refine AW.sreg [] fun K hK => ?_
  simp only [go_sem, Nat.reduceBEq, Nat.reduceAdd, hne, hne']
  refine hK _ _ (OpsW.store rfl rfl rfl rfl rfl (by simp only [O, if_true]; rfl) ty_4 rfl (by rfl) (by rfl) (by simp) fun K hK => ?_)
  simp only [go_sem, Nat.reduceBEq, Nat.reduceAdd]
  refine hK _ _ (OpsW.nil ?_)
  refine AW.sreg [] fun K hK => ?_
  simp only [go_sem, Nat.reduceBEq, Nat.reduceAdd, hne, hne']
  refine hK _ _ (OpsW.store rfl rfl rfl rfl rfl (by simp only [O, if_true]; rfl) ty_4 rfl (by rfl) (by rfl) (by simp) fun K hK => ?_)
  simp only [go_sem, Nat.reduceBEq, Nat.reduceAdd]
  refine hK _ _ (OpsW.nil ?_)
  refine AW.sreg [] fun K hK => ?_
  simp only [go_sem, Nat.reduceBEq, Nat.reduceAdd, hne, hne']
  refine hK _ _ (OpsW.store rfl rfl rfl rfl rfl (by simp only [O, if_true]; rfl) ty_3 rfl (by rfl) (by rfl) (by simp) fun K hK => ?_)
  simp only [go_sem, Nat.reduceBEq, Nat.reduceAdd]
  refine hK _ _ (OpsW.nil ?_)
  refine AW.sreg [] fun K hK => ?_
  simp only [go_sem, Nat.reduceBEq, Nat.reduceAdd, hne, hne']
  refine hK _ _ (OpsW.store rfl rfl rfl rfl rfl (by simp only [O, if_true]; rfl) ty_3 rfl (by rfl) (by rfl) (by simp) fun K hK => ?_)
  simp only [go_sem, Nat.reduceBEq, Nat.reduceAdd]
  refine hK _ _ (OpsW.nil ?_)
  refine AW.sreg [] fun K hK => ?_
  simp only [go_sem, Nat.reduceBEq, Nat.reduceAdd, hne, hne']
  refine ⟨_, CallOK.pure en171 rfl h12, ?_⟩
  try simp only [go_sem, Nat.reduceBEq, Nat.reduceAdd, hne, hne']
  refine hK _ _ (OpsW.store rfl rfl rfl rfl rfl (by simp only [O, if_true]; rfl) ty_224 rfl (by rfl) (by rfl) (by simp) fun K hK => ?_)
  simp only [go_sem, Nat.reduceBEq, Nat.reduceAdd]
  refine hK _ _ (OpsW.nil ?_)
  refine AW.sreg [] fun K hK => ?_
  simp only [go_sem, Nat.reduceBEq, Nat.reduceAdd, hne, hne']
  refine ⟨_, CallOK.pure en171 rfl h13, ?_⟩
  try simp only [go_sem, Nat.reduceBEq, Nat.reduceAdd, hne, hne']
  refine hK _ _ (OpsW.store rfl rfl rfl rfl rfl (by simp only [O, if_true]; rfl) ty_224 rfl (by rfl) (by rfl) (by simp) fun K hK => ?_)
  simp only [go_sem, Nat.reduceBEq, Nat.reduceAdd]
  refine hK _ _ (OpsW.nil ?_)
  refine AW.sreg [] fun K hK => ?_
  simp only [go_sem, Nat.reduceBEq, Nat.reduceAdd, hne, hne']
  refine ⟨_, CallOK.pure en142 rfl h14, ?_⟩
  try simp only [go_sem, Nat.reduceBEq, Nat.reduceAdd, hne, hne']
  refine hK _ _ (OpsW.store rfl rfl rfl rfl rfl (by simp only [O, if_true]; rfl) ty_110 rfl (by rfl) (by rfl) (by simp) fun K hK => ?_)
  simp only [go_sem, Nat.reduceBEq, Nat.reduceAdd]
  refine hK _ _ (OpsW.nil ?_)
  refine AW.sreg [55] fun K hK => ?_
  simp only [go_sem, Nat.reduceBEq, Nat.reduceAdd]
  refine hK _ _ (OpsW.take rfl rfl rfl rfl rfl (by simp only [O, if_true]; rfl) ty_226 rfl fun K hK => ?_)
  simp only [go_sem, Nat.reduceBEq, Nat.reduceAdd]
  refine hK _ _ (OpsW.store rfl rfl rfl rfl rfl (by simp only [O, hne', if_false, if_true]; rfl) ty_226 rfl (by rfl) (by rfl) (by simp) fun K hK => ?_)
  simp only [go_sem, Nat.reduceBEq, Nat.reduceAdd]
  refine hK _ _ (OpsW.nil (AW.ret ?_))
  simp only [go_sem]
  exact Ends.res rfl (ResOK.cell rfl (by simp only [O, if_true]; rfl) ty_226 rfl)

theorem toSchemaS_a (l : List Dt.GSchema) : PureC lim Try.prog 142 [.sl false 19 (l.map (encSchema false))] (.sl true 19 (l.map (encSchema true))) := by
  induction h : SizeOf.sizeOf l using Nat.strongRecOn generalizing l with
  | _ n ih =>
    refine toSchemaS_c l (fun x hx => toSchema_c x (toType_a x.fType) (tostringS_a x.fKeys) (tostringS_a x.fUnique) (toExprS_a x.fWhen) (toExprS_a x.fMust) (ih (SizeOf.sizeOf x.fKids) ?_ x.fKids rfl))
    have := List.sizeOf_lt_of_mem hx
    cases x; simp [Dt.GSchema.fKids] at *; omega
theorem toSchema_a (x : Dt.GSchema) : PureC lim Try.prog 161 [encSchema false x] (encSchema true x) := toSchema_c x (toType_a x.fType) (tostringS_a x.fKeys) (tostringS_a x.fUnique) (toExprS_a x.fWhen) (toExprS_a x.fMust) (toSchemaS_a x.fKids)
theorem toSchema_v (x : Dt.GSchema) : PureC lim Try.prog 161 [encSchema false x] (encSchema false x) := by
  have := (toSchema_a x).frz
  rwa [encSchema_frz] at this
theorem toSchemaS_v (l : List Dt.GSchema) : PureC lim Try.prog 142 [.sl false 19 (l.map (encSchema false))] (.sl false 19 (l.map (encSchema false))) := by
  have := (toSchemaS_a l).frz
  rwa [show (AV.sl true 19 (l.map (encSchema true))).frz = AV.sl false 19 (l.map (encSchema false)) by simp only [AV.frz, cond_true, encSchemaM_frz]] at this
theorem eqNodeS_c {L : Nat → Nat} (hL : ∀ z, L z ≤ 4611686018427387904) (l : List Dt.GNode) (hx : ∀ x, x ∈ l → PureC L Try.prog 137 [encNode false x, encNode false x] (.v (.bool true))) : PureC L Try.prog 93 [.sl false 3 (l.map (encNode false)), .sl false 3 (l.map (encNode false))] (.v (.bool true)) := by
  refine PureC.of_body Try.func93 rfl rfl ?_
  rw [Try.ntmps93]
  refine AW.len 0 rfl fun hlen => ?_
  have hlen' := Nat.le_trans hlen (hL 3)
  rw [List.length_map] at hlen'
  clear hlen
  refine AW.sreg [] fun K hK => ?_
  simp only [go_sem, Nat.reduceBEq, Nat.reduceAdd]
  refine hK _ _ (OpsW.nil ?_)
  refine AW.seq (AW.sreg [] fun K hK => ?_)
  simp only [go_sem, Nat.reduceBEq, Nat.reduceAdd]
  refine hK _ _ (OpsW.nil ?_)
  refine AW.cond rfl (fun h => absurd h (by simp)) (fun _ => AW.skip ?_)
  refine AW.seq (AW.sreg [] fun K hK => ?_)
  simp only [go_sem, Nat.reduceBEq, Nat.reduceAdd]
  refine hK _ _ (OpsW.nil ?_)
  refine AW.block (AW.loopK [0, 1, 5] (fun m t => ∃ k : Nat, t = [(0, .sl false 3 (l.map (encNode false))), (1, .sl false 3 (l.map (encNode false))), (5, .v (.int .i64 k))] ∧ m = l.length - k ∧ k ≤ l.length) l.length ⟨0, rfl, by simp, by simp⟩ ?_)
  rintro m t ⟨k, rfl, rfl, hk⟩
  refine AW.seq (AW.sreg [] fun K hK => ?_)
  simp only [go_sem, Nat.reduceBEq, Nat.reduceAdd]
  refine hK _ _ (OpsW.nil ?_)
  refine AW.cond rfl (fun h => ?_) (fun h => ?_)
  · have hlt : k < l.length := by simpa using h
    clear h
    refine AW.skip (AW.seq (AW.block (AW.sdrw [] fun K hK => ?_)))
    simp only [go_sem, Nat.reduceBEq, Nat.reduceAdd, hlt]
    refine ⟨_, CallOK.pure en137 rfl (by have := hx l[k] (List.getElem_mem hlt); simpa only [go_sem] using this), ?_⟩
    simp only [go_sem, Nat.reduceBEq, Nat.reduceAdd]
    refine hK _ _ ?_ ?_
    · kernel_rfl
    refine OpsW.nil ?_
    refine AW.cond rfl (fun h => absurd h (by simp)) (fun _ => ?_)
    refine AW.skip (AW.reg [] fun K hK => ?_)
    simp only [go_sem, Nat.reduceBEq, Nat.reduceAdd]
    refine hK _ _ (OpsW.nil ⟨rfl, l.length - (k + 1), by omega, k + 1, ?_, rfl, hlt⟩)
    simp only [go_sem, Nat.reduceBEq, Nat.reduceAdd]
    rw [wrap_i64 (by omega) (by omega)]; rfl
  · refine AW.exit ?_
    simp only [blockQ, thenQ, if_true]
    refine AW.sreg [] fun K hK => ?_
    simp only [go_sem, Nat.reduceBEq, Nat.reduceAdd]
    exact hK _ _ (OpsW.nil (AW.ret (Ends.one' rfl rfl)))

theorem eqNode_c {L : Nat → Nat} (x : Dt.GNode) (h2 : PureC L Try.prog 93 [.sl false 3 (x.fKids.map (encNode false)), .sl false 3 (x.fKids.map (encNode false))] (.v (.bool true))) : PureC L Try.prog 137 [encNode false x, encNode false x] (.v (.bool true)) := by
  refine PureC.of_body Try.func137 rfl rfl ?_
  rw [Try.ntmps137]
  refine AW.sreg [] fun K hK => ?_
  simp only [go_sem, Nat.reduceBEq, Nat.reduceAdd]
  refine hK _ _ (OpsW.nil ?_)
  refine AW.seq (AW.sreg [] fun K hK => ?_)
  simp only [go_sem, Nat.reduceBEq, Nat.reduceAdd]
  refine hK _ _ (OpsW.nil ?_)
  refine AW.cond rfl (fun h => absurd h (by simp)) (fun _ => AW.skip ?_)
  refine AW.seq (AW.sreg [] fun K hK => ?_)
  simp only [go_sem, Nat.reduceBEq, Nat.reduceAdd]
  refine hK _ _ (OpsW.nil ?_)
  refine AW.cond rfl (fun h => absurd h (by simp)) (fun _ => AW.skip ?_)
  refine AW.seq (AW.sreg [] fun K hK => ?_)
  simp only [go_sem, Nat.reduceBEq, Nat.reduceAdd]
  refine ⟨_, CallOK.pure en93 rfl h2, ?_⟩
  simp only [go_sem, Nat.reduceBEq, Nat.reduceAdd]
  refine hK _ _ (OpsW.nil ?_)
  refine AW.cond rfl (fun h => absurd h (by simp)) (fun _ => AW.skip ?_)
  refine AW.sreg [] fun K hK => ?_
  simp only [go_sem, Nat.reduceBEq, Nat.reduceAdd]
  exact hK _ _ (OpsW.nil (AW.ret (Ends.one' rfl rfl)))

theorem eqNodeS_a {L : Nat → Nat} (hL : ∀ z, L z ≤ 4611686018427387904) (l : List Dt.GNode) : PureC L Try.prog 93 [.sl false 3 (l.map (encNode false)), .sl false 3 (l.map (encNode false))] (.v (.bool true)) := by
  induction h : SizeOf.sizeOf l using Nat.strongRecOn generalizing l with
  | _ n ih =>
    refine eqNodeS_c hL l (fun x hx => eqNode_c x (ih (SizeOf.sizeOf x.fKids) ?_ x.fKids rfl))
    have := List.sizeOf_lt_of_mem hx
    cases x; simp [Dt.GNode.fKids] at *; omega
theorem eqNode_a {L : Nat → Nat} (hL : ∀ z, L z ≤ 4611686018427387904) (x : Dt.GNode) : PureC L Try.prog 137 [encNode false x, encNode false x] (.v (.bool true)) := eqNode_c x (eqNodeS_a hL x.fKids)
theorem szNodeS_c {L : Nat → Nat} (hL : ∀ z, L z ≤ 4611686018427387904) (l : List Dt.GNode) (hx : ∀ x, x ∈ l → ∀ r : Int, 0 ≤ r → r ≤ 1048576 → PureC L Try.prog 120 [encNode false x, .v (.int .i64 r)] (.v (.int .i64 (szNode x r))))
    (left : Int) (h0 : 0 ≤ left) (h1 : left ≤ 1048576) : PureC L Try.prog 79 [.sl false 3 (l.map (encNode false)), .v (.int .i64 left)] (.v (.int .i64 (szSl szNode l left))) := by
  refine PureC.of_body Try.func79 rfl rfl ?_
  rw [Try.ntmps79]
  refine AW.len 0 rfl fun hlen => ?_
  have hlen' := Nat.le_trans hlen (hL 3)
  rw [List.length_map] at hlen'
  clear hlen
  refine AW.sreg [] fun K hK => ?_
  simp only [go_sem, Nat.reduceBEq, Nat.reduceAdd]
  refine hK _ _ (OpsW.nil ?_)
  refine AW.sreg [] fun K hK => ?_
  simp only [go_sem, Nat.reduceBEq, Nat.reduceAdd]
  rw [wrap_i64 (by omega) (by omega)]
  refine hK _ _ (OpsW.nil ?_)
  refine AW.seq (AW.sreg [] fun K hK => ?_)
  simp only [go_sem, Nat.reduceBEq, Nat.reduceAdd]
  refine hK _ _ (OpsW.nil ?_)
  refine AW.cond rfl (fun h => ?_) (fun h => ?_)
  · have h2 : left - (l.length : Int) < 0 := by simpa using h
    refine AW.sreg [] fun K hK => ?_
    simp only [go_sem, Nat.reduceBEq, Nat.reduceAdd]
    refine hK _ _ (OpsW.nil (AW.ret (Ends.one' rfl ?_)))
    rw [szSl, thn, if_pos h2]; rfl
  have h2 : ¬ (left - (l.length : Int) < 0) := by simpa using h
  clear h
  refine AW.skip (AW.seq (AW.sreg [] fun K hK => ?_))
  simp only [go_sem, Nat.reduceBEq, Nat.reduceAdd]
  refine hK _ _ (OpsW.nil ?_)
  refine AW.block (AW.loopK [0, 1, 5] (fun m t => ∃ (k : Nat) (r : Int), t = [(0, .sl false 3 (l.map (encNode false))), (1, .v (.int .i64 r)), (5, .v (.int .i64 k))] ∧ m = l.length - k ∧ k ≤ l.length ∧ r = szGo szNode (l.take k) (left - l.length) ∧ 0 ≤ r ∧ r ≤ 1048576) l.length ⟨0, _, rfl, by simp, by simp, by simp [szGo], by omega, by omega⟩ ?_)
  rintro m t ⟨k, r, rfl, rfl, hk, hr, hr0, hr1⟩
  refine AW.seq (AW.sreg [] fun K hK => ?_)
  simp only [go_sem, Nat.reduceBEq, Nat.reduceAdd]
  refine hK _ _ (OpsW.nil ?_)
  refine AW.cond rfl (fun h => ?_) (fun h => ?_)
  · have hlt : k < l.length := by simpa using h
    clear h
    have hsn : szGo szNode (l.take (k + 1)) (left - l.length) = thn (szNode l[k] r) id := by
      rw [List.take_succ_eq_append_getElem hlt, szGo_snoc _ _ _ _ (by rw [← hr]; exact hr0), ← hr]
    have hle := szNode_le l[k] r hr0
    refine AW.skip (AW.seq (AW.block (AW.sreg [] fun K hK => ?_)))
    simp only [go_sem, Nat.reduceBEq, Nat.reduceAdd, hlt]
    refine ⟨_, CallOK.pure en120 rfl (by have := hx l[k] (List.getElem_mem hlt) r hr0 hr1; simpa only [go_sem] using this), ?_⟩
    simp only [go_sem, Nat.reduceBEq, Nat.reduceAdd]
    refine hK _ _ (OpsW.nil ?_)
    refine AW.sreg [] fun K hK => ?_
    simp only [go_sem, Nat.reduceBEq, Nat.reduceAdd]
    refine hK _ _ (OpsW.nil ?_)
    refine AW.cond rfl (fun h => ?_) (fun h => ?_)
    · have h3 : szNode l[k] r < 0 := by simpa using h
      refine AW.sreg [] fun K hK => ?_
      simp only [go_sem, Nat.reduceBEq, Nat.reduceAdd]
      refine hK _ _ (OpsW.nil (AW.ret (Ends.one' rfl ?_)))
      rw [thn, if_pos h3] at hsn
      have := szGo_neg szNode (l.take (k + 1)) (l.drop (k + 1)) _ hsn (List.ne_nil_of_length_pos (by rw [List.length_take]; omega))
      rw [List.take_append_drop] at this
      rw [szSl, thn, if_neg h2, this]; rfl
    · have h3 : ¬ (szNode l[k] r < 0) := by simpa using h
      clear h
      rw [thn, if_neg h3] at hsn
      refine AW.skip (AW.reg [] fun K hK => ?_)
      simp only [go_sem, Nat.reduceBEq, Nat.reduceAdd]
      refine hK _ _ (OpsW.nil ⟨rfl, l.length - (k + 1), by omega, k + 1, _, ?_, rfl, hlt, hsn.symm, by simp only [id]; omega, by simp only [id]; omega⟩)
      simp only [go_sem, Nat.reduceBEq, Nat.reduceAdd]
      rw [wrap_i64 (by omega) (by omega)]; rfl
  · have hge : k = l.length := by have := h; simp at this; omega
    subst hge
    refine AW.exit ?_
    simp only [blockQ, thenQ, if_true]
    refine AW.sreg [] fun K hK => ?_
    simp only [go_sem, Nat.reduceBEq, Nat.reduceAdd]
    refine hK _ _ (OpsW.nil (AW.ret (Ends.one' rfl ?_)))
    rw [List.take_of_length_le (Nat.le_refl _)] at hr
    rw [szSl, thn, if_neg h2, ← hr]; rfl

theorem szNode_c {L : Nat → Nat} (x : Dt.GNode) (h2 : ∀ r : Int, 0 ≤ r → r ≤ 1048576 → PureC L Try.prog 79 [.sl false 3 (x.fKids.map (encNode false)), .v (.int .i64 r)] (.v (.int .i64 (szSl szNode x.fKids r)))) (left : Int) (g0 : 0 ≤ left) (g1 : left ≤ 1048576) : PureC L Try.prog 120 [encNode false x, .v (.int .i64 left)] (.v (.int .i64 (szNode x left))) := by
  refine PureC.of_body Try.func120 rfl rfl ?_
  rw [Try.ntmps120]
  simp only [go_sem]
  refine AW.aggStr 0 rfl (s := x.fName) (by simp) fun b0 => ?_
  refine AW.aggStr 0 rfl (s := x.fValue) (by simp) fun b1 => ?_
  refine AW.sreg [] fun K hK => ?_
  simp only [go_sem, Nat.reduceBEq, Nat.reduceAdd]
  refine hK _ _ (OpsW.nil ?_)
  refine AW.sreg [] fun K hK => ?_
  simp only [go_sem, Nat.reduceBEq, Nat.reduceAdd]
  rw [wrap_i64 (by omega) (by omega)]
  refine hK _ _ (OpsW.nil ?_)
  refine AW.seq (AW.sreg [] fun K hK => ?_)
  simp only [go_sem, Nat.reduceBEq, Nat.reduceAdd]
  refine hK _ _ (OpsW.nil ?_)
  refine AW.cond rfl (fun h => ?_) (fun h => ?_)
  · have q0 : (left - (x.fName.length : Int)) < 0 := by simpa using h
    refine AW.sreg [] fun K hK => ?_
    simp only [go_sem, Nat.reduceBEq, Nat.reduceAdd]
    refine hK _ _ (OpsW.nil (AW.ret (Ends.one' rfl ?_)))
    have p0 : (szStr x.fName left) < 0 := q0
    rw [szNode_eq, thn_neg p0]; rfl
  have q0 : ¬ ((left - (x.fName.length : Int)) < 0) := by simpa using h
  have p0 : ¬ ((szStr x.fName left) < 0) := q0
  clear h
  refine AW.skip ?_
  refine AW.sreg [] fun K hK => ?_
  simp only [go_sem, Nat.reduceBEq, Nat.reduceAdd]
  rw [wrap_i64 (by omega) (by omega)]
  refine hK _ _ (OpsW.nil ?_)
  refine AW.seq (AW.sreg [] fun K hK => ?_)
  simp only [go_sem, Nat.reduceBEq, Nat.reduceAdd]
  refine hK _ _ (OpsW.nil ?_)
  refine AW.cond rfl (fun h => ?_) (fun h => ?_)
  · have q1 : ((left - (x.fName.length : Int)) - (x.fValue.length : Int)) < 0 := by simpa using h
    refine AW.sreg [] fun K hK => ?_
    simp only [go_sem, Nat.reduceBEq, Nat.reduceAdd]
    refine hK _ _ (OpsW.nil (AW.ret (Ends.one' rfl ?_)))
    have p1 : (szStr x.fValue (szStr x.fName left)) < 0 := q1
    rw [szNode_eq, thn_pos p0, thn_neg p1]; rfl
  have q1 : ¬ (((left - (x.fName.length : Int)) - (x.fValue.length : Int)) < 0) := by simpa using h
  have p1 : ¬ ((szStr x.fValue (szStr x.fName left)) < 0) := q1
  clear h
  refine AW.skip ?_
  refine AW.sreg [] fun K hK => ?_
  simp only [go_sem, Nat.reduceBEq, Nat.reduceAdd]
  refine ⟨_, CallOK.pure en79 rfl (h2 ((left - (x.fName.length : Int)) - (x.fValue.length : Int)) (by omega) (by omega)), ?_⟩
  simp only [go_sem, Nat.reduceBEq, Nat.reduceAdd]
  have e2 := szSl_le szNode (fun y r hr => szNode_le y r hr) x.fKids ((left - (x.fName.length : Int)) - (x.fValue.length : Int)) (by omega)
  refine hK _ _ (OpsW.nil ?_)
  refine AW.seq (AW.sreg [] fun K hK => ?_)
  simp only [go_sem, Nat.reduceBEq, Nat.reduceAdd]
  refine hK _ _ (OpsW.nil ?_)
  refine AW.cond rfl (fun h => ?_) (fun h => ?_)
  · have q2 : (szSl szNode x.fKids ((left - (x.fName.length : Int)) - (x.fValue.length : Int))) < 0 := by simpa using h
    refine AW.sreg [] fun K hK => ?_
    simp only [go_sem, Nat.reduceBEq, Nat.reduceAdd]
    refine hK _ _ (OpsW.nil (AW.ret (Ends.one' rfl ?_)))
    have p2 : (szSl szNode x.fKids (szStr x.fValue (szStr x.fName left))) < 0 := q2
    rw [szNode_eq, thn_pos p0, thn_pos p1, thn_neg p2]; rfl
  have q2 : ¬ ((szSl szNode x.fKids ((left - (x.fName.length : Int)) - (x.fValue.length : Int))) < 0) := by simpa using h
  have p2 : ¬ ((szSl szNode x.fKids (szStr x.fValue (szStr x.fName left))) < 0) := q2
  clear h
  refine AW.skip ?_
  refine AW.sreg [] fun K hK => ?_
  simp only [go_sem, Nat.reduceBEq, Nat.reduceAdd]
  refine hK _ _ (OpsW.nil (AW.ret (Ends.one' rfl ?_)))
  rw [szNode_eq, thn_pos p0, thn_pos p1, thn_pos p2]; rfl

theorem szNodeS_a {L : Nat → Nat} (hL : ∀ z, L z ≤ 4611686018427387904) (l : List Dt.GNode) (left : Int) (h0 : 0 ≤ left) (h1 : left ≤ 1048576) : PureC L Try.prog 79 [.sl false 3 (l.map (encNode false)), .v (.int .i64 left)] (.v (.int .i64 (szSl szNode l left))) := by
  induction h : SizeOf.sizeOf l using Nat.strongRecOn generalizing l left with
  | _ n ih =>
    refine szNodeS_c hL l (fun x hx r r0 r1 => szNode_c x (fun q q0 q1 => ih (SizeOf.sizeOf x.fKids) ?_ x.fKids q q0 q1 rfl) r r0 r1) left h0 h1
    have := List.sizeOf_lt_of_mem hx
    cases x; simp [Dt.GNode.fKids] at *; omega
theorem szNode_a {L : Nat → Nat} (hL : ∀ z, L z ≤ 4611686018427387904) (x : Dt.GNode) (r : Int) (r0 : 0 ≤ r) (r1 : r ≤ 1048576) : PureC L Try.prog 120 [encNode false x, .v (.int .i64 r)] (.v (.int .i64 (szNode x r))) := szNode_c x (szNodeS_a hL x.fKids) r r0 r1
theorem toNodeS_c (l : List Dt.GNode) (hx : ∀ x, x ∈ l → PureC lim Try.prog 127 [encNode false x] (encNode true x)) : PureC lim Try.prog 86 [.sl false 3 (l.map (encNode false))] (.sl true 3 (l.map (encNode true))) := by
  refine PureC.of_body Try.func86 rfl rfl ?_
  rw [Try.ntmps86]
  refine AW.len 0 rfl fun hlen => ?_
  rw [List.length_map] at hlen
  have hl : l.length ≤ 2147483648 := hlen
  refine AW.sreg [] fun K hK => ?_
  simp only [go_sem, Nat.reduceBEq, Nat.reduceAdd]
  refine hK _ _ (OpsW.nil ?_)
  refine AW.sreg [] fun K hK => ?_
  simp only [go_sem, Nat.reduceBEq, Nat.reduceAdd]
  refine hK _ _ (OpsW.mk rfl rfl rfl rfl elm_76 zer_189 rfl rfl rfl hlen (by omega) (fun K hK b hb => ?_) (by omega))
  simp only [go_sem, Nat.reduceBEq, Nat.reduceAdd]
  refine hK _ _ (OpsW.go [] fun K hK => ?_)
  simp only [go_sem, Nat.reduceBEq, Nat.reduceAdd]
  refine hK _ _ (OpsW.nil ?_)
  refine AW.seq (AW.sreg [] fun K hK => ?_)
  simp only [go_sem, Nat.reduceBEq, Nat.reduceAdd]
  refine hK _ _ (OpsW.nil ?_)
  refine AW.block (AW.loopO [0, 3, 4] (fun m t o => ∃ k b : Nat, t = [(0, .sl false 3 (l.map (encNode false))), (3, .arr b 0 l.length 3), (4, .v (.int .i64 k))] ∧ o = [(b, some (mkC (encNode true) [.string ⟨([] : List UInt8).toArray⟩, .string ⟨([] : List UInt8).toArray⟩, .slice none 0 0] l k))] ∧ m = l.length - k ∧ k ≤ l.length) l.length [(b, some (mkC (encNode true) [.string ⟨([] : List UInt8).toArray⟩, .string ⟨([] : List UInt8).toArray⟩, .slice none 0 0] l 0))] (by rw [mkC_zero]; exact fun _ _ h => h) ⟨0, b, rfl, rfl, by simp, by simp⟩ ?_)
  rintro m t o ⟨k, b, rfl, rfl, rfl, hk⟩
  have hC := mkC_len (encNode true) [.string ⟨([] : List UInt8).toArray⟩, .string ⟨([] : List UInt8).toArray⟩, .slice none 0 0] 3 (fun x => by first | rfl | simp only [go_sem]) rfl l k hk
  refine AW.seq (AW.sreg [] fun K hK => ?_)
  simp only [go_sem, Nat.reduceBEq, Nat.reduceAdd]
  refine hK _ _ (OpsW.nil ?_)
  refine AW.cond rfl (fun h => ?_) (fun h => ?_)
  · have hlt : k < l.length := by simpa using h
    clear h
    have hst := mkC_step (encNode true) [.string ⟨([] : List UInt8).toArray⟩, .string ⟨([] : List UInt8).toArray⟩, .slice none 0 0] 3 (fun x => by first | rfl | simp only [go_sem]) rfl l k hlt
    refine AW.skip (AW.seq (AW.block (AW.reg [] fun K hK => ?_)))
    simp only [go_sem, Nat.reduceBEq, Nat.reduceAdd, hlt]
    refine ⟨_, CallOK.pure en127 rfl (by have := hx l[k] (List.getElem_mem hlt); simpa only [go_sem] using this), ?_⟩
    try simp only [go_sem, Nat.reduceBEq, Nat.reduceAdd, hlt]
    refine hK _ _ ?_
    refine OpsW.store rfl rfl rfl rfl rfl (by simp only [O, if_true]; rfl) ty_189 rfl (by rfl) (by rfl) (by rw [hC]; omega) fun K hK => ?_
    simp only [go_sem, Nat.reduceBEq, Nat.reduceAdd]
    refine hK _ _ (OpsW.nil ?_)
    simp only [blockQ, thenQ]
    refine AW.reg [] fun K hK => ?_
    simp only [go_sem, Nat.reduceBEq, Nat.reduceAdd]
    refine hK _ _ (OpsW.nil ⟨rfl, l.length - (k + 1), [(b, some (mkC (encNode true) [.string ⟨([] : List UInt8).toArray⟩, .string ⟨([] : List UInt8).toArray⟩, .slice none 0 0] l (k + 1)))], by omega, ⟨k + 1, b, ?_, rfl, rfl, hlt⟩, ?_⟩)
    · simp only [go_sem, Nat.reduceBEq, Nat.reduceAdd]
      rw [wrap_i64 (by omega) (by omega)]; rfl
    · intro q cs hq
      simp only [O] at hq ⊢
      split at hq
      · rename_i e; rw [if_pos e, ← hq, ← hst]; first | rfl | (simp only [go_sem]; done) | simp only [go_sem, hlt]
      · cases hq
  · have hge : k = l.length := by have := h; simp at this; omega
    subst hge
    refine AW.exit ?_
    simp only [blockQ, thenQ, if_true]
    refine AW.sreg [] fun K hK => ?_
    simp only [go_sem, Nat.reduceBEq, Nat.reduceAdd]
    refine hK _ _ (OpsW.nil (AW.ret ?_))
    refine Ends.res rfl (ResOK.pack rfl (by simp only [O, if_true]; rfl) (by simp) ?_ ?_)
    · rw [mkC_end, List.drop_zero, List.take_of_length_le (by rw [mkC_end] at hC; omega)]
    · intro z hz
      obtain ⟨y, _, rfl⟩ := List.mem_map.1 hz
      first | rfl | simp only [go_sem]

theorem toNode_c {L : Nat → Nat} (x : Dt.GNode) (h2 : PureC L Try.prog 86 [.sl false 3 (x.fKids.map (encNode false))] (.sl true 3 (x.fKids.map (encNode true)))) : PureC L Try.prog 127 [encNode false x] (encNode true x) := by
  refine PureC.of_body Try.func127 rfl rfl ?_
  rw [Try.ntmps127]
  refine AW.sreg [] fun K hK => ?_
  simp only [go_sem, Nat.reduceBEq, Nat.reduceAdd]
  refine hK _ _ (OpsW.alloc rfl rfl rfl rfl zer_189 fun K hK b2 hb2 => ?_)
  simp only [go_sem, Nat.reduceBEq, Nat.reduceAdd]
  refine hK _ _ (OpsW.nil ?_)
  refine AW.sreg [] fun K hK => ?_
  simp only [go_sem, Nat.reduceBEq, Nat.reduceAdd]
  refine hK _ _ (OpsW.alloc rfl rfl rfl rfl zer_189 fun K hK b3 hb3 => ?_)
  have hne : b2 ≠ b3 := hb3 b2 _ (by simp only [O, if_true]; rfl)
  have hne' : b3 ≠ b2 := fun e => hne e.symm
  simp only [go_sem, Nat.reduceBEq, Nat.reduceAdd]
  refine hK _ _ (OpsW.nil ?_)
  refine AW.sreg [] fun K hK => ?_
  simp only [go_sem, Nat.reduceBEq, Nat.reduceAdd, hne, hne']
  refine hK _ _ (OpsW.store rfl rfl rfl rfl rfl (by simp only [O, if_true]; rfl) ty_9 rfl (by rfl) (by rfl) (by simp) fun K hK => ?_)
  simp only [go_sem, Nat.reduceBEq, Nat.reduceAdd]
  refine hK _ _ (OpsW.nil ?_)
  refine AW.sreg [] fun K hK => ?_
  simp only [go_sem, Nat.reduceBEq, Nat.reduceAdd, hne, hne']
  refine hK _ _ (OpsW.store rfl rfl rfl rfl rfl (by simp only [O, if_true]; rfl) ty_9 rfl (by rfl) (by rfl) (by simp) fun K hK => ?_)
  simp only [go_sem, Nat.reduceBEq, Nat.reduceAdd]
  refine hK _ _ (OpsW.nil ?_)
  refine AW.sreg [] fun K hK => ?_
  simp only [go_sem, Nat.reduceBEq, Nat.reduceAdd, hne, hne']
  refine ⟨_, CallOK.pure en86 rfl h2, ?_⟩
  try simp only [go_sem, Nat.reduceBEq, Nat.reduceAdd, hne, hne']
  refine hK _ _ (OpsW.store rfl rfl rfl rfl rfl (by simp only [O, if_true]; rfl) ty_76 rfl (by rfl) (by rfl) (by simp) fun K hK => ?_)
  simp only [go_sem, Nat.reduceBEq, Nat.reduceAdd]
  refine hK _ _ (OpsW.nil ?_)
  refine AW.sreg [14] fun K hK => ?_
  simp only [go_sem, Nat.reduceBEq, Nat.reduceAdd]
  refine hK _ _ (OpsW.take rfl rfl rfl rfl rfl (by simp only [O, if_true]; rfl) ty_189 rfl fun K hK => ?_)
  simp only [go_sem, Nat.reduceBEq, Nat.reduceAdd]
  refine hK _ _ (OpsW.store rfl rfl rfl rfl rfl (by simp only [O, hne', if_false, if_true]; rfl) ty_189 rfl (by rfl) (by rfl) (by simp) fun K hK => ?_)
  simp only [go_sem, Nat.reduceBEq, Nat.reduceAdd]
  refine hK _ _ (OpsW.nil (AW.ret ?_))
  simp only [go_sem]
  exact Ends.res rfl (ResOK.cell rfl (by simp only [O, if_true]; rfl) ty_189 rfl)

theorem toNodeS_a (l : List Dt.GNode) : PureC lim Try.prog 86 [.sl false 3 (l.map (encNode false))] (.sl true 3 (l.map (encNode true))) := by
  induction h : SizeOf.sizeOf l using Nat.strongRecOn generalizing l with
  | _ n ih =>
    refine toNodeS_c l (fun x hx => toNode_c x (ih (SizeOf.sizeOf x.fKids) ?_ x.fKids rfl))
    have := List.sizeOf_lt_of_mem hx
    cases x; simp [Dt.GNode.fKids] at *; omega
theorem toNode_a (x : Dt.GNode) : PureC lim Try.prog 127 [encNode false x] (encNode true x) := toNode_c x (toNodeS_a x.fKids)
theorem toNode_v (x : Dt.GNode) : PureC lim Try.prog 127 [encNode false x] (encNode false x) := by
  have := (toNode_a x).frz
  rwa [encNode_frz] at this
theorem toNodeS_v (l : List Dt.GNode) : PureC lim Try.prog 86 [.sl false 3 (l.map (encNode false))] (.sl false 3 (l.map (encNode false))) := by
  have := (toNodeS_a l).frz
  rwa [show (AV.sl true 3 (l.map (encNode true))).frz = AV.sl false 3 (l.map (encNode false)) by simp only [AV.frz, cond_true, encNodeM_frz]] at this
theorem eqVersionS_c {L : Nat → Nat} (hL : ∀ z, L z ≤ 4611686018427387904) (l : List Dt.GVersion) (hx : ∀ x, x ∈ l → PureC L Try.prog 164 [encVersion false x, encVersion false x] (.v (.bool true))) : PureC L Try.prog 146 [.sl false 3 (l.map (encVersion false)), .sl false 3 (l.map (encVersion false))] (.v (.bool true)) := by
  refine PureC.of_body Try.func146 rfl rfl ?_
  rw [Try.ntmps146]
  refine AW.len 0 rfl fun hlen => ?_
  have hlen' := Nat.le_trans hlen (hL 3)
  rw [List.length_map] at hlen'
  clear hlen
  refine AW.sreg [] fun K hK => ?_
  simp only [go_sem, Nat.reduceBEq, Nat.reduceAdd]
  refine hK _ _ (OpsW.nil ?_)
  refine AW.seq (AW.sreg [] fun K hK => ?_)
  simp only [go_sem, Nat.reduceBEq, Nat.reduceAdd]
  refine hK _ _ (OpsW.nil ?_)
  refine AW.cond rfl (fun h => absurd h (by simp)) (fun _ => AW.skip ?_)
  refine AW.seq (AW.sreg [] fun K hK => ?_)
  simp only [go_sem, Nat.reduceBEq, Nat.reduceAdd]
  refine hK _ _ (OpsW.nil ?_)
  refine AW.block (AW.loopK [0, 1, 5] (fun m t => ∃ k : Nat, t = [(0, .sl false 3 (l.map (encVersion false))), (1, .sl false 3 (l.map (encVersion false))), (5, .v (.int .i64 k))] ∧ m = l.length - k ∧ k ≤ l.length) l.length ⟨0, rfl, by simp, by simp⟩ ?_)
  rintro m t ⟨k, rfl, rfl, hk⟩
  refine AW.seq (AW.sreg [] fun K hK => ?_)
  simp only [go_sem, Nat.reduceBEq, Nat.reduceAdd]
  refine hK _ _ (OpsW.nil ?_)
  refine AW.cond rfl (fun h => ?_) (fun h => ?_)
  · have hlt : k < l.length := by simpa using h
    clear h
    refine AW.skip (AW.seq (AW.block (AW.sdrw [] fun K hK => ?_)))
    simp only [go_sem, Nat.reduceBEq, Nat.reduceAdd, hlt]
    refine ⟨_, CallOK.pure en164 rfl (by have := hx l[k] (List.getElem_mem hlt); simpa only [go_sem] using this), ?_⟩
    simp only [go_sem, Nat.reduceBEq, Nat.reduceAdd]
    refine hK _ _ ?_ ?_
    · kernel_rfl
    refine OpsW.nil ?_
    refine AW.cond rfl (fun h => absurd h (by simp)) (fun _ => ?_)
    refine AW.skip (AW.reg [] fun K hK => ?_)
    simp only [go_sem, Nat.reduceBEq, Nat.reduceAdd]
    refine hK _ _ (OpsW.nil ⟨rfl, l.length - (k + 1), by omega, k + 1, ?_, rfl, hlt⟩)
    simp only [go_sem, Nat.reduceBEq, Nat.reduceAdd]
    rw [wrap_i64 (by omega) (by omega)]; rfl
  · refine AW.exit ?_
    simp only [blockQ, thenQ, if_true]
    refine AW.sreg [] fun K hK => ?_
    simp only [go_sem, Nat.reduceBEq, Nat.reduceAdd]
    exact hK _ _ (OpsW.nil (AW.ret (Ends.one' rfl rfl)))

theorem eqVersion_c {L : Nat → Nat} (x : Dt.GVersion) (h0 : PureC L Try.prog 93 [.sl false 3 (x.fTree.map (encNode false)), .sl false 3 (x.fTree.map (encNode false))] (.v (.bool true))) : PureC L Try.prog 164 [encVersion false x, encVersion false x] (.v (.bool true)) := by
  refine PureC.of_body Try.func164 rfl rfl ?_
  rw [Try.ntmps164]
  refine AW.sreg [] fun K hK => ?_
  simp only [go_sem, Nat.reduceBEq, Nat.reduceAdd]
  refine hK _ _ (OpsW.nil ?_)
  refine AW.seq (AW.sreg [] fun K hK => ?_)
  simp only [go_sem, Nat.reduceBEq, Nat.reduceAdd]
  refine ⟨_, CallOK.pure en93 rfl h0, ?_⟩
  simp only [go_sem, Nat.reduceBEq, Nat.reduceAdd]
  refine hK _ _ (OpsW.nil ?_)
  refine AW.cond rfl (fun h => absurd h (by simp)) (fun _ => AW.skip ?_)
  refine AW.seq (AW.sreg [] fun K hK => ?_)
  simp only [go_sem, Nat.reduceBEq, Nat.reduceAdd]
  refine hK _ _ (OpsW.nil ?_)
  refine AW.cond rfl (fun h => absurd h (by simp)) (fun _ => AW.skip ?_)
  refine AW.seq (AW.sreg [] fun K hK => ?_)
  simp only [go_sem, Nat.reduceBEq, Nat.reduceAdd]
  refine hK _ _ (OpsW.nil ?_)
  refine AW.cond rfl (fun h => absurd h (by simp)) (fun _ => AW.skip ?_)
  refine AW.sreg [] fun K hK => ?_
  simp only [go_sem, Nat.reduceBEq, Nat.reduceAdd]
  exact hK _ _ (OpsW.nil (AW.ret (Ends.one' rfl rfl)))

theorem eqVersion_a {L : Nat → Nat} (hL : ∀ z, L z ≤ 4611686018427387904) (x : Dt.GVersion) : PureC L Try.prog 164 [encVersion false x, encVersion false x] (.v (.bool true)) := eqVersion_c x (eqNodeS_a hL x.fTree)
theorem eqVersionS_a {L : Nat → Nat} (hL : ∀ z, L z ≤ 4611686018427387904) (l : List Dt.GVersion) : PureC L Try.prog 146 [.sl false 3 (l.map (encVersion false)), .sl false 3 (l.map (encVersion false))] (.v (.bool true)) := eqVersionS_c hL l fun x _ => eqVersion_a hL x
theorem szVersionS_c {L : Nat → Nat} (hL : ∀ z, L z ≤ 4611686018427387904) (l : List Dt.GVersion) (hx : ∀ x, x ∈ l → ∀ r : Int, 0 ≤ r → r ≤ 1048576 → PureC L Try.prog 160 [encVersion false x, .v (.int .i64 r)] (.v (.int .i64 (szVersion x r))))
    (left : Int) (h0 : 0 ≤ left) (h1 : left ≤ 1048576) : PureC L Try.prog 140 [.sl false 3 (l.map (encVersion false)), .v (.int .i64 left)] (.v (.int .i64 (szSl szVersion l left))) := by
  refine PureC.of_body Try.func140 rfl rfl ?_
  rw [Try.ntmps140]
  refine AW.len 0 rfl fun hlen => ?_
  have hlen' := Nat.le_trans hlen (hL 3)
  rw [List.length_map] at hlen'
  clear hlen
  refine AW.sreg [] fun K hK => ?_
  simp only [go_sem, Nat.reduceBEq, Nat.reduceAdd]
  refine hK _ _ (OpsW.nil ?_)
  refine AW.sreg [] fun K hK => ?_
  simp only [go_sem, Nat.reduceBEq, Nat.reduceAdd]
  rw [wrap_i64 (by omega) (by omega)]
  refine hK _ _ (OpsW.nil ?_)
  refine AW.seq (AW.sreg [] fun K hK => ?_)
  simp only [go_sem, Nat.reduceBEq, Nat.reduceAdd]
  refine hK _ _ (OpsW.nil ?_)
  refine AW.cond rfl (fun h => ?_) (fun h => ?_)
  · have h2 : left - (l.length : Int) < 0 := by simpa using h
    refine AW.sreg [] fun K hK => ?_
    simp only [go_sem, Nat.reduceBEq, Nat.reduceAdd]
    refine hK _ _ (OpsW.nil (AW.ret (Ends.one' rfl ?_)))
    rw [szSl, thn, if_pos h2]; rfl
  have h2 : ¬ (left - (l.length : Int) < 0) := by simpa using h
  clear h
  refine AW.skip (AW.seq (AW.sreg [] fun K hK => ?_))
  simp only [go_sem, Nat.reduceBEq, Nat.reduceAdd]
  refine hK _ _ (OpsW.nil ?_)
  refine AW.block (AW.loopK [0, 1, 5] (fun m t => ∃ (k : Nat) (r : Int), t = [(0, .sl false 3 (l.map (encVersion false))), (1, .v (.int .i64 r)), (5, .v (.int .i64 k))] ∧ m = l.length - k ∧ k ≤ l.length ∧ r = szGo szVersion (l.take k) (left - l.length) ∧ 0 ≤ r ∧ r ≤ 1048576) l.length ⟨0, _, rfl, by simp, by simp, by simp [szGo], by omega, by omega⟩ ?_)
  rintro m t ⟨k, r, rfl, rfl, hk, hr, hr0, hr1⟩
  refine AW.seq (AW.sreg [] fun K hK => ?_)
  simp only [go_sem, Nat.reduceBEq, Nat.reduceAdd]
  refine hK _ _ (OpsW.nil ?_)
  refine AW.cond rfl (fun h => ?_) (fun h => ?_)
  · have hlt : k < l.length := by simpa using h
    clear h
    have hsn : szGo szVersion (l.take (k + 1)) (left - l.length) = thn (szVersion l[k] r) id := by
      rw [List.take_succ_eq_append_getElem hlt, szGo_snoc _ _ _ _ (by rw [← hr]; exact hr0), ← hr]
    have hle := szVersion_le l[k] r hr0
    refine AW.skip (AW.seq (AW.block (AW.sreg [] fun K hK => ?_)))
    simp only [go_sem, Nat.reduceBEq, Nat.reduceAdd, hlt]
    refine ⟨_, CallOK.pure en160 rfl (by have := hx l[k] (List.getElem_mem hlt) r hr0 hr1; simpa only [go_sem] using this), ?_⟩
    simp only [go_sem, Nat.reduceBEq, Nat.reduceAdd]
    refine hK _ _ (OpsW.nil ?_)
    refine AW.sreg [] fun K hK => ?_
    simp only [go_sem, Nat.reduceBEq, Nat.reduceAdd]
    refine hK _ _ (OpsW.nil ?_)
    refine AW.cond rfl (fun h => ?_) (fun h => ?_)
    · have h3 : szVersion l[k] r < 0 := by simpa using h
      refine AW.sreg [] fun K hK => ?_
      simp only [go_sem, Nat.reduceBEq, Nat.reduceAdd]
      refine hK _ _ (OpsW.nil (AW.ret (Ends.one' rfl ?_)))
      rw [thn, if_pos h3] at hsn
      have := szGo_neg szVersion (l.take (k + 1)) (l.drop (k + 1)) _ hsn (List.ne_nil_of_length_pos (by rw [List.length_take]; omega))
      rw [List.take_append_drop] at this
      rw [szSl, thn, if_neg h2, this]; rfl
    · have h3 : ¬ (szVersion l[k] r < 0) := by simpa using h
      clear h
      rw [thn, if_neg h3] at hsn
      refine AW.skip (AW.reg [] fun K hK => ?_)
      simp only [go_sem, Nat.reduceBEq, Nat.reduceAdd]
      refine hK _ _ (OpsW.nil ⟨rfl, l.length - (k + 1), by omega, k + 1, _, ?_, rfl, hlt, hsn.symm, by simp only [id]; omega, by simp only [id]; omega⟩)
      simp only [go_sem, Nat.reduceBEq, Nat.reduceAdd]
      rw [wrap_i64 (by omega) (by omega)]; rfl
  · have hge : k = l.length := by have := h; simp at this; omega
    subst hge
    refine AW.exit ?_
    simp only [blockQ, thenQ, if_true]
    refine AW.sreg [] fun K hK => ?_
    simp only [go_sem, Nat.reduceBEq, Nat.reduceAdd]
    refine hK _ _ (OpsW.nil (AW.ret (Ends.one' rfl ?_)))
    rw [List.take_of_length_le (Nat.le_refl _)] at hr
    rw [szSl, thn, if_neg h2, ← hr]; rfl

theorem szVersion_c {L : Nat → Nat} (x : Dt.GVersion) (h0 : ∀ r : Int, 0 ≤ r → r ≤ 1048576 → PureC L Try.prog 79 [.sl false 3 (x.fTree.map (encNode false)), .v (.int .i64 r)] (.v (.int .i64 (szSl szNode x.fTree r)))) (left : Int) (g0 : 0 ≤ left) (g1 : left ≤ 1048576) : PureC L Try.prog 160 [encVersion false x, .v (.int .i64 left)] (.v (.int .i64 (szVersion x left))) := by
  refine PureC.of_body Try.func160 rfl rfl ?_
  rw [Try.ntmps160]
  refine AW.sreg [] fun K hK => ?_
  simp only [go_sem, Nat.reduceBEq, Nat.reduceAdd]
  refine hK _ _ (OpsW.nil ?_)
  refine AW.sreg [] fun K hK => ?_
  simp only [go_sem, Nat.reduceBEq, Nat.reduceAdd]
  refine ⟨_, CallOK.pure en79 rfl (h0 left (by omega) (by omega)), ?_⟩
  simp only [go_sem, Nat.reduceBEq, Nat.reduceAdd]
  have e0 := szSl_le szNode (fun y r hr => szNode_le y r hr) x.fTree left (by omega)
  refine hK _ _ (OpsW.nil ?_)
  refine AW.seq (AW.sreg [] fun K hK => ?_)
  simp only [go_sem, Nat.reduceBEq, Nat.reduceAdd]
  refine hK _ _ (OpsW.nil ?_)
  refine AW.cond rfl (fun h => ?_) (fun h => ?_)
  · have q0 : (szSl szNode x.fTree left) < 0 := by simpa using h
    refine AW.sreg [] fun K hK => ?_
    simp only [go_sem, Nat.reduceBEq, Nat.reduceAdd]
    refine hK _ _ (OpsW.nil (AW.ret (Ends.one' rfl ?_)))
    have p0 : (szSl szNode x.fTree left) < 0 := q0
    rw [szVersion, thn_neg p0]; rfl
  have q0 : ¬ ((szSl szNode x.fTree left) < 0) := by simpa using h
  have p0 : ¬ ((szSl szNode x.fTree left) < 0) := q0
  clear h
  refine AW.skip ?_
  refine AW.sreg [] fun K hK => ?_
  simp only [go_sem, Nat.reduceBEq, Nat.reduceAdd]
  refine hK _ _ (OpsW.nil (AW.ret (Ends.one' rfl ?_)))
  rw [szVersion, thn_pos p0]; rfl

theorem szVersion_a {L : Nat → Nat} (hL : ∀ z, L z ≤ 4611686018427387904) (x : Dt.GVersion) (r : Int) (r0 : 0 ≤ r) (r1 : r ≤ 1048576) : PureC L Try.prog 160 [encVersion false x, .v (.int .i64 r)] (.v (.int .i64 (szVersion x r))) := szVersion_c x (szNodeS_a hL x.fTree) r r0 r1
theorem szVersionS_a {L : Nat → Nat} (hL : ∀ z, L z ≤ 4611686018427387904) (l : List Dt.GVersion) (left : Int) (h0 : 0 ≤ left) (h1 : left ≤ 1048576) : PureC L Try.prog 140 [.sl false 3 (l.map (encVersion false)), .v (.int .i64 left)] (.v (.int .i64 (szSl szVersion l left))) := szVersionS_c hL l (fun x _ => szVersion_a hL x) left h0 h1
theorem toVersionS_c (l : List Dt.GVersion) (hx : ∀ x, x ∈ l → PureC lim Try.prog 162 [encVersion false x] (encVersion true x)) : PureC lim Try.prog 143 [.sl false 3 (l.map (encVersion false))] (.sl true 3 (l.map (encVersion true))) := by
  refine PureC.of_body Try.func143 rfl rfl ?_
  rw [Try.ntmps143]
  refine AW.len 0 rfl fun hlen => ?_
  rw [List.length_map] at hlen
  have hl : l.length ≤ 2147483648 := hlen
  refine AW.sreg [] fun K hK => ?_
  simp only [go_sem, Nat.reduceBEq, Nat.reduceAdd]
  refine hK _ _ (OpsW.nil ?_)
  refine AW.sreg [] fun K hK => ?_
  simp only [go_sem, Nat.reduceBEq, Nat.reduceAdd]
  refine hK _ _ (OpsW.mk rfl rfl rfl rfl elm_111 zer_229 rfl rfl rfl hlen (by omega) (fun K hK b hb => ?_) (by omega))
  simp only [go_sem, Nat.reduceBEq, Nat.reduceAdd]
  refine hK _ _ (OpsW.go [] fun K hK => ?_)
  simp only [go_sem, Nat.reduceBEq, Nat.reduceAdd]
  refine hK _ _ (OpsW.nil ?_)
  refine AW.seq (AW.sreg [] fun K hK => ?_)
  simp only [go_sem, Nat.reduceBEq, Nat.reduceAdd]
  refine hK _ _ (OpsW.nil ?_)
  refine AW.block (AW.loopO [0, 3, 4] (fun m t o => ∃ k b : Nat, t = [(0, .sl false 3 (l.map (encVersion false))), (3, .arr b 0 l.length 3), (4, .v (.int .i64 k))] ∧ o = [(b, some (mkC (encVersion true) [.slice none 0 0, .int .i64 0, .int .i64 0] l k))] ∧ m = l.length - k ∧ k ≤ l.length) l.length [(b, some (mkC (encVersion true) [.slice none 0 0, .int .i64 0, .int .i64 0] l 0))] (by rw [mkC_zero]; exact fun _ _ h => h) ⟨0, b, rfl, rfl, by simp, by simp⟩ ?_)
  rintro m t o ⟨k, b, rfl, rfl, rfl, hk⟩
  have hC := mkC_len (encVersion true) [.slice none 0 0, .int .i64 0, .int .i64 0] 3 (fun x => by first | rfl | simp only [go_sem]) rfl l k hk
  refine AW.seq (AW.sreg [] fun K hK => ?_)
  simp only [go_sem, Nat.reduceBEq, Nat.reduceAdd]
  refine hK _ _ (OpsW.nil ?_)
  refine AW.cond rfl (fun h => ?_) (fun h => ?_)
  · have hlt : k < l.length := by simpa using h
    clear h
    have hst := mkC_step (encVersion true) [.slice none 0 0, .int .i64 0, .int .i64 0] 3 (fun x => by first | rfl | simp only [go_sem]) rfl l k hlt
    refine AW.skip (AW.seq (AW.block (AW.reg [] fun K hK => ?_)))
    simp only [go_sem, Nat.reduceBEq, Nat.reduceAdd, hlt]
    refine ⟨_, CallOK.pure en162 rfl (by have := hx l[k] (List.getElem_mem hlt); simpa only [go_sem] using this), ?_⟩
    try simp only [go_sem, Nat.reduceBEq, Nat.reduceAdd, hlt]
    refine hK _ _ ?_
    refine OpsW.store rfl rfl rfl rfl rfl (by simp only [O, if_true]; rfl) ty_229 rfl (by rfl) (by rfl) (by rw [hC]; omega) fun K hK => ?_
    simp only [go_sem, Nat.reduceBEq, Nat.reduceAdd]
    refine hK _ _ (OpsW.nil ?_)
    simp only [blockQ, thenQ]
    refine AW.reg [] fun K hK => ?_
    simp only [go_sem, Nat.reduceBEq, Nat.reduceAdd]
    refine hK _ _ (OpsW.nil ⟨rfl, l.length - (k + 1), [(b, some (mkC (encVersion true) [.slice none 0 0, .int .i64 0, .int .i64 0] l (k + 1)))], by omega, ⟨k + 1, b, ?_, rfl, rfl, hlt⟩, ?_⟩)
    · simp only [go_sem, Nat.reduceBEq, Nat.reduceAdd]
      rw [wrap_i64 (by omega) (by omega)]; rfl
    · intro q cs hq
      simp only [O] at hq ⊢
      split at hq
      · rename_i e; rw [if_pos e, ← hq, ← hst]; first | rfl | (simp only [go_sem]; done) | simp only [go_sem, hlt]
      · cases hq
  · have hge : k = l.length := by have := h; simp at this; omega
    subst hge
    refine AW.exit ?_
    simp only [blockQ, thenQ, if_true]
    refine AW.sreg [] fun K hK => ?_
    simp only [go_sem, Nat.reduceBEq, Nat.reduceAdd]
    refine hK _ _ (OpsW.nil (AW.ret ?_))
    refine Ends.res rfl (ResOK.pack rfl (by simp only [O, if_true]; rfl) (by simp) ?_ ?_)
    · rw [mkC_end, List.drop_zero, List.take_of_length_le (by rw [mkC_end] at hC; omega)]
    · intro z hz
      obtain ⟨y, _, rfl⟩ := List.mem_map.1 hz
      first | rfl | simp only [go_sem]

theorem toVersion_c {L : Nat → Nat} (x : Dt.GVersion) (h0 : PureC L Try.prog 86 [.sl false 3 (x.fTree.map (encNode false))] (.sl true 3 (x.fTree.map (encNode true)))) : PureC L Try.prog 162 [encVersion false x] (encVersion true x) := by
  refine PureC.of_body Try.func162 rfl rfl ?_
  rw [Try.ntmps162]
  refine AW.sreg [] fun K hK => ?_
  simp only [go_sem, Nat.reduceBEq, Nat.reduceAdd]
  refine hK _ _ (OpsW.alloc rfl rfl rfl rfl zer_229 fun K hK b2 hb2 => ?_)
  simp only [go_sem, Nat.reduceBEq, Nat.reduceAdd]
  refine hK _ _ (OpsW.nil ?_)
  refine AW.sreg [] fun K hK => ?_
  simp only [go_sem, Nat.reduceBEq, Nat.reduceAdd]
  refine hK _ _ (OpsW.alloc rfl rfl rfl rfl zer_229 fun K hK b3 hb3 => ?_)
  have hne : b2 ≠ b3 := hb3 b2 _ (by simp only [O, if_true]; rfl)
  have hne' : b3 ≠ b2 := fun e => hne e.symm
  simp only [go_sem, Nat.reduceBEq, Nat.reduceAdd]
  refine hK _ _ (OpsW.nil ?_)
  refine AW.sreg [] fun K hK => ?_
  simp only [go_sem, Nat.reduceBEq, Nat.reduceAdd, hne, hne']
  refine ⟨_, CallOK.pure en86 rfl h0, ?_⟩
  try simp only [go_sem, Nat.reduceBEq, Nat.reduceAdd, hne, hne']
  refine hK _ _ (OpsW.store rfl rfl rfl rfl rfl (by simp only [O, if_true]; rfl) ty_76 rfl (by rfl) (by rfl) (by simp) fun K hK => ?_)
  simp only [go_sem, Nat.reduceBEq, Nat.reduceAdd]
  refine hK _ _ (OpsW.nil ?_)
  refine AW.sreg [] fun K hK => ?_
  simp only [go_sem, Nat.reduceBEq, Nat.reduceAdd, hne, hne']
  refine hK _ _ (OpsW.store rfl rfl rfl rfl rfl (by simp only [O, if_true]; rfl) ty_3 rfl (by rfl) (by rfl) (by simp) fun K hK => ?_)
  simp only [go_sem, Nat.reduceBEq, Nat.reduceAdd]
  refine hK _ _ (OpsW.nil ?_)
  refine AW.sreg [] fun K hK => ?_
  simp only [go_sem, Nat.reduceBEq, Nat.reduceAdd, hne, hne']
  refine hK _ _ (OpsW.store rfl rfl rfl rfl rfl (by simp only [O, if_true]; rfl) ty_3 rfl (by rfl) (by rfl) (by simp) fun K hK => ?_)
  simp only [go_sem, Nat.reduceBEq, Nat.reduceAdd]
  refine hK _ _ (OpsW.nil ?_)
  refine AW.sreg [14] fun K hK => ?_
  simp only [go_sem, Nat.reduceBEq, Nat.reduceAdd]
  refine hK _ _ (OpsW.take rfl rfl rfl rfl rfl (by simp only [O, if_true]; rfl) ty_229 rfl fun K hK => ?_)
  simp only [go_sem, Nat.reduceBEq, Nat.reduceAdd]
  refine hK _ _ (OpsW.store rfl rfl rfl rfl rfl (by simp only [O, hne', if_false, if_true]; rfl) ty_229 rfl (by rfl) (by rfl) (by simp) fun K hK => ?_)
  simp only [go_sem, Nat.reduceBEq, Nat.reduceAdd]
  refine hK _ _ (OpsW.nil (AW.ret ?_))
  simp only [go_sem]
  exact Ends.res rfl (ResOK.cell rfl (by simp only [O, if_true]; rfl) ty_229 rfl)

theorem toVersion_a (x : Dt.GVersion) : PureC lim Try.prog 162 [encVersion false x] (encVersion true x) := toVersion_c x (toNodeS_a x.fTree)
theorem toVersion_v (x : Dt.GVersion) : PureC lim Try.prog 162 [encVersion false x] (encVersion false x) := by
  have := (toVersion_a x).frz
  rwa [encVersion_frz] at this
theorem toVersionS_a (l : List Dt.GVersion) : PureC lim Try.prog 143 [.sl false 3 (l.map (encVersion false))] (.sl true 3 (l.map (encVersion true))) := toVersionS_c l fun x _ => toVersion_a x
theorem toVersionS_v (l : List Dt.GVersion) : PureC lim Try.prog 143 [.sl false 3 (l.map (encVersion false))] (.sl false 3 (l.map (encVersion false))) := by
  have := (toVersionS_a l).frz
  rwa [show (AV.sl true 3 (l.map (encVersion true))).frz = AV.sl false 3 (l.map (encVersion false)) by simp only [AV.frz, cond_true, encVersionM_frz]] at this
theorem eqPending_c {L : Nat → Nat} (x : Dt.GPending) (h4 : PureC L Try.prog 93 [.sl false 3 (x.fBack.map (encNode false)), .sl false 3 (x.fBack.map (encNode false))] (.v (.bool true))) : PureC L Try.prog 147 [encPending false x, encPending false x] (.v (.bool true)) := by
  refine PureC.of_body Try.func147 rfl rfl ?_
  rw [Try.ntmps147]
  refine AW.sreg [] fun K hK => ?_
  simp only [go_sem, Nat.reduceBEq, Nat.reduceAdd]
  refine hK _ _ (OpsW.nil ?_)
  refine AW.seq (AW.sreg [] fun K hK => ?_)
  simp only [go_sem, Nat.reduceBEq, Nat.reduceAdd]
  refine hK _ _ (OpsW.nil ?_)
  refine AW.cond rfl (fun h => absurd h (by simp)) (fun _ => AW.skip ?_)
  refine AW.seq (AW.sreg [] fun K hK => ?_)
  simp only [go_sem, Nat.reduceBEq, Nat.reduceAdd]
  refine hK _ _ (OpsW.nil ?_)
  refine AW.cond rfl (fun h => absurd h (by simp)) (fun _ => AW.skip ?_)
  refine AW.seq (AW.sreg [] fun K hK => ?_)
  simp only [go_sem, Nat.reduceBEq, Nat.reduceAdd]
  refine hK _ _ (OpsW.nil ?_)
  refine AW.cond rfl (fun h => absurd h (by simp)) (fun _ => AW.skip ?_)
  refine AW.seq (AW.sreg [] fun K hK => ?_)
  simp only [go_sem, Nat.reduceBEq, Nat.reduceAdd]
  refine hK _ _ (OpsW.nil ?_)
  refine AW.cond rfl (fun h => absurd h (by simp)) (fun _ => AW.skip ?_)
  refine AW.seq (AW.sreg [] fun K hK => ?_)
  simp only [go_sem, Nat.reduceBEq, Nat.reduceAdd]
  refine ⟨_, CallOK.pure en93 rfl h4, ?_⟩
  simp only [go_sem, Nat.reduceBEq, Nat.reduceAdd]
  refine hK _ _ (OpsW.nil ?_)
  refine AW.cond rfl (fun h => absurd h (by simp)) (fun _ => AW.skip ?_)
  refine AW.sreg [] fun K hK => ?_
  simp only [go_sem, Nat.reduceBEq, Nat.reduceAdd]
  exact hK _ _ (OpsW.nil (AW.ret (Ends.one' rfl rfl)))

theorem eqPending_a {L : Nat → Nat} (hL : ∀ z, L z ≤ 4611686018427387904) (x : Dt.GPending) : PureC L Try.prog 147 [encPending false x, encPending false x] (.v (.bool true)) := eqPending_c x (eqNodeS_a hL x.fBack)
theorem szPending_c {L : Nat → Nat} (x : Dt.GPending) (h4 : ∀ r : Int, 0 ≤ r → r ≤ 1048576 → PureC L Try.prog 79 [.sl false 3 (x.fBack.map (encNode false)), .v (.int .i64 r)] (.v (.int .i64 (szSl szNode x.fBack r)))) (left : Int) (g0 : 0 ≤ left) (g1 : left ≤ 1048576) : PureC L Try.prog 141 [encPending false x, .v (.int .i64 left)] (.v (.int .i64 (szPending x left))) := by
  refine PureC.of_body Try.func141 rfl rfl ?_
  rw [Try.ntmps141]
  simp only [go_sem]
  refine AW.aggStr 0 rfl (s := x.fName) (by simp) fun b3 => ?_
  refine AW.sreg [] fun K hK => ?_
  simp only [go_sem, Nat.reduceBEq, Nat.reduceAdd]
  refine hK _ _ (OpsW.nil ?_)
  refine AW.sreg [] fun K hK => ?_
  simp only [go_sem, Nat.reduceBEq, Nat.reduceAdd]
  rw [wrap_i64 (by omega) (by omega)]
  refine hK _ _ (OpsW.nil ?_)
  refine AW.seq (AW.sreg [] fun K hK => ?_)
  simp only [go_sem, Nat.reduceBEq, Nat.reduceAdd]
  refine hK _ _ (OpsW.nil ?_)
  refine AW.cond rfl (fun h => ?_) (fun h => ?_)
  · have q3 : (left - (x.fName.length : Int)) < 0 := by simpa using h
    refine AW.sreg [] fun K hK => ?_
    simp only [go_sem, Nat.reduceBEq, Nat.reduceAdd]
    refine hK _ _ (OpsW.nil (AW.ret (Ends.one' rfl ?_)))
    have p3 : (szStr x.fName left) < 0 := q3
    rw [szPending, thn_neg p3]; rfl
  have q3 : ¬ ((left - (x.fName.length : Int)) < 0) := by simpa using h
  have p3 : ¬ ((szStr x.fName left) < 0) := q3
  clear h
  refine AW.skip ?_
  refine AW.sreg [] fun K hK => ?_
  simp only [go_sem, Nat.reduceBEq, Nat.reduceAdd]
  refine ⟨_, CallOK.pure en79 rfl (h4 (left - (x.fName.length : Int)) (by omega) (by omega)), ?_⟩
  simp only [go_sem, Nat.reduceBEq, Nat.reduceAdd]
  have e4 := szSl_le szNode (fun y r hr => szNode_le y r hr) x.fBack (left - (x.fName.length : Int)) (by omega)
  refine hK _ _ (OpsW.nil ?_)
  refine AW.seq (AW.sreg [] fun K hK => ?_)
  simp only [go_sem, Nat.reduceBEq, Nat.reduceAdd]
  refine hK _ _ (OpsW.nil ?_)
  refine AW.cond rfl (fun h => ?_) (fun h => ?_)
  · have q4 : (szSl szNode x.fBack (left - (x.fName.length : Int))) < 0 := by simpa using h
    refine AW.sreg [] fun K hK => ?_
    simp only [go_sem, Nat.reduceBEq, Nat.reduceAdd]
    refine hK _ _ (OpsW.nil (AW.ret (Ends.one' rfl ?_)))
    have p4 : (szSl szNode x.fBack (szStr x.fName left)) < 0 := q4
    rw [szPending, thn_pos p3, thn_neg p4]; rfl
  have q4 : ¬ ((szSl szNode x.fBack (left - (x.fName.length : Int))) < 0) := by simpa using h
  have p4 : ¬ ((szSl szNode x.fBack (szStr x.fName left)) < 0) := q4
  clear h
  refine AW.skip ?_
  refine AW.sreg [] fun K hK => ?_
  simp only [go_sem, Nat.reduceBEq, Nat.reduceAdd]
  refine hK _ _ (OpsW.nil (AW.ret (Ends.one' rfl ?_)))
  rw [szPending, thn_pos p3, thn_pos p4]; rfl

theorem szPending_a {L : Nat → Nat} (hL : ∀ z, L z ≤ 4611686018427387904) (x : Dt.GPending) (r : Int) (r0 : 0 ≤ r) (r1 : r ≤ 1048576) : PureC L Try.prog 141 [encPending false x, .v (.int .i64 r)] (.v (.int .i64 (szPending x r))) := szPending_c x (szNodeS_a hL x.fBack) r r0 r1
theorem toPending_c {L : Nat → Nat} (x : Dt.GPending) (h4 : PureC L Try.prog 86 [.sl false 3 (x.fBack.map (encNode false))] (.sl true 3 (x.fBack.map (encNode true)))) : PureC L Try.prog 144 [encPending false x] (encPending true x) := by
  refine PureC.of_body Try.func144 rfl rfl ?_
  rw [Try.ntmps144]
  refine AW.sreg [] fun K hK => ?_
  simp only [go_sem, Nat.reduceBEq, Nat.reduceAdd]
  refine hK _ _ (OpsW.alloc rfl rfl rfl rfl zer_113 fun K hK b2 hb2 => ?_)
  simp only [go_sem, Nat.reduceBEq, Nat.reduceAdd]
  refine hK _ _ (OpsW.nil ?_)
  refine AW.sreg [] fun K hK => ?_
  simp only [go_sem, Nat.reduceBEq, Nat.reduceAdd]
  refine hK _ _ (OpsW.alloc rfl rfl rfl rfl zer_113 fun K hK b3 hb3 => ?_)
  have hne : b2 ≠ b3 := hb3 b2 _ (by simp only [O, if_true]; rfl)
  have hne' : b3 ≠ b2 := fun e => hne e.symm
  simp only [go_sem, Nat.reduceBEq, Nat.reduceAdd]
  refine hK _ _ (OpsW.nil ?_)
  refine AW.sreg [] fun K hK => ?_
  simp only [go_sem, Nat.reduceBEq, Nat.reduceAdd, hne, hne']
  refine hK _ _ (OpsW.store rfl rfl rfl rfl rfl (by simp only [O, if_true]; rfl) ty_4 rfl (by rfl) (by rfl) (by simp) fun K hK => ?_)
  simp only [go_sem, Nat.reduceBEq, Nat.reduceAdd]
  refine hK _ _ (OpsW.nil ?_)
  refine AW.sreg [] fun K hK => ?_
  simp only [go_sem, Nat.reduceBEq, Nat.reduceAdd, hne, hne']
  refine hK _ _ (OpsW.store rfl rfl rfl rfl rfl (by simp only [O, if_true]; rfl) ty_3 rfl (by rfl) (by rfl) (by simp) fun K hK => ?_)
  simp only [go_sem, Nat.reduceBEq, Nat.reduceAdd]
  refine hK _ _ (OpsW.nil ?_)
  refine AW.sreg [] fun K hK => ?_
  simp only [go_sem, Nat.reduceBEq, Nat.reduceAdd, hne, hne']
  refine hK _ _ (OpsW.store rfl rfl rfl rfl rfl (by simp only [O, if_true]; rfl) ty_3 rfl (by rfl) (by rfl) (by simp) fun K hK => ?_)
  simp only [go_sem, Nat.reduceBEq, Nat.reduceAdd]
  refine hK _ _ (OpsW.nil ?_)
  refine AW.sreg [] fun K hK => ?_
  simp only [go_sem, Nat.reduceBEq, Nat.reduceAdd, hne, hne']
  refine hK _ _ (OpsW.store rfl rfl rfl rfl rfl (by simp only [O, if_true]; rfl) ty_9 rfl (by rfl) (by rfl) (by simp) fun K hK => ?_)
  simp only [go_sem, Nat.reduceBEq, Nat.reduceAdd]
  refine hK _ _ (OpsW.nil ?_)
  refine AW.sreg [] fun K hK => ?_
  simp only [go_sem, Nat.reduceBEq, Nat.reduceAdd, hne, hne']
  refine ⟨_, CallOK.pure en86 rfl h4, ?_⟩
  try simp only [go_sem, Nat.reduceBEq, Nat.reduceAdd, hne, hne']
  refine hK _ _ (OpsW.store rfl rfl rfl rfl rfl (by simp only [O, if_true]; rfl) ty_76 rfl (by rfl) (by rfl) (by simp) fun K hK => ?_)
  simp only [go_sem, Nat.reduceBEq, Nat.reduceAdd]
  refine hK _ _ (OpsW.nil ?_)
  refine AW.sreg [20] fun K hK => ?_
  simp only [go_sem, Nat.reduceBEq, Nat.reduceAdd]
  refine hK _ _ (OpsW.take rfl rfl rfl rfl rfl (by simp only [O, if_true]; rfl) ty_113 rfl fun K hK => ?_)
  simp only [go_sem, Nat.reduceBEq, Nat.reduceAdd]
  refine hK _ _ (OpsW.store rfl rfl rfl rfl rfl (by simp only [O, hne', if_false, if_true]; rfl) ty_113 rfl (by rfl) (by rfl) (by simp) fun K hK => ?_)
  simp only [go_sem, Nat.reduceBEq, Nat.reduceAdd]
  refine hK _ _ (OpsW.nil (AW.ret ?_))
  simp only [go_sem]
  exact Ends.res rfl (ResOK.cell rfl (by simp only [O, if_true]; rfl) ty_113 rfl)

theorem toPending_a (x : Dt.GPending) : PureC lim Try.prog 144 [encPending false x] (encPending true x) := toPending_c x (toNodeS_a x.fBack)
theorem toPending_v (x : Dt.GPending) : PureC lim Try.prog 144 [encPending false x] (encPending false x) := by
  have := (toPending_a x).frz
  rwa [encPending_frz] at this
theorem eqStore_c {L : Nat → Nat} (x : Dt.GStore) (h0 : PureC L Try.prog 145 [.sl false 19 (x.fSchema.map (encSchema false)), .sl false 19 (x.fSchema.map (encSchema false))] (.v (.bool true))) (h1 : PureC L Try.prog 93 [.sl false 3 (x.fRunning.map (encNode false)), .sl false 3 (x.fRunning.map (encNode false))] (.v (.bool true))) (h2 : PureC L Try.prog 93 [.sl false 3 (x.fDraft.map (encNode false)), .sl false 3 (x.fDraft.map (encNode false))] (.v (.bool true))) (h4 : PureC L Try.prog 146 [.sl false 3 (x.fPast.map (encVersion false)), .sl false 3 (x.fPast.map (encVersion false))] (.v (.bool true))) (h5 : PureC L Try.prog 147 [encPending false x.fWait, encPending false x.fWait] (.v (.bool true))) : PureC L Try.prog 103 [encStore false x, encStore false x] (.v (.bool true)) := by
  refine PureC.of_body Try.func103 rfl rfl ?_
  rw [Try.ntmps103]
  refine AW.sreg [] fun K hK => ?_
  simp only [go_sem, Nat.reduceBEq, Nat.reduceAdd]
  refine hK _ _ (OpsW.nil ?_)
  refine AW.seq (AW.sreg [] fun K hK => ?_)
  simp only [go_sem, Nat.reduceBEq, Nat.reduceAdd]
  refine ⟨_, CallOK.pure en145 rfl h0, ?_⟩
  simp only [go_sem, Nat.reduceBEq, Nat.reduceAdd]
  refine hK _ _ (OpsW.nil ?_)
  refine AW.cond rfl (fun h => absurd h (by simp)) (fun _ => AW.skip ?_)
  refine AW.seq (AW.sreg [] fun K hK => ?_)
  simp only [go_sem, Nat.reduceBEq, Nat.reduceAdd]
  refine ⟨_, CallOK.pure en93 rfl h1, ?_⟩
  simp only [go_sem, Nat.reduceBEq, Nat.reduceAdd]
  refine hK _ _ (OpsW.nil ?_)
  refine AW.cond rfl (fun h => absurd h (by simp)) (fun _ => AW.skip ?_)
  refine AW.seq (AW.sreg [] fun K hK => ?_)
  simp only [go_sem, Nat.reduceBEq, Nat.reduceAdd]
  refine ⟨_, CallOK.pure en93 rfl h2, ?_⟩
  simp only [go_sem, Nat.reduceBEq, Nat.reduceAdd]
  refine hK _ _ (OpsW.nil ?_)
  refine AW.cond rfl (fun h => absurd h (by simp)) (fun _ => AW.skip ?_)
  refine AW.seq (AW.sreg [] fun K hK => ?_)
  simp only [go_sem, Nat.reduceBEq, Nat.reduceAdd]
  refine hK _ _ (OpsW.nil ?_)
  refine AW.cond rfl (fun h => absurd h (by simp)) (fun _ => AW.skip ?_)
  refine AW.seq (AW.sreg [] fun K hK => ?_)
  simp only [go_sem, Nat.reduceBEq, Nat.reduceAdd]
  refine ⟨_, CallOK.pure en146 rfl h4, ?_⟩
  simp only [go_sem, Nat.reduceBEq, Nat.reduceAdd]
  refine hK _ _ (OpsW.nil ?_)
  refine AW.cond rfl (fun h => absurd h (by simp)) (fun _ => AW.skip ?_)
  refine AW.seq (AW.sreg [] fun K hK => ?_)
  simp only [go_sem, Nat.reduceBEq, Nat.reduceAdd]
  refine ⟨_, CallOK.pure en147 rfl h5, ?_⟩
  simp only [go_sem, Nat.reduceBEq, Nat.reduceAdd]
  refine hK _ _ (OpsW.nil ?_)
  refine AW.cond rfl (fun h => absurd h (by simp)) (fun _ => AW.skip ?_)
  refine AW.sreg [] fun K hK => ?_
  simp only [go_sem, Nat.reduceBEq, Nat.reduceAdd]
  exact hK _ _ (OpsW.nil (AW.ret (Ends.one' rfl rfl)))

theorem eqStore_a {L : Nat → Nat} (hL : ∀ z, L z ≤ 4611686018427387904) (x : Dt.GStore) : PureC L Try.prog 103 [encStore false x, encStore false x] (.v (.bool true)) := eqStore_c x (eqSchemaS_a hL x.fSchema) (eqNodeS_a hL x.fRunning) (eqNodeS_a hL x.fDraft) (eqVersionS_a hL x.fPast) (eqPending_a hL x.fWait)
theorem szStore_c {L : Nat → Nat} (x : Dt.GStore) (h0 : ∀ r : Int, 0 ≤ r → r ≤ 1048576 → PureC L Try.prog 139 [.sl false 19 (x.fSchema.map (encSchema false)), .v (.int .i64 r)] (.v (.int .i64 (szSl szSchema x.fSchema r)))) (h1 : ∀ r : Int, 0 ≤ r → r ≤ 1048576 → PureC L Try.prog 79 [.sl false 3 (x.fRunning.map (encNode false)), .v (.int .i64 r)] (.v (.int .i64 (szSl szNode x.fRunning r)))) (h2 : ∀ r : Int, 0 ≤ r → r ≤ 1048576 → PureC L Try.prog 79 [.sl false 3 (x.fDraft.map (encNode false)), .v (.int .i64 r)] (.v (.int .i64 (szSl szNode x.fDraft r)))) (h4 : ∀ r : Int, 0 ≤ r → r ≤ 1048576 → PureC L Try.prog 140 [.sl false 3 (x.fPast.map (encVersion false)), .v (.int .i64 r)] (.v (.int .i64 (szSl szVersion x.fPast r)))) (h5 : ∀ r : Int, 0 ≤ r → r ≤ 1048576 → PureC L Try.prog 141 [encPending false x.fWait, .v (.int .i64 r)] (.v (.int .i64 (szPending x.fWait r)))) (left : Int) (g0 : 0 ≤ left) (g1 : left ≤ 1048576) : PureC L Try.prog 101 [encStore false x, .v (.int .i64 left)] (.v (.int .i64 (szStore x left))) := by
  refine PureC.of_body Try.func101 rfl rfl ?_
  rw [Try.ntmps101]
  refine AW.sreg [] fun K hK => ?_
  simp only [go_sem, Nat.reduceBEq, Nat.reduceAdd]
  refine hK _ _ (OpsW.nil ?_)
  refine AW.sreg [] fun K hK => ?_
  simp only [go_sem, Nat.reduceBEq, Nat.reduceAdd]
  refine ⟨_, CallOK.pure en139 rfl (h0 left (by omega) (by omega)), ?_⟩
  simp only [go_sem, Nat.reduceBEq, Nat.reduceAdd]
  have e0 := szSl_le szSchema (fun y r hr => szSchema_le y r hr) x.fSchema left (by omega)
  refine hK _ _ (OpsW.nil ?_)
  refine AW.seq (AW.sreg [] fun K hK => ?_)
  simp only [go_sem, Nat.reduceBEq, Nat.reduceAdd]
  refine hK _ _ (OpsW.nil ?_)
  refine AW.cond rfl (fun h => ?_) (fun h => ?_)
  · have q0 : (szSl szSchema x.fSchema left) < 0 := by simpa using h
    refine AW.sreg [] fun K hK => ?_
    simp only [go_sem, Nat.reduceBEq, Nat.reduceAdd]
    refine hK _ _ (OpsW.nil (AW.ret (Ends.one' rfl ?_)))
    have p0 : (szSl szSchema x.fSchema left) < 0 := q0
    rw [szStore, thn_neg p0]; rfl
  have q0 : ¬ ((szSl szSchema x.fSchema left) < 0) := by simpa using h
  have p0 : ¬ ((szSl szSchema x.fSchema left) < 0) := q0
  clear h
  refine AW.skip ?_
  refine AW.sreg [] fun K hK => ?_
  simp only [go_sem, Nat.reduceBEq, Nat.reduceAdd]
  refine ⟨_, CallOK.pure en79 rfl (h1 (szSl szSchema x.fSchema left) (by omega) (by omega)), ?_⟩
  simp only [go_sem, Nat.reduceBEq, Nat.reduceAdd]
  have e1 := szSl_le szNode (fun y r hr => szNode_le y r hr) x.fRunning (szSl szSchema x.fSchema left) (by omega)
  refine hK _ _ (OpsW.nil ?_)
  refine AW.seq (AW.sreg [] fun K hK => ?_)
  simp only [go_sem, Nat.reduceBEq, Nat.reduceAdd]
  refine hK _ _ (OpsW.nil ?_)
  refine AW.cond rfl (fun h => ?_) (fun h => ?_)
  · have q1 : (szSl szNode x.fRunning (szSl szSchema x.fSchema left)) < 0 := by simpa using h
    refine AW.sreg [] fun K hK => ?_
    simp only [go_sem, Nat.reduceBEq, Nat.reduceAdd]
    refine hK _ _ (OpsW.nil (AW.ret (Ends.one' rfl ?_)))
    have p1 : (szSl szNode x.fRunning (szSl szSchema x.fSchema left)) < 0 := q1
    rw [szStore, thn_pos p0, thn_neg p1]; rfl
  have q1 : ¬ ((szSl szNode x.fRunning (szSl szSchema x.fSchema left)) < 0) := by simpa using h
  have p1 : ¬ ((szSl szNode x.fRunning (szSl szSchema x.fSchema left)) < 0) := q1
  clear h
  refine AW.skip ?_
  refine AW.sreg [] fun K hK => ?_
  simp only [go_sem, Nat.reduceBEq, Nat.reduceAdd]
  refine ⟨_, CallOK.pure en79 rfl (h2 (szSl szNode x.fRunning (szSl szSchema x.fSchema left)) (by omega) (by omega)), ?_⟩
  simp only [go_sem, Nat.reduceBEq, Nat.reduceAdd]
  have e2 := szSl_le szNode (fun y r hr => szNode_le y r hr) x.fDraft (szSl szNode x.fRunning (szSl szSchema x.fSchema left)) (by omega)
  refine hK _ _ (OpsW.nil ?_)
  refine AW.seq (AW.sreg [] fun K hK => ?_)
  simp only [go_sem, Nat.reduceBEq, Nat.reduceAdd]
  refine hK _ _ (OpsW.nil ?_)
  refine AW.cond rfl (fun h => ?_) (fun h => ?_)
  · have q2 : (szSl szNode x.fDraft (szSl szNode x.fRunning (szSl szSchema x.fSchema left))) < 0 := by simpa using h
    refine AW.sreg [] fun K hK => ?_
    simp only [go_sem, Nat.reduceBEq, Nat.reduceAdd]
    refine hK _ _ (OpsW.nil (AW.ret (Ends.one' rfl ?_)))
    have p2 : (szSl szNode x.fDraft (szSl szNode x.fRunning (szSl szSchema x.fSchema left))) < 0 := q2
    rw [szStore, thn_pos p0, thn_pos p1, thn_neg p2]; rfl
  have q2 : ¬ ((szSl szNode x.fDraft (szSl szNode x.fRunning (szSl szSchema x.fSchema left))) < 0) := by simpa using h
  have p2 : ¬ ((szSl szNode x.fDraft (szSl szNode x.fRunning (szSl szSchema x.fSchema left))) < 0) := q2
  clear h
  refine AW.skip ?_
  refine AW.sreg [] fun K hK => ?_
  simp only [go_sem, Nat.reduceBEq, Nat.reduceAdd]
  refine ⟨_, CallOK.pure en140 rfl (h4 (szSl szNode x.fDraft (szSl szNode x.fRunning (szSl szSchema x.fSchema left))) (by omega) (by omega)), ?_⟩
  simp only [go_sem, Nat.reduceBEq, Nat.reduceAdd]
  have e4 := szSl_le szVersion (fun y r hr => szVersion_le y r hr) x.fPast (szSl szNode x.fDraft (szSl szNode x.fRunning (szSl szSchema x.fSchema left))) (by omega)
  refine hK _ _ (OpsW.nil ?_)
  refine AW.seq (AW.sreg [] fun K hK => ?_)
  simp only [go_sem, Nat.reduceBEq, Nat.reduceAdd]
  refine hK _ _ (OpsW.nil ?_)
  refine AW.cond rfl (fun h => ?_) (fun h => ?_)
  · have q4 : (szSl szVersion x.fPast (szSl szNode x.fDraft (szSl szNode x.fRunning (szSl szSchema x.fSchema left)))) < 0 := by simpa using h
    refine AW.sreg [] fun K hK => ?_
    simp only [go_sem, Nat.reduceBEq, Nat.reduceAdd]
    refine hK _ _ (OpsW.nil (AW.ret (Ends.one' rfl ?_)))
    have p4 : (szSl szVersion x.fPast (szSl szNode x.fDraft (szSl szNode x.fRunning (szSl szSchema x.fSchema left)))) < 0 := q4
    rw [szStore, thn_pos p0, thn_pos p1, thn_pos p2, thn_neg p4]; rfl
  have q4 : ¬ ((szSl szVersion x.fPast (szSl szNode x.fDraft (szSl szNode x.fRunning (szSl szSchema x.fSchema left)))) < 0) := by simpa using h
  have p4 : ¬ ((szSl szVersion x.fPast (szSl szNode x.fDraft (szSl szNode x.fRunning (szSl szSchema x.fSchema left)))) < 0) := q4
  clear h
  refine AW.skip ?_
  refine AW.sreg [] fun K hK => ?_
  simp only [go_sem, Nat.reduceBEq, Nat.reduceAdd]
  refine ⟨_, CallOK.pure en141 rfl (h5 (szSl szVersion x.fPast (szSl szNode x.fDraft (szSl szNode x.fRunning (szSl szSchema x.fSchema left)))) (by omega) (by omega)), ?_⟩
  simp only [go_sem, Nat.reduceBEq, Nat.reduceAdd]
  have e5 := szPending_le x.fWait (szSl szVersion x.fPast (szSl szNode x.fDraft (szSl szNode x.fRunning (szSl szSchema x.fSchema left)))) (by omega)
  refine hK _ _ (OpsW.nil ?_)
  refine AW.seq (AW.sreg [] fun K hK => ?_)
  simp only [go_sem, Nat.reduceBEq, Nat.reduceAdd]
  refine hK _ _ (OpsW.nil ?_)
  refine AW.cond rfl (fun h => ?_) (fun h => ?_)
  · have q5 : (szPending x.fWait (szSl szVersion x.fPast (szSl szNode x.fDraft (szSl szNode x.fRunning (szSl szSchema x.fSchema left))))) < 0 := by simpa using h
    refine AW.sreg [] fun K hK => ?_
    simp only [go_sem, Nat.reduceBEq, Nat.reduceAdd]
    refine hK _ _ (OpsW.nil (AW.ret (Ends.one' rfl ?_)))
    have p5 : (szPending x.fWait (szSl szVersion x.fPast (szSl szNode x.fDraft (szSl szNode x.fRunning (szSl szSchema x.fSchema left))))) < 0 := q5
    rw [szStore, thn_pos p0, thn_pos p1, thn_pos p2, thn_pos p4, thn_neg p5]; rfl
  have q5 : ¬ ((szPending x.fWait (szSl szVersion x.fPast (szSl szNode x.fDraft (szSl szNode x.fRunning (szSl szSchema x.fSchema left))))) < 0) := by simpa using h
  have p5 : ¬ ((szPending x.fWait (szSl szVersion x.fPast (szSl szNode x.fDraft (szSl szNode x.fRunning (szSl szSchema x.fSchema left))))) < 0) := q5
  clear h
  refine AW.skip ?_
  refine AW.sreg [] fun K hK => ?_
  simp only [go_sem, Nat.reduceBEq, Nat.reduceAdd]
  refine hK _ _ (OpsW.nil (AW.ret (Ends.one' rfl ?_)))
  rw [szStore, thn_pos p0, thn_pos p1, thn_pos p2, thn_pos p4, thn_pos p5]; rfl

theorem szStore_a {L : Nat → Nat} (hL : ∀ z, L z ≤ 4611686018427387904) (x : Dt.GStore) (r : Int) (r0 : 0 ≤ r) (r1 : r ≤ 1048576) : PureC L Try.prog 101 [encStore false x, .v (.int .i64 r)] (.v (.int .i64 (szStore x r))) := szStore_c x (szSchemaS_a hL x.fSchema) (szNodeS_a hL x.fRunning) (szNodeS_a hL x.fDraft) (szVersionS_a hL x.fPast) (szPending_a hL x.fWait) r r0 r1
theorem toStore_c {L : Nat → Nat} (x : Dt.GStore) (h0 : PureC L Try.prog 142 [.sl false 19 (x.fSchema.map (encSchema false))] (.sl true 19 (x.fSchema.map (encSchema true)))) (h1 : PureC L Try.prog 86 [.sl false 3 (x.fRunning.map (encNode false))] (.sl true 3 (x.fRunning.map (encNode true)))) (h2 : PureC L Try.prog 86 [.sl false 3 (x.fDraft.map (encNode false))] (.sl true 3 (x.fDraft.map (encNode true)))) (h4 : PureC L Try.prog 143 [.sl false 3 (x.fPast.map (encVersion false))] (.sl true 3 (x.fPast.map (encVersion true)))) (h5 : PureC L Try.prog 144 [encPending false x.fWait] (encPending true x.fWait)) : PureC L Try.prog 102 [encStore false x] (encStore true x) := by
  refine PureC.of_body Try.func102 rfl rfl ?_
  rw [Try.ntmps102]
  refine AW.sreg [] fun K hK => ?_
  simp only [go_sem, Nat.reduceBEq, Nat.reduceAdd]
  refine hK _ _ (OpsW.alloc rfl rfl rfl rfl zer_115 fun K hK b2 hb2 => ?_)
  simp only [go_sem, Nat.reduceBEq, Nat.reduceAdd]
  refine hK _ _ (OpsW.nil ?_)
  refine AW.sreg [] fun K hK => ?_
  simp only [go_sem, Nat.reduceBEq, Nat.reduceAdd]
  refine hK _ _ (OpsW.alloc rfl rfl rfl rfl zer_115 fun K hK b3 hb3 => ?_)
  have hne : b2 ≠ b3 := hb3 b2 _ (by simp only [O, if_true]; rfl)
  have hne' : b3 ≠ b2 := fun e => hne e.symm
  simp only [go_sem, Nat.reduceBEq, Nat.reduceAdd]
  refine hK _ _ (OpsW.nil ?_)
  refine AW.sreg [] fun K hK => ?_
  simp only [go_sem, Nat.reduceBEq, Nat.reduceAdd, hne, hne']
  refine ⟨_, CallOK.pure en142 rfl h0, ?_⟩
  try simp only [go_sem, Nat.reduceBEq, Nat.reduceAdd, hne, hne']
  refine hK _ _ (OpsW.store rfl rfl rfl rfl rfl (by simp only [O, if_true]; rfl) ty_110 rfl (by rfl) (by rfl) (by simp) fun K hK => ?_)
  simp only [go_sem, Nat.reduceBEq, Nat.reduceAdd]
  refine hK _ _ (OpsW.nil ?_)
  refine AW.sreg [] fun K hK => ?_
  simp only [go_sem, Nat.reduceBEq, Nat.reduceAdd, hne, hne']
  refine ⟨_, CallOK.pure en86 rfl h1, ?_⟩
  try simp only [go_sem, Nat.reduceBEq, Nat.reduceAdd, hne, hne']
  refine hK _ _ (OpsW.store rfl rfl rfl rfl rfl (by simp only [O, if_true]; rfl) ty_76 rfl (by rfl) (by rfl) (by simp) fun K hK => ?_)
  simp only [go_sem, Nat.reduceBEq, Nat.reduceAdd]
  refine hK _ _ (OpsW.nil ?_)
  refine AW.sreg [] fun K hK => ?_
  simp only [go_sem, Nat.reduceBEq, Nat.reduceAdd, hne, hne']
  refine ⟨_, CallOK.pure en86 rfl h2, ?_⟩
  try simp only [go_sem, Nat.reduceBEq, Nat.reduceAdd, hne, hne']
  refine hK _ _ (OpsW.store rfl rfl rfl rfl rfl (by simp only [O, if_true]; rfl) ty_76 rfl (by rfl) (by rfl) (by simp) fun K hK => ?_)
  simp only [go_sem, Nat.reduceBEq, Nat.reduceAdd]
  refine hK _ _ (OpsW.nil ?_)
  refine AW.sreg [] fun K hK => ?_
  simp only [go_sem, Nat.reduceBEq, Nat.reduceAdd, hne, hne']
  refine hK _ _ (OpsW.store rfl rfl rfl rfl rfl (by simp only [O, if_true]; rfl) ty_3 rfl (by rfl) (by rfl) (by simp) fun K hK => ?_)
  simp only [go_sem, Nat.reduceBEq, Nat.reduceAdd]
  refine hK _ _ (OpsW.nil ?_)
  refine AW.sreg [] fun K hK => ?_
  simp only [go_sem, Nat.reduceBEq, Nat.reduceAdd, hne, hne']
  refine ⟨_, CallOK.pure en143 rfl h4, ?_⟩
  try simp only [go_sem, Nat.reduceBEq, Nat.reduceAdd, hne, hne']
  refine hK _ _ (OpsW.store rfl rfl rfl rfl rfl (by simp only [O, if_true]; rfl) ty_111 rfl (by rfl) (by rfl) (by simp) fun K hK => ?_)
  simp only [go_sem, Nat.reduceBEq, Nat.reduceAdd]
  refine hK _ _ (OpsW.nil ?_)
  refine AW.sreg [] fun K hK => ?_
  simp only [go_sem, Nat.reduceBEq, Nat.reduceAdd, hne, hne']
  refine ⟨_, CallOK.pure en144 rfl h5, ?_⟩
  try simp only [go_sem, Nat.reduceBEq, Nat.reduceAdd, hne, hne']
  refine hK _ _ (OpsW.store rfl rfl rfl rfl rfl (by simp only [O, if_true]; rfl) ty_113 rfl (by rfl) (by rfl) (by simp) fun K hK => ?_)
  simp only [go_sem, Nat.reduceBEq, Nat.reduceAdd]
  refine hK _ _ (OpsW.nil ?_)
  refine AW.sreg [27] fun K hK => ?_
  simp only [go_sem, Nat.reduceBEq, Nat.reduceAdd]
  refine hK _ _ (OpsW.take rfl rfl rfl rfl rfl (by simp only [O, if_true]; rfl) ty_115 rfl fun K hK => ?_)
  simp only [go_sem, Nat.reduceBEq, Nat.reduceAdd]
  refine hK _ _ (OpsW.store rfl rfl rfl rfl rfl (by simp only [O, hne', if_false, if_true]; rfl) ty_115 rfl (by rfl) (by rfl) (by simp) fun K hK => ?_)
  simp only [go_sem, Nat.reduceBEq, Nat.reduceAdd]
  refine hK _ _ (OpsW.nil (AW.ret ?_))
  simp only [go_sem]
  exact Ends.res rfl (ResOK.cell rfl (by simp only [O, if_true]; rfl) ty_115 rfl)

theorem toStore_a (x : Dt.GStore) : PureC lim Try.prog 102 [encStore false x] (encStore true x) := toStore_c x (toSchemaS_a x.fSchema) (toNodeS_a x.fRunning) (toNodeS_a x.fDraft) (toVersionS_a x.fPast) (toPending_a x.fWait)
theorem toStore_v (x : Dt.GStore) : PureC lim Try.prog 102 [encStore false x] (encStore false x) := by
  have := (toStore_a x).frz
  rwa [encStore_frz] at this
theorem eqArgS_c {L : Nat → Nat} (hL : ∀ z, L z ≤ 4611686018427387904) (l : List Dt.GArg) (hx : ∀ x, x ∈ l → PureC L Try.prog 57 [encArg false x, encArg false x] (.v (.bool true))) : PureC L Try.prog 23 [.sl false 2 (l.map (encArg false)), .sl false 2 (l.map (encArg false))] (.v (.bool true)) := by
  refine PureC.of_body Try.func23 rfl rfl ?_
  rw [Try.ntmps23]
  refine AW.len 0 rfl fun hlen => ?_
  have hlen' := Nat.le_trans hlen (hL 2)
  rw [List.length_map] at hlen'
  clear hlen
  refine AW.sreg [] fun K hK => ?_
  simp only [go_sem, Nat.reduceBEq, Nat.reduceAdd]
  refine hK _ _ (OpsW.nil ?_)
  refine AW.seq (AW.sreg [] fun K hK => ?_)
  simp only [go_sem, Nat.reduceBEq, Nat.reduceAdd]
  refine hK _ _ (OpsW.nil ?_)
  refine AW.cond rfl (fun h => absurd h (by simp)) (fun _ => AW.skip ?_)
  refine AW.seq (AW.sreg [] fun K hK => ?_)
  simp only [go_sem, Nat.reduceBEq, Nat.reduceAdd]
  refine hK _ _ (OpsW.nil ?_)
  refine AW.block (AW.loopK [0, 1, 5] (fun m t => ∃ k : Nat, t = [(0, .sl false 2 (l.map (encArg false))), (1, .sl false 2 (l.map (encArg false))), (5, .v (.int .i64 k))] ∧ m = l.length - k ∧ k ≤ l.length) l.length ⟨0, rfl, by simp, by simp⟩ ?_)
  rintro m t ⟨k, rfl, rfl, hk⟩
  refine AW.seq (AW.sreg [] fun K hK => ?_)
  simp only [go_sem, Nat.reduceBEq, Nat.reduceAdd]
  refine hK _ _ (OpsW.nil ?_)
  refine AW.cond rfl (fun h => ?_) (fun h => ?_)
  · have hlt : k < l.length := by simpa using h
    clear h
    refine AW.skip (AW.seq (AW.block (AW.sdrw [] fun K hK => ?_)))
    simp only [go_sem, Nat.reduceBEq, Nat.reduceAdd, hlt]
    refine ⟨_, CallOK.pure en57 rfl (by have := hx l[k] (List.getElem_mem hlt); simpa only [go_sem] using this), ?_⟩
    simp only [go_sem, Nat.reduceBEq, Nat.reduceAdd]
    refine hK _ _ ?_ ?_
    · kernel_rfl
    refine OpsW.nil ?_
    refine AW.cond rfl (fun h => absurd h (by simp)) (fun _ => ?_)
    refine AW.skip (AW.reg [] fun K hK => ?_)
    simp only [go_sem, Nat.reduceBEq, Nat.reduceAdd]
    refine hK _ _ (OpsW.nil ⟨rfl, l.length - (k + 1), by omega, k + 1, ?_, rfl, hlt⟩)
    simp only [go_sem, Nat.reduceBEq, Nat.reduceAdd]
    rw [wrap_i64 (by omega) (by omega)]; rfl
  · refine AW.exit ?_
    simp only [blockQ, thenQ, if_true]
    refine AW.sreg [] fun K hK => ?_
    simp only [go_sem, Nat.reduceBEq, Nat.reduceAdd]
    exact hK _ _ (OpsW.nil (AW.ret (Ends.one' rfl rfl)))

theorem eqArg_c {L : Nat → Nat} (x : Dt.GArg) : PureC L Try.prog 57 [encArg false x, encArg false x] (.v (.bool true)) := by
  refine PureC.of_body Try.func57 rfl rfl ?_
  rw [Try.ntmps57]
  refine AW.sreg [] fun K hK => ?_
  simp only [go_sem, Nat.reduceBEq, Nat.reduceAdd]
  refine hK _ _ (OpsW.nil ?_)
  refine AW.seq (AW.sreg [] fun K hK => ?_)
  simp only [go_sem, Nat.reduceBEq, Nat.reduceAdd]
  refine hK _ _ (OpsW.nil ?_)
  refine AW.cond rfl (fun h => absurd h (by simp)) (fun _ => AW.skip ?_)
  refine AW.seq (AW.sreg [] fun K hK => ?_)
  simp only [go_sem, Nat.reduceBEq, Nat.reduceAdd]
  refine hK _ _ (OpsW.nil ?_)
  refine AW.cond rfl (fun h => absurd h (by simp)) (fun _ => AW.skip ?_)
  refine AW.sreg [] fun K hK => ?_
  simp only [go_sem, Nat.reduceBEq, Nat.reduceAdd]
  exact hK _ _ (OpsW.nil (AW.ret (Ends.one' rfl rfl)))

theorem eqArg_a {L : Nat → Nat} (hL : ∀ z, L z ≤ 4611686018427387904) (x : Dt.GArg) : PureC L Try.prog 57 [encArg false x, encArg false x] (.v (.bool true)) := eqArg_c x 
theorem eqArgS_a {L : Nat → Nat} (hL : ∀ z, L z ≤ 4611686018427387904) (l : List Dt.GArg) : PureC L Try.prog 23 [.sl false 2 (l.map (encArg false)), .sl false 2 (l.map (encArg false))] (.v (.bool true)) := eqArgS_c hL l fun x _ => eqArg_a hL x
theorem szArgS_c {L : Nat → Nat} (hL : ∀ z, L z ≤ 4611686018427387904) (l : List Dt.GArg) (hx : ∀ x, x ∈ l → ∀ r : Int, 0 ≤ r → r ≤ 1048576 → PureC L Try.prog 50 [encArg false x, .v (.int .i64 r)] (.v (.int .i64 (szArg x r))))
    (left : Int) (h0 : 0 ≤ left) (h1 : left ≤ 1048576) : PureC L Try.prog 19 [.sl false 2 (l.map (encArg false)), .v (.int .i64 left)] (.v (.int .i64 (szSl szArg l left))) := by
  refine PureC.of_body Try.func19 rfl rfl ?_
  rw [Try.ntmps19]
  refine AW.len 0 rfl fun hlen => ?_
  have hlen' := Nat.le_trans hlen (hL 2)
  rw [List.length_map] at hlen'
  clear hlen
  refine AW.sreg [] fun K hK => ?_
  simp only [go_sem, Nat.reduceBEq, Nat.reduceAdd]
  refine hK _ _ (OpsW.nil ?_)
  refine AW.sreg [] fun K hK => ?_
  simp only [go_sem, Nat.reduceBEq, Nat.reduceAdd]
  rw [wrap_i64 (by omega) (by omega)]
  refine hK _ _ (OpsW.nil ?_)
  refine AW.seq (AW.sreg [] fun K hK => ?_)
  simp only [go_sem, Nat.reduceBEq, Nat.reduceAdd]
  refine hK _ _ (OpsW.nil ?_)
  refine AW.cond rfl (fun h => ?_) (fun h => ?_)
  · have h2 : left - (l.length : Int) < 0 := by simpa using h
    refine AW.sreg [] fun K hK => ?_
    simp only [go_sem, Nat.reduceBEq, Nat.reduceAdd]
    refine hK _ _ (OpsW.nil (AW.ret (Ends.one' rfl ?_)))
    rw [szSl, thn, if_pos h2]; rfl
  have h2 : ¬ (left - (l.length : Int) < 0) := by simpa using h
  clear h
  refine AW.skip (AW.seq (AW.sreg [] fun K hK => ?_))
  simp only [go_sem, Nat.reduceBEq, Nat.reduceAdd]
  refine hK _ _ (OpsW.nil ?_)
  refine AW.block (AW.loopK [0, 1, 5] (fun m t => ∃ (k : Nat) (r : Int), t = [(0, .sl false 2 (l.map (encArg false))), (1, .v (.int .i64 r)), (5, .v (.int .i64 k))] ∧ m = l.length - k ∧ k ≤ l.length ∧ r = szGo szArg (l.take k) (left - l.length) ∧ 0 ≤ r ∧ r ≤ 1048576) l.length ⟨0, _, rfl, by simp, by simp, by simp [szGo], by omega, by omega⟩ ?_)
  rintro m t ⟨k, r, rfl, rfl, hk, hr, hr0, hr1⟩
  refine AW.seq (AW.sreg [] fun K hK => ?_)
  simp only [go_sem, Nat.reduceBEq, Nat.reduceAdd]
  refine hK _ _ (OpsW.nil ?_)
  refine AW.cond rfl (fun h => ?_) (fun h => ?_)
  · have hlt : k < l.length := by simpa using h
    clear h
    have hsn : szGo szArg (l.take (k + 1)) (left - l.length) = thn (szArg l[k] r) id := by
      rw [List.take_succ_eq_append_getElem hlt, szGo_snoc _ _ _ _ (by rw [← hr]; exact hr0), ← hr]
    have hle := szArg_le l[k] r hr0
    refine AW.skip (AW.seq (AW.block (AW.sreg [] fun K hK => ?_)))
    simp only [go_sem, Nat.reduceBEq, Nat.reduceAdd, hlt]
    refine ⟨_, CallOK.pure en50 rfl (by have := hx l[k] (List.getElem_mem hlt) r hr0 hr1; simpa only [go_sem] using this), ?_⟩
    simp only [go_sem, Nat.reduceBEq, Nat.reduceAdd]
    refine hK _ _ (OpsW.nil ?_)
    refine AW.sreg [] fun K hK => ?_
    simp only [go_sem, Nat.reduceBEq, Nat.reduceAdd]
    refine hK _ _ (OpsW.nil ?_)
    refine AW.cond rfl (fun h => ?_) (fun h => ?_)
    · have h3 : szArg l[k] r < 0 := by simpa using h
      refine AW.sreg [] fun K hK => ?_
      simp only [go_sem, Nat.reduceBEq, Nat.reduceAdd]
      refine hK _ _ (OpsW.nil (AW.ret (Ends.one' rfl ?_)))
      rw [thn, if_pos h3] at hsn
      have := szGo_neg szArg (l.take (k + 1)) (l.drop (k + 1)) _ hsn (List.ne_nil_of_length_pos (by rw [List.length_take]; omega))
      rw [List.take_append_drop] at this
      rw [szSl, thn, if_neg h2, this]; rfl
    · have h3 : ¬ (szArg l[k] r < 0) := by simpa using h
      clear h
      rw [thn, if_neg h3] at hsn
      refine AW.skip (AW.reg [] fun K hK => ?_)
      simp only [go_sem, Nat.reduceBEq, Nat.reduceAdd]
      refine hK _ _ (OpsW.nil ⟨rfl, l.length - (k + 1), by omega, k + 1, _, ?_, rfl, hlt, hsn.symm, by simp only [id]; omega, by simp only [id]; omega⟩)
      simp only [go_sem, Nat.reduceBEq, Nat.reduceAdd]
      rw [wrap_i64 (by omega) (by omega)]; rfl
  · have hge : k = l.length := by have := h; simp at this; omega
    subst hge
    refine AW.exit ?_
    simp only [blockQ, thenQ, if_true]
    refine AW.sreg [] fun K hK => ?_
    simp only [go_sem, Nat.reduceBEq, Nat.reduceAdd]
    refine hK _ _ (OpsW.nil (AW.ret (Ends.one' rfl ?_)))
    rw [List.take_of_length_le (Nat.le_refl _)] at hr
    rw [szSl, thn, if_neg h2, ← hr]; rfl

theorem szArg_c {L : Nat → Nat} (x : Dt.GArg) (left : Int) (g0 : 0 ≤ left) (g1 : left ≤ 1048576) : PureC L Try.prog 50 [encArg false x, .v (.int .i64 left)] (.v (.int .i64 (szArg x left))) := by
  refine PureC.of_body Try.func50 rfl rfl ?_
  rw [Try.ntmps50]
  simp only [go_sem]
  refine AW.aggStr 0 rfl (s := x.fName) (by simp) fun b0 => ?_
  refine AW.aggStr 0 rfl (s := x.fValue) (by simp) fun b1 => ?_
  refine AW.sreg [] fun K hK => ?_
  simp only [go_sem, Nat.reduceBEq, Nat.reduceAdd]
  refine hK _ _ (OpsW.nil ?_)
  refine AW.sreg [] fun K hK => ?_
  simp only [go_sem, Nat.reduceBEq, Nat.reduceAdd]
  rw [wrap_i64 (by omega) (by omega)]
  refine hK _ _ (OpsW.nil ?_)
  refine AW.seq (AW.sreg [] fun K hK => ?_)
  simp only [go_sem, Nat.reduceBEq, Nat.reduceAdd]
  refine hK _ _ (OpsW.nil ?_)
  refine AW.cond rfl (fun h => ?_) (fun h => ?_)
  · have q0 : (left - (x.fName.length : Int)) < 0 := by simpa using h
    refine AW.sreg [] fun K hK => ?_
    simp only [go_sem, Nat.reduceBEq, Nat.reduceAdd]
    refine hK _ _ (OpsW.nil (AW.ret (Ends.one' rfl ?_)))
    have p0 : (szStr x.fName left) < 0 := q0
    rw [szArg, thn_neg p0]; rfl
  have q0 : ¬ ((left - (x.fName.length : Int)) < 0) := by simpa using h
  have p0 : ¬ ((szStr x.fName left) < 0) := q0
  clear h
  refine AW.skip ?_
  refine AW.sreg [] fun K hK => ?_
  simp only [go_sem, Nat.reduceBEq, Nat.reduceAdd]
  rw [wrap_i64 (by omega) (by omega)]
  refine hK _ _ (OpsW.nil ?_)
  refine AW.seq (AW.sreg [] fun K hK => ?_)
  simp only [go_sem, Nat.reduceBEq, Nat.reduceAdd]
  refine hK _ _ (OpsW.nil ?_)
  refine AW.cond rfl (fun h => ?_) (fun h => ?_)
  · have q1 : ((left - (x.fName.length : Int)) - (x.fValue.length : Int)) < 0 := by simpa using h
    refine AW.sreg [] fun K hK => ?_
    simp only [go_sem, Nat.reduceBEq, Nat.reduceAdd]
    refine hK _ _ (OpsW.nil (AW.ret (Ends.one' rfl ?_)))
    have p1 : (szStr x.fValue (szStr x.fName left)) < 0 := q1
    rw [szArg, thn_pos p0, thn_neg p1]; rfl
  have q1 : ¬ (((left - (x.fName.length : Int)) - (x.fValue.length : Int)) < 0) := by simpa using h
  have p1 : ¬ ((szStr x.fValue (szStr x.fName left)) < 0) := q1
  clear h
  refine AW.skip ?_
  refine AW.sreg [] fun K hK => ?_
  simp only [go_sem, Nat.reduceBEq, Nat.reduceAdd]
  refine hK _ _ (OpsW.nil (AW.ret (Ends.one' rfl ?_)))
  rw [szArg, thn_pos p0, thn_pos p1]; rfl

theorem szArg_a {L : Nat → Nat} (hL : ∀ z, L z ≤ 4611686018427387904) (x : Dt.GArg) (r : Int) (r0 : 0 ≤ r) (r1 : r ≤ 1048576) : PureC L Try.prog 50 [encArg false x, .v (.int .i64 r)] (.v (.int .i64 (szArg x r))) := szArg_c x  r r0 r1
theorem szArgS_a {L : Nat → Nat} (hL : ∀ z, L z ≤ 4611686018427387904) (l : List Dt.GArg) (left : Int) (h0 : 0 ≤ left) (h1 : left ≤ 1048576) : PureC L Try.prog 19 [.sl false 2 (l.map (encArg false)), .v (.int .i64 left)] (.v (.int .i64 (szSl szArg l left))) := szArgS_c hL l (fun x _ => szArg_a hL x) left h0 h1
theorem toArgS_c (l : List Dt.GArg) (hx : ∀ x, x ∈ l → PureC lim Try.prog 52 [encArg false x] (encArg true x)) : PureC lim Try.prog 21 [.sl false 2 (l.map (encArg false))] (.sl true 2 (l.map (encArg true))) := by
  refine PureC.of_body Try.func21 rfl rfl ?_
  rw [Try.ntmps21]
  refine AW.len 0 rfl fun hlen => ?_
  rw [List.length_map] at hlen
  have hl : l.length ≤ 2147483648 := hlen
  refine AW.sreg [] fun K hK => ?_
  simp only [go_sem, Nat.reduceBEq, Nat.reduceAdd]
  refine hK _ _ (OpsW.nil ?_)
  refine AW.sreg [] fun K hK => ?_
  simp only [go_sem, Nat.reduceBEq, Nat.reduceAdd]
  refine hK _ _ (OpsW.mk rfl rfl rfl rfl elm_43 zer_95 rfl rfl rfl hlen (by omega) (fun K hK b hb => ?_) (by omega))
  simp only [go_sem, Nat.reduceBEq, Nat.reduceAdd]
  refine hK _ _ (OpsW.go [] fun K hK => ?_)
  simp only [go_sem, Nat.reduceBEq, Nat.reduceAdd]
  refine hK _ _ (OpsW.nil ?_)
  refine AW.seq (AW.sreg [] fun K hK => ?_)
  simp only [go_sem, Nat.reduceBEq, Nat.reduceAdd]
  refine hK _ _ (OpsW.nil ?_)
  refine AW.block (AW.loopO [0, 3, 4] (fun m t o => ∃ k b : Nat, t = [(0, .sl false 2 (l.map (encArg false))), (3, .arr b 0 l.length 2), (4, .v (.int .i64 k))] ∧ o = [(b, some (mkC (encArg true) [.string ⟨([] : List UInt8).toArray⟩, .string ⟨([] : List UInt8).toArray⟩] l k))] ∧ m = l.length - k ∧ k ≤ l.length) l.length [(b, some (mkC (encArg true) [.string ⟨([] : List UInt8).toArray⟩, .string ⟨([] : List UInt8).toArray⟩] l 0))] (by rw [mkC_zero]; exact fun _ _ h => h) ⟨0, b, rfl, rfl, by simp, by simp⟩ ?_)
  rintro m t o ⟨k, b, rfl, rfl, rfl, hk⟩
  have hC := mkC_len (encArg true) [.string ⟨([] : List UInt8).toArray⟩, .string ⟨([] : List UInt8).toArray⟩] 2 (fun x => by first | rfl | simp only [go_sem]) rfl l k hk
  refine AW.seq (AW.sreg [] fun K hK => ?_)
  simp only [go_sem, Nat.reduceBEq, Nat.reduceAdd]
  refine hK _ _ (OpsW.nil ?_)
  refine AW.cond rfl (fun h => ?_) (fun h => ?_)
  · have hlt : k < l.length := by simpa using h
    clear h
    have hst := mkC_step (encArg true) [.string ⟨([] : List UInt8).toArray⟩, .string ⟨([] : List UInt8).toArray⟩] 2 (fun x => by first | rfl | simp only [go_sem]) rfl l k hlt
    refine AW.skip (AW.seq (AW.block (AW.reg [] fun K hK => ?_)))
    simp only [go_sem, Nat.reduceBEq, Nat.reduceAdd, hlt]
    refine ⟨_, CallOK.pure en52 rfl (by have := hx l[k] (List.getElem_mem hlt); simpa only [go_sem] using this), ?_⟩
    try simp only [go_sem, Nat.reduceBEq, Nat.reduceAdd, hlt]
    refine hK _ _ ?_
    refine OpsW.store rfl rfl rfl rfl rfl (by simp only [O, if_true]; rfl) ty_95 rfl (by rfl) (by rfl) (by rw [hC]; omega) fun K hK => ?_
    simp only [go_sem, Nat.reduceBEq, Nat.reduceAdd]
    refine hK _ _ (OpsW.nil ?_)
    simp only [blockQ, thenQ]
    refine AW.reg [] fun K hK => ?_
    simp only [go_sem, Nat.reduceBEq, Nat.reduceAdd]
    refine hK _ _ (OpsW.nil ⟨rfl, l.length - (k + 1), [(b, some (mkC (encArg true) [.string ⟨([] : List UInt8).toArray⟩, .string ⟨([] : List UInt8).toArray⟩] l (k + 1)))], by omega, ⟨k + 1, b, ?_, rfl, rfl, hlt⟩, ?_⟩)
    · simp only [go_sem, Nat.reduceBEq, Nat.reduceAdd]
      rw [wrap_i64 (by omega) (by omega)]; rfl
    · intro q cs hq
      simp only [O] at hq ⊢
      split at hq
      · rename_i e; rw [if_pos e, ← hq, ← hst]; first | rfl | (simp only [go_sem]; done) | simp only [go_sem, hlt]
      · cases hq
  · have hge : k = l.length := by have := h; simp at this; omega
    subst hge
    refine AW.exit ?_
    simp only [blockQ, thenQ, if_true]
    refine AW.sreg [] fun K hK => ?_
    simp only [go_sem, Nat.reduceBEq, Nat.reduceAdd]
    refine hK _ _ (OpsW.nil (AW.ret ?_))
    refine Ends.res rfl (ResOK.pack rfl (by simp only [O, if_true]; rfl) (by simp) ?_ ?_)
    · rw [mkC_end, List.drop_zero, List.take_of_length_le (by rw [mkC_end] at hC; omega)]
    · intro z hz
      obtain ⟨y, _, rfl⟩ := List.mem_map.1 hz
      first | rfl | simp only [go_sem]

theorem toArg_c {L : Nat → Nat} (x : Dt.GArg) : PureC L Try.prog 52 [encArg false x] (encArg true x) := by
  refine PureC.of_body Try.func52 rfl rfl ?_
  rw [Try.ntmps52]
  refine AW.sreg [] fun K hK => ?_
  simp only [go_sem, Nat.reduceBEq, Nat.reduceAdd]
  refine hK _ _ (OpsW.alloc rfl rfl rfl rfl zer_95 fun K hK b2 hb2 => ?_)
  simp only [go_sem, Nat.reduceBEq, Nat.reduceAdd]
  refine hK _ _ (OpsW.nil ?_)
  refine AW.sreg [] fun K hK => ?_
  simp only [go_sem, Nat.reduceBEq, Nat.reduceAdd]
  refine hK _ _ (OpsW.alloc rfl rfl rfl rfl zer_95 fun K hK b3 hb3 => ?_)
  have hne : b2 ≠ b3 := hb3 b2 _ (by simp only [O, if_true]; rfl)
  have hne' : b3 ≠ b2 := fun e => hne e.symm
  simp only [go_sem, Nat.reduceBEq, Nat.reduceAdd]
  refine hK _ _ (OpsW.nil ?_)
  refine AW.sreg [] fun K hK => ?_
  simp only [go_sem, Nat.reduceBEq, Nat.reduceAdd, hne, hne']
  refine hK _ _ (OpsW.store rfl rfl rfl rfl rfl (by simp only [O, if_true]; rfl) ty_9 rfl (by rfl) (by rfl) (by simp) fun K hK => ?_)
  simp only [go_sem, Nat.reduceBEq, Nat.reduceAdd]
  refine hK _ _ (OpsW.nil ?_)
  refine AW.sreg [] fun K hK => ?_
  simp only [go_sem, Nat.reduceBEq, Nat.reduceAdd, hne, hne']
  refine hK _ _ (OpsW.store rfl rfl rfl rfl rfl (by simp only [O, if_true]; rfl) ty_9 rfl (by rfl) (by rfl) (by simp) fun K hK => ?_)
  simp only [go_sem, Nat.reduceBEq, Nat.reduceAdd]
  refine hK _ _ (OpsW.nil ?_)
  refine AW.sreg [10] fun K hK => ?_
  simp only [go_sem, Nat.reduceBEq, Nat.reduceAdd]
  refine hK _ _ (OpsW.take rfl rfl rfl rfl rfl (by simp only [O, if_true]; rfl) ty_95 rfl fun K hK => ?_)
  simp only [go_sem, Nat.reduceBEq, Nat.reduceAdd]
  refine hK _ _ (OpsW.store rfl rfl rfl rfl rfl (by simp only [O, hne', if_false, if_true]; rfl) ty_95 rfl (by rfl) (by rfl) (by simp) fun K hK => ?_)
  simp only [go_sem, Nat.reduceBEq, Nat.reduceAdd]
  refine hK _ _ (OpsW.nil (AW.ret ?_))
  simp only [go_sem]
  exact Ends.res rfl (ResOK.cell rfl (by simp only [O, if_true]; rfl) ty_95 rfl)

theorem toArg_a (x : Dt.GArg) : PureC lim Try.prog 52 [encArg false x] (encArg true x) := toArg_c x 
theorem toArg_v (x : Dt.GArg) : PureC lim Try.prog 52 [encArg false x] (encArg false x) := by
  have := (toArg_a x).frz
  rwa [encArg_frz] at this
theorem toArgS_a (l : List Dt.GArg) : PureC lim Try.prog 21 [.sl false 2 (l.map (encArg false))] (.sl true 2 (l.map (encArg true))) := toArgS_c l fun x _ => toArg_a x
theorem toArgS_v (l : List Dt.GArg) : PureC lim Try.prog 21 [.sl false 2 (l.map (encArg false))] (.sl false 2 (l.map (encArg false))) := by
  have := (toArgS_a l).frz
  rwa [show (AV.sl true 2 (l.map (encArg true))).frz = AV.sl false 2 (l.map (encArg false)) by simp only [AV.frz, cond_true, encArgM_frz]] at this
theorem eqParamS_c {L : Nat → Nat} (hL : ∀ z, L z ≤ 4611686018427387904) (l : List Dt.GParam) (hx : ∀ x, x ∈ l → PureC L Try.prog 136 [encParam false x, encParam false x] (.v (.bool true))) : PureC L Try.prog 92 [.sl false 6 (l.map (encParam false)), .sl false 6 (l.map (encParam false))] (.v (.bool true)) := by
  refine PureC.of_body Try.func92 rfl rfl ?_
  rw [Try.ntmps92]
  refine AW.len 0 rfl fun hlen => ?_
  have hlen' := Nat.le_trans hlen (hL 6)
  rw [List.length_map] at hlen'
  clear hlen
  refine AW.sreg [] fun K hK => ?_
  simp only [go_sem, Nat.reduceBEq, Nat.reduceAdd]
  refine hK _ _ (OpsW.nil ?_)
  refine AW.seq (AW.sreg [] fun K hK => ?_)
  simp only [go_sem, Nat.reduceBEq, Nat.reduceAdd]
  refine hK _ _ (OpsW.nil ?_)
  refine AW.cond rfl (fun h => absurd h (by simp)) (fun _ => AW.skip ?_)
  refine AW.seq (AW.sreg [] fun K hK => ?_)
  simp only [go_sem, Nat.reduceBEq, Nat.reduceAdd]
  refine hK _ _ (OpsW.nil ?_)
  refine AW.block (AW.loopK [0, 1, 5] (fun m t => ∃ k : Nat, t = [(0, .sl false 6 (l.map (encParam false))), (1, .sl false 6 (l.map (encParam false))), (5, .v (.int .i64 k))] ∧ m = l.length - k ∧ k ≤ l.length) l.length ⟨0, rfl, by simp, by simp⟩ ?_)
  rintro m t ⟨k, rfl, rfl, hk⟩
  refine AW.seq (AW.sreg [] fun K hK => ?_)
  simp only [go_sem, Nat.reduceBEq, Nat.reduceAdd]
  refine hK _ _ (OpsW.nil ?_)
  refine AW.cond rfl (fun h => ?_) (fun h => ?_)
  · have hlt : k < l.length := by simpa using h
    clear h
    refine AW.skip (AW.seq (AW.block (AW.sdrw [] fun K hK => ?_)))
    simp only [go_sem, Nat.reduceBEq, Nat.reduceAdd, hlt]
    refine ⟨_, CallOK.pure en136 rfl (by have := hx l[k] (List.getElem_mem hlt); simpa only [go_sem] using this), ?_⟩
    simp only [go_sem, Nat.reduceBEq, Nat.reduceAdd]
    refine hK _ _ ?_ ?_
    · kernel_rfl
    refine OpsW.nil ?_
    refine AW.cond rfl (fun h => absurd h (by simp)) (fun _ => ?_)
    refine AW.skip (AW.reg [] fun K hK => ?_)
    simp only [go_sem, Nat.reduceBEq, Nat.reduceAdd]
    refine hK _ _ (OpsW.nil ⟨rfl, l.length - (k + 1), by omega, k + 1, ?_, rfl, hlt⟩)
    simp only [go_sem, Nat.reduceBEq, Nat.reduceAdd]
    rw [wrap_i64 (by omega) (by omega)]; rfl
  · refine AW.exit ?_
    simp only [blockQ, thenQ, if_true]
    refine AW.sreg [] fun K hK => ?_
    simp only [go_sem, Nat.reduceBEq, Nat.reduceAdd]
    exact hK _ _ (OpsW.nil (AW.ret (Ends.one' rfl rfl)))

theorem eqParam_c {L : Nat → Nat} (x : Dt.GParam) (h1 : PureC L Try.prog 158 [encType false x.fType, encType false x.fType] (.v (.bool true))) : PureC L Try.prog 136 [encParam false x, encParam false x] (.v (.bool true)) := by
  refine PureC.of_body Try.func136 rfl rfl ?_
  rw [Try.ntmps136]
  refine AW.sreg [] fun K hK => ?_
  simp only [go_sem, Nat.reduceBEq, Nat.reduceAdd]
  refine hK _ _ (OpsW.nil ?_)
  refine AW.seq (AW.sreg [] fun K hK => ?_)
  simp only [go_sem, Nat.reduceBEq, Nat.reduceAdd]
  refine hK _ _ (OpsW.nil ?_)
  refine AW.cond rfl (fun h => absurd h (by simp)) (fun _ => AW.skip ?_)
  refine AW.seq (AW.sreg [] fun K hK => ?_)
  simp only [go_sem, Nat.reduceBEq, Nat.reduceAdd]
  refine ⟨_, CallOK.pure en158 rfl h1, ?_⟩
  simp only [go_sem, Nat.reduceBEq, Nat.reduceAdd]
  refine hK _ _ (OpsW.nil ?_)
  refine AW.cond rfl (fun h => absurd h (by simp)) (fun _ => AW.skip ?_)
  refine AW.sreg [] fun K hK => ?_
  simp only [go_sem, Nat.reduceBEq, Nat.reduceAdd]
  exact hK _ _ (OpsW.nil (AW.ret (Ends.one' rfl rfl)))

theorem eqParam_a {L : Nat → Nat} (hL : ∀ z, L z ≤ 4611686018427387904) (x : Dt.GParam) : PureC L Try.prog 136 [encParam false x, encParam false x] (.v (.bool true)) := eqParam_c x (eqType_a hL x.fType)
theorem eqParamS_a {L : Nat → Nat} (hL : ∀ z, L z ≤ 4611686018427387904) (l : List Dt.GParam) : PureC L Try.prog 92 [.sl false 6 (l.map (encParam false)), .sl false 6 (l.map (encParam false))] (.v (.bool true)) := eqParamS_c hL l fun x _ => eqParam_a hL x
theorem szParamS_c {L : Nat → Nat} (hL : ∀ z, L z ≤ 4611686018427387904) (l : List Dt.GParam) (hx : ∀ x, x ∈ l → ∀ r : Int, 0 ≤ r → r ≤ 1048576 → PureC L Try.prog 119 [encParam false x, .v (.int .i64 r)] (.v (.int .i64 (szParam x r))))
    (left : Int) (h0 : 0 ≤ left) (h1 : left ≤ 1048576) : PureC L Try.prog 78 [.sl false 6 (l.map (encParam false)), .v (.int .i64 left)] (.v (.int .i64 (szSl szParam l left))) := by
  refine PureC.of_body Try.func78 rfl rfl ?_
  rw [Try.ntmps78]
  refine AW.len 0 rfl fun hlen => ?_
  have hlen' := Nat.le_trans hlen (hL 6)
  rw [List.length_map] at hlen'
  clear hlen
  refine AW.sreg [] fun K hK => ?_
  simp only [go_sem, Nat.reduceBEq, Nat.reduceAdd]
  refine hK _ _ (OpsW.nil ?_)
  refine AW.sreg [] fun K hK => ?_
  simp only [go_sem, Nat.reduceBEq, Nat.reduceAdd]
  rw [wrap_i64 (by omega) (by omega)]
  refine hK _ _ (OpsW.nil ?_)
  refine AW.seq (AW.sreg [] fun K hK => ?_)
  simp only [go_sem, Nat.reduceBEq, Nat.reduceAdd]
  refine hK _ _ (OpsW.nil ?_)
  refine AW.cond rfl (fun h => ?_) (fun h => ?_)
  · have h2 : left - (l.length : Int) < 0 := by simpa using h
    refine AW.sreg [] fun K hK => ?_
    simp only [go_sem, Nat.reduceBEq, Nat.reduceAdd]
    refine hK _ _ (OpsW.nil (AW.ret (Ends.one' rfl ?_)))
    rw [szSl, thn, if_pos h2]; rfl
  have h2 : ¬ (left - (l.length : Int) < 0) := by simpa using h
  clear h
  refine AW.skip (AW.seq (AW.sreg [] fun K hK => ?_))
  simp only [go_sem, Nat.reduceBEq, Nat.reduceAdd]
  refine hK _ _ (OpsW.nil ?_)
  refine AW.block (AW.loopK [0, 1, 5] (fun m t => ∃ (k : Nat) (r : Int), t = [(0, .sl false 6 (l.map (encParam false))), (1, .v (.int .i64 r)), (5, .v (.int .i64 k))] ∧ m = l.length - k ∧ k ≤ l.length ∧ r = szGo szParam (l.take k) (left - l.length) ∧ 0 ≤ r ∧ r ≤ 1048576) l.length ⟨0, _, rfl, by simp, by simp, by simp [szGo], by omega, by omega⟩ ?_)
  rintro m t ⟨k, r, rfl, rfl, hk, hr, hr0, hr1⟩
  refine AW.seq (AW.sreg [] fun K hK => ?_)
  simp only [go_sem, Nat.reduceBEq, Nat.reduceAdd]
  refine hK _ _ (OpsW.nil ?_)
  refine AW.cond rfl (fun h => ?_) (fun h => ?_)
  · have hlt : k < l.length := by simpa using h
    clear h
    have hsn : szGo szParam (l.take (k + 1)) (left - l.length) = thn (szParam l[k] r) id := by
      rw [List.take_succ_eq_append_getElem hlt, szGo_snoc _ _ _ _ (by rw [← hr]; exact hr0), ← hr]
    have hle := szParam_le l[k] r hr0
    refine AW.skip (AW.seq (AW.block (AW.sreg [] fun K hK => ?_)))
    simp only [go_sem, Nat.reduceBEq, Nat.reduceAdd, hlt]
    refine ⟨_, CallOK.pure en119 rfl (by have := hx l[k] (List.getElem_mem hlt) r hr0 hr1; simpa only [go_sem] using this), ?_⟩
    simp only [go_sem, Nat.reduceBEq, Nat.reduceAdd]
    refine hK _ _ (OpsW.nil ?_)
    refine AW.sreg [] fun K hK => ?_
    simp only [go_sem, Nat.reduceBEq, Nat.reduceAdd]
    refine hK _ _ (OpsW.nil ?_)
    refine AW.cond rfl (fun h => ?_) (fun h => ?_)
    · have h3 : szParam l[k] r < 0 := by simpa using h
      refine AW.sreg [] fun K hK => ?_
      simp only [go_sem, Nat.reduceBEq, Nat.reduceAdd]
      refine hK _ _ (OpsW.nil (AW.ret (Ends.one' rfl ?_)))
      rw [thn, if_pos h3] at hsn
      have := szGo_neg szParam (l.take (k + 1)) (l.drop (k + 1)) _ hsn (List.ne_nil_of_length_pos (by rw [List.length_take]; omega))
      rw [List.take_append_drop] at this
      rw [szSl, thn, if_neg h2, this]; rfl
    · have h3 : ¬ (szParam l[k] r < 0) := by simpa using h
      clear h
      rw [thn, if_neg h3] at hsn
      refine AW.skip (AW.reg [] fun K hK => ?_)
      simp only [go_sem, Nat.reduceBEq, Nat.reduceAdd]
      refine hK _ _ (OpsW.nil ⟨rfl, l.length - (k + 1), by omega, k + 1, _, ?_, rfl, hlt, hsn.symm, by simp only [id]; omega, by simp only [id]; omega⟩)
      simp only [go_sem, Nat.reduceBEq, Nat.reduceAdd]
      rw [wrap_i64 (by omega) (by omega)]; rfl
  · have hge : k = l.length := by have := h; simp at this; omega
    subst hge
    refine AW.exit ?_
    simp only [blockQ, thenQ, if_true]
    refine AW.sreg [] fun K hK => ?_
    simp only [go_sem, Nat.reduceBEq, Nat.reduceAdd]
    refine hK _ _ (OpsW.nil (AW.ret (Ends.one' rfl ?_)))
    rw [List.take_of_length_le (Nat.le_refl _)] at hr
    rw [szSl, thn, if_neg h2, ← hr]; rfl

theorem szParam_c {L : Nat → Nat} (x : Dt.GParam) (h1 : ∀ r : Int, 0 ≤ r → r ≤ 1048576 → PureC L Try.prog 152 [encType false x.fType, .v (.int .i64 r)] (.v (.int .i64 (szType x.fType r)))) (left : Int) (g0 : 0 ≤ left) (g1 : left ≤ 1048576) : PureC L Try.prog 119 [encParam false x, .v (.int .i64 left)] (.v (.int .i64 (szParam x left))) := by
  refine PureC.of_body Try.func119 rfl rfl ?_
  rw [Try.ntmps119]
  simp only [go_sem]
  refine AW.aggStr 0 rfl (s := x.fName) (by simp) fun b0 => ?_
  refine AW.sreg [] fun K hK => ?_
  simp only [go_sem, Nat.reduceBEq, Nat.reduceAdd]
  refine hK _ _ (OpsW.nil ?_)
  refine AW.sreg [] fun K hK => ?_
  simp only [go_sem, Nat.reduceBEq, Nat.reduceAdd]
  rw [wrap_i64 (by omega) (by omega)]
  refine hK _ _ (OpsW.nil ?_)
  refine AW.seq (AW.sreg [] fun K hK => ?_)
  simp only [go_sem, Nat.reduceBEq, Nat.reduceAdd]
  refine hK _ _ (OpsW.nil ?_)
  refine AW.cond rfl (fun h => ?_) (fun h => ?_)
  · have q0 : (left - (x.fName.length : Int)) < 0 := by simpa using h
    refine AW.sreg [] fun K hK => ?_
    simp only [go_sem, Nat.reduceBEq, Nat.reduceAdd]
    refine hK _ _ (OpsW.nil (AW.ret (Ends.one' rfl ?_)))
    have p0 : (szStr x.fName left) < 0 := q0
    rw [szParam, thn_neg p0]; rfl
  have q0 : ¬ ((left - (x.fName.length : Int)) < 0) := by simpa using h
  have p0 : ¬ ((szStr x.fName left) < 0) := q0
  clear h
  refine AW.skip ?_
  refine AW.sreg [] fun K hK => ?_
  simp only [go_sem, Nat.reduceBEq, Nat.reduceAdd]
  refine ⟨_, CallOK.pure en152 rfl (h1 (left - (x.fName.length : Int)) (by omega) (by omega)), ?_⟩
  simp only [go_sem, Nat.reduceBEq, Nat.reduceAdd]
  have e1 := szType_le x.fType (left - (x.fName.length : Int)) (by omega)
  refine hK _ _ (OpsW.nil ?_)
  refine AW.seq (AW.sreg [] fun K hK => ?_)
  simp only [go_sem, Nat.reduceBEq, Nat.reduceAdd]
  refine hK _ _ (OpsW.nil ?_)
  refine AW.cond rfl (fun h => ?_) (fun h => ?_)
  · have q1 : (szType x.fType (left - (x.fName.length : Int))) < 0 := by simpa using h
    refine AW.sreg [] fun K hK => ?_
    simp only [go_sem, Nat.reduceBEq, Nat.reduceAdd]
    refine hK _ _ (OpsW.nil (AW.ret (Ends.one' rfl ?_)))
    have p1 : (szType x.fType (szStr x.fName left)) < 0 := q1
    rw [szParam, thn_pos p0, thn_neg p1]; rfl
  have q1 : ¬ ((szType x.fType (left - (x.fName.length : Int))) < 0) := by simpa using h
  have p1 : ¬ ((szType x.fType (szStr x.fName left)) < 0) := q1
  clear h
  refine AW.skip ?_
  refine AW.sreg [] fun K hK => ?_
  simp only [go_sem, Nat.reduceBEq, Nat.reduceAdd]
  refine hK _ _ (OpsW.nil (AW.ret (Ends.one' rfl ?_)))
  rw [szParam, thn_pos p0, thn_pos p1]; rfl

theorem szParam_a {L : Nat → Nat} (hL : ∀ z, L z ≤ 4611686018427387904) (x : Dt.GParam) (r : Int) (r0 : 0 ≤ r) (r1 : r ≤ 1048576) : PureC L Try.prog 119 [encParam false x, .v (.int .i64 r)] (.v (.int .i64 (szParam x r))) := szParam_c x (szType_a hL x.fType) r r0 r1
theorem szParamS_a {L : Nat → Nat} (hL : ∀ z, L z ≤ 4611686018427387904) (l : List Dt.GParam) (left : Int) (h0 : 0 ≤ left) (h1 : left ≤ 1048576) : PureC L Try.prog 78 [.sl false 6 (l.map (encParam false)), .v (.int .i64 left)] (.v (.int .i64 (szSl szParam l left))) := szParamS_c hL l (fun x _ => szParam_a hL x) left h0 h1
theorem toParamS_c (l : List Dt.GParam) (hx : ∀ x, x ∈ l → PureC lim Try.prog 126 [encParam false x] (encParam true x)) : PureC lim Try.prog 85 [.sl false 6 (l.map (encParam false))] (.sl true 6 (l.map (encParam true))) := by
  refine PureC.of_body Try.func85 rfl rfl ?_
  rw [Try.ntmps85]
  refine AW.len 0 rfl fun hlen => ?_
  rw [List.length_map] at hlen
  have hl : l.length ≤ 2147483648 := hlen
  refine AW.sreg [] fun K hK => ?_
  simp only [go_sem, Nat.reduceBEq, Nat.reduceAdd]
  refine hK _ _ (OpsW.nil ?_)
  refine AW.sreg [] fun K hK => ?_
  simp only [go_sem, Nat.reduceBEq, Nat.reduceAdd]
  refine hK _ _ (OpsW.mk rfl rfl rfl rfl elm_75 zer_142 rfl rfl rfl hlen (by omega) (fun K hK b hb => ?_) (by omega))
  simp only [go_sem, Nat.reduceBEq, Nat.reduceAdd]
  refine hK _ _ (OpsW.go [] fun K hK => ?_)
  simp only [go_sem, Nat.reduceBEq, Nat.reduceAdd]
  refine hK _ _ (OpsW.nil ?_)
  refine AW.seq (AW.sreg [] fun K hK => ?_)
  simp only [go_sem, Nat.reduceBEq, Nat.reduceAdd]
  refine hK _ _ (OpsW.nil ?_)
  refine AW.block (AW.loopO [0, 3, 4] (fun m t o => ∃ k b : Nat, t = [(0, .sl false 6 (l.map (encParam false))), (3, .arr b 0 l.length 6), (4, .v (.int .i64 k))] ∧ o = [(b, some (mkC (encParam true) [.string ⟨([] : List UInt8).toArray⟩, .int .i64 0, .slice none 0 0, .slice none 0 0, .string ⟨([] : List UInt8).toArray⟩, .string ⟨([] : List UInt8).toArray⟩] l k))] ∧ m = l.length - k ∧ k ≤ l.length) l.length [(b, some (mkC (encParam true) [.string ⟨([] : List UInt8).toArray⟩, .int .i64 0, .slice none 0 0, .slice none 0 0, .string ⟨([] : List UInt8).toArray⟩, .string ⟨([] : List UInt8).toArray⟩] l 0))] (by rw [mkC_zero]; exact fun _ _ h => h) ⟨0, b, rfl, rfl, by simp, by simp⟩ ?_)
  rintro m t o ⟨k, b, rfl, rfl, rfl, hk⟩
  have hC := mkC_len (encParam true) [.string ⟨([] : List UInt8).toArray⟩, .int .i64 0, .slice none 0 0, .slice none 0 0, .string ⟨([] : List UInt8).toArray⟩, .string ⟨([] : List UInt8).toArray⟩] 6 (fun x => by first | rfl | simp only [go_sem]) rfl l k hk
  refine AW.seq (AW.sreg [] fun K hK => ?_)
  simp only [go_sem, Nat.reduceBEq, Nat.reduceAdd]
  refine hK _ _ (OpsW.nil ?_)
  refine AW.cond rfl (fun h => ?_) (fun h => ?_)
  · have hlt : k < l.length := by simpa using h
    clear h
    have hst := mkC_step (encParam true) [.string ⟨([] : List UInt8).toArray⟩, .int .i64 0, .slice none 0 0, .slice none 0 0, .string ⟨([] : List UInt8).toArray⟩, .string ⟨([] : List UInt8).toArray⟩] 6 (fun x => by first | rfl | simp only [go_sem]) rfl l k hlt
    refine AW.skip (AW.seq (AW.block (AW.reg [] fun K hK => ?_)))
    simp only [go_sem, Nat.reduceBEq, Nat.reduceAdd, hlt]
    refine ⟨_, CallOK.pure en126 rfl (by have := hx l[k] (List.getElem_mem hlt); simpa only [go_sem] using this), ?_⟩
    try simp only [go_sem, Nat.reduceBEq, Nat.reduceAdd, hlt]
    refine hK _ _ ?_
    refine OpsW.store rfl rfl rfl rfl rfl (by simp only [O, if_true]; rfl) ty_142 rfl (by rfl) (by rfl) (by rw [hC]; omega) fun K hK => ?_
    simp only [go_sem, Nat.reduceBEq, Nat.reduceAdd]
    refine hK _ _ (OpsW.nil ?_)
    simp only [blockQ, thenQ]
    refine AW.reg [] fun K hK => ?_
    simp only [go_sem, Nat.reduceBEq, Nat.reduceAdd]
    refine hK _ _ (OpsW.nil ⟨rfl, l.length - (k + 1), [(b, some (mkC (encParam true) [.string ⟨([] : List UInt8).toArray⟩, .int .i64 0, .slice none 0 0, .slice none 0 0, .string ⟨([] : List UInt8).toArray⟩, .string ⟨([] : List UInt8).toArray⟩] l (k + 1)))], by omega, ⟨k + 1, b, ?_, rfl, rfl, hlt⟩, ?_⟩)
    · simp only [go_sem, Nat.reduceBEq, Nat.reduceAdd]
      rw [wrap_i64 (by omega) (by omega)]; rfl
    · intro q cs hq
      simp only [O] at hq ⊢
      split at hq
      · rename_i e; rw [if_pos e, ← hq, ← hst]; first | rfl | (simp only [go_sem]; done) | simp only [go_sem, hlt]
      · cases hq
  · have hge : k = l.length := by have := h; simp at this; omega
    subst hge
    refine AW.exit ?_
    simp only [blockQ, thenQ, if_true]
    refine AW.sreg [] fun K hK => ?_
    simp only [go_sem, Nat.reduceBEq, Nat.reduceAdd]
    refine hK _ _ (OpsW.nil (AW.ret ?_))
    refine Ends.res rfl (ResOK.pack rfl (by simp only [O, if_true]; rfl) (by simp) ?_ ?_)
    · rw [mkC_end, List.drop_zero, List.take_of_length_le (by rw [mkC_end] at hC; omega)]
    · intro z hz
      obtain ⟨y, _, rfl⟩ := List.mem_map.1 hz
      first | rfl | simp only [go_sem]

theorem toParam_c {L : Nat → Nat} (x : Dt.GParam) (h1 : PureC L Try.prog 154 [encType false x.fType] (encType true x.fType)) : PureC L Try.prog 126 [encParam false x] (encParam true x) := by
  refine PureC.of_body Try.func126 rfl rfl ?_
  rw [Try.ntmps126]
  refine AW.sreg [] fun K hK => ?_
  simp only [go_sem, Nat.reduceBEq, Nat.reduceAdd]
  refine hK _ _ (OpsW.alloc rfl rfl rfl rfl zer_142 fun K hK b2 hb2 => ?_)
  simp only [go_sem, Nat.reduceBEq, Nat.reduceAdd]
  refine hK _ _ (OpsW.nil ?_)
  refine AW.sreg [] fun K hK => ?_
  simp only [go_sem, Nat.reduceBEq, Nat.reduceAdd]
  refine hK _ _ (OpsW.alloc rfl rfl rfl rfl zer_142 fun K hK b3 hb3 => ?_)
  have hne : b2 ≠ b3 := hb3 b2 _ (by simp only [O, if_true]; rfl)
  have hne' : b3 ≠ b2 := fun e => hne e.symm
  simp only [go_sem, Nat.reduceBEq, Nat.reduceAdd]
  refine hK _ _ (OpsW.nil ?_)
  refine AW.sreg [] fun K hK => ?_
  simp only [go_sem, Nat.reduceBEq, Nat.reduceAdd, hne, hne']
  refine hK _ _ (OpsW.store rfl rfl rfl rfl rfl (by simp only [O, if_true]; rfl) ty_9 rfl (by rfl) (by rfl) (by simp) fun K hK => ?_)
  simp only [go_sem, Nat.reduceBEq, Nat.reduceAdd]
  refine hK _ _ (OpsW.nil ?_)
  refine AW.sreg [] fun K hK => ?_
  simp only [go_sem, Nat.reduceBEq, Nat.reduceAdd, hne, hne']
  refine ⟨_, CallOK.pure en154 rfl h1, ?_⟩
  try simp only [go_sem, Nat.reduceBEq, Nat.reduceAdd, hne, hne']
  refine hK _ _ (OpsW.store rfl rfl rfl rfl rfl (by simp only [O, if_true]; rfl) ty_140 rfl (by rfl) (by rfl) (by simp) fun K hK => ?_)
  simp only [go_sem, Nat.reduceBEq, Nat.reduceAdd]
  refine hK _ _ (OpsW.nil ?_)
  refine AW.sreg [11] fun K hK => ?_
  simp only [go_sem, Nat.reduceBEq, Nat.reduceAdd]
  refine hK _ _ (OpsW.take rfl rfl rfl rfl rfl (by simp only [O, if_true]; rfl) ty_142 rfl fun K hK => ?_)
  simp only [go_sem, Nat.reduceBEq, Nat.reduceAdd]
  refine hK _ _ (OpsW.store rfl rfl rfl rfl rfl (by simp only [O, hne', if_false, if_true]; rfl) ty_142 rfl (by rfl) (by rfl) (by simp) fun K hK => ?_)
  simp only [go_sem, Nat.reduceBEq, Nat.reduceAdd]
  refine hK _ _ (OpsW.nil (AW.ret ?_))
  simp only [go_sem]
  exact Ends.res rfl (ResOK.cell rfl (by simp only [O, if_true]; rfl) ty_142 rfl)

theorem toParam_a (x : Dt.GParam) : PureC lim Try.prog 126 [encParam false x] (encParam true x) := toParam_c x (toType_a x.fType)
theorem toParam_v (x : Dt.GParam) : PureC lim Try.prog 126 [encParam false x] (encParam false x) := by
  have := (toParam_a x).frz
  rwa [encParam_frz] at this
theorem toParamS_a (l : List Dt.GParam) : PureC lim Try.prog 85 [.sl false 6 (l.map (encParam false))] (.sl true 6 (l.map (encParam true))) := toParamS_c l fun x _ => toParam_a x
theorem toParamS_v (l : List Dt.GParam) : PureC lim Try.prog 85 [.sl false 6 (l.map (encParam false))] (.sl false 6 (l.map (encParam false))) := by
  have := (toParamS_a l).frz
  rwa [show (AV.sl true 6 (l.map (encParam true))).frz = AV.sl false 6 (l.map (encParam false)) by simp only [AV.frz, cond_true, encParamM_frz]] at this
theorem eqTemplateS_c {L : Nat → Nat} (hL : ∀ z, L z ≤ 4611686018427387904) (l : List Dt.GTemplate) (hx : ∀ x, x ∈ l → PureC L Try.prog 40 [encTemplate false x, encTemplate false x] (.v (.bool true))) : PureC L Try.prog 72 [.sl false 3 (l.map (encTemplate false)), .sl false 3 (l.map (encTemplate false))] (.v (.bool true)) := by
  refine PureC.of_body Try.func72 rfl rfl ?_
  rw [Try.ntmps72]
  refine AW.len 0 rfl fun hlen => ?_
  have hlen' := Nat.le_trans hlen (hL 3)
  rw [List.length_map] at hlen'
  clear hlen
  refine AW.sreg [] fun K hK => ?_
  simp only [go_sem, Nat.reduceBEq, Nat.reduceAdd]
  refine hK _ _ (OpsW.nil ?_)
  refine AW.seq (AW.sreg [] fun K hK => ?_)
  simp only [go_sem, Nat.reduceBEq, Nat.reduceAdd]
  refine hK _ _ (OpsW.nil ?_)
  refine AW.cond rfl (fun h => absurd h (by simp)) (fun _ => AW.skip ?_)
  refine AW.seq (AW.sreg [] fun K hK => ?_)
  simp only [go_sem, Nat.reduceBEq, Nat.reduceAdd]
  refine hK _ _ (OpsW.nil ?_)
  refine AW.block (AW.loopK [0, 1, 5] (fun m t => ∃ k : Nat, t = [(0, .sl false 3 (l.map (encTemplate false))), (1, .sl false 3 (l.map (encTemplate false))), (5, .v (.int .i64 k))] ∧ m = l.length - k ∧ k ≤ l.length) l.length ⟨0, rfl, by simp, by simp⟩ ?_)
  rintro m t ⟨k, rfl, rfl, hk⟩
  refine AW.seq (AW.sreg [] fun K hK => ?_)
  simp only [go_sem, Nat.reduceBEq, Nat.reduceAdd]
  refine hK _ _ (OpsW.nil ?_)
  refine AW.cond rfl (fun h => ?_) (fun h => ?_)
  · have hlt : k < l.length := by simpa using h
    clear h
    refine AW.skip (AW.seq (AW.block (AW.sdrw [] fun K hK => ?_)))
    simp only [go_sem, Nat.reduceBEq, Nat.reduceAdd, hlt]
    refine ⟨_, CallOK.pure en40 rfl (by have := hx l[k] (List.getElem_mem hlt); simpa only [go_sem] using this), ?_⟩
    simp only [go_sem, Nat.reduceBEq, Nat.reduceAdd]
    refine hK _ _ ?_ ?_
    · kernel_rfl
    refine OpsW.nil ?_
    refine AW.cond rfl (fun h => absurd h (by simp)) (fun _ => ?_)
    refine AW.skip (AW.reg [] fun K hK => ?_)
    simp only [go_sem, Nat.reduceBEq, Nat.reduceAdd]
    refine hK _ _ (OpsW.nil ⟨rfl, l.length - (k + 1), by omega, k + 1, ?_, rfl, hlt⟩)
    simp only [go_sem, Nat.reduceBEq, Nat.reduceAdd]
    rw [wrap_i64 (by omega) (by omega)]; rfl
  · refine AW.exit ?_
    simp only [blockQ, thenQ, if_true]
    refine AW.sreg [] fun K hK => ?_
    simp only [go_sem, Nat.reduceBEq, Nat.reduceAdd]
    exact hK _ _ (OpsW.nil (AW.ret (Ends.one' rfl rfl)))

theorem eqTemplate_c {L : Nat → Nat} (x : Dt.GTemplate) (h1 : PureC L Try.prog 92 [.sl false 6 (x.fParams.map (encParam false)), .sl false 6 (x.fParams.map (encParam false))] (.v (.bool true))) (h2 : PureC L Try.prog 93 [.sl false 3 (x.fBody.map (encNode false)), .sl false 3 (x.fBody.map (encNode false))] (.v (.bool true))) : PureC L Try.prog 40 [encTemplate false x, encTemplate false x] (.v (.bool true)) := by
  refine PureC.of_body Try.func40 rfl rfl ?_
  rw [Try.ntmps40]
  refine AW.sreg [] fun K hK => ?_
  simp only [go_sem, Nat.reduceBEq, Nat.reduceAdd]
  refine hK _ _ (OpsW.nil ?_)
  refine AW.seq (AW.sreg [] fun K hK => ?_)
  simp only [go_sem, Nat.reduceBEq, Nat.reduceAdd]
  refine hK _ _ (OpsW.nil ?_)
  refine AW.cond rfl (fun h => absurd h (by simp)) (fun _ => AW.skip ?_)
  refine AW.seq (AW.sreg [] fun K hK => ?_)
  simp only [go_sem, Nat.reduceBEq, Nat.reduceAdd]
  refine ⟨_, CallOK.pure en92 rfl h1, ?_⟩
  simp only [go_sem, Nat.reduceBEq, Nat.reduceAdd]
  refine hK _ _ (OpsW.nil ?_)
  refine AW.cond rfl (fun h => absurd h (by simp)) (fun _ => AW.skip ?_)
  refine AW.seq (AW.sreg [] fun K hK => ?_)
  simp only [go_sem, Nat.reduceBEq, Nat.reduceAdd]
  refine ⟨_, CallOK.pure en93 rfl h2, ?_⟩
  simp only [go_sem, Nat.reduceBEq, Nat.reduceAdd]
  refine hK _ _ (OpsW.nil ?_)
  refine AW.cond rfl (fun h => absurd h (by simp)) (fun _ => AW.skip ?_)
  refine AW.sreg [] fun K hK => ?_
  simp only [go_sem, Nat.reduceBEq, Nat.reduceAdd]
  exact hK _ _ (OpsW.nil (AW.ret (Ends.one' rfl rfl)))

theorem eqTemplate_a {L : Nat → Nat} (hL : ∀ z, L z ≤ 4611686018427387904) (x : Dt.GTemplate) : PureC L Try.prog 40 [encTemplate false x, encTemplate false x] (.v (.bool true)) := eqTemplate_c x (eqParamS_a hL x.fParams) (eqNodeS_a hL x.fBody)
theorem eqTemplateS_a {L : Nat → Nat} (hL : ∀ z, L z ≤ 4611686018427387904) (l : List Dt.GTemplate) : PureC L Try.prog 72 [.sl false 3 (l.map (encTemplate false)), .sl false 3 (l.map (encTemplate false))] (.v (.bool true)) := eqTemplateS_c hL l fun x _ => eqTemplate_a hL x
theorem szTemplateS_c {L : Nat → Nat} (hL : ∀ z, L z ≤ 4611686018427387904) (l : List Dt.GTemplate) (hx : ∀ x, x ∈ l → ∀ r : Int, 0 ≤ r → r ≤ 1048576 → PureC L Try.prog 36 [encTemplate false x, .v (.int .i64 r)] (.v (.int .i64 (szTemplate x r))))
    (left : Int) (h0 : 0 ≤ left) (h1 : left ≤ 1048576) : PureC L Try.prog 63 [.sl false 3 (l.map (encTemplate false)), .v (.int .i64 left)] (.v (.int .i64 (szSl szTemplate l left))) := by
  refine PureC.of_body Try.func63 rfl rfl ?_
  rw [Try.ntmps63]
  refine AW.len 0 rfl fun hlen => ?_
  have hlen' := Nat.le_trans hlen (hL 3)
  rw [List.length_map] at hlen'
  clear hlen
  refine AW.sreg [] fun K hK => ?_
  simp only [go_sem, Nat.reduceBEq, Nat.reduceAdd]
  refine hK _ _ (OpsW.nil ?_)
  refine AW.sreg [] fun K hK => ?_
  simp only [go_sem, Nat.reduceBEq, Nat.reduceAdd]
  rw [wrap_i64 (by omega) (by omega)]
  refine hK _ _ (OpsW.nil ?_)
  refine AW.seq (AW.sreg [] fun K hK => ?_)
  simp only [go_sem, Nat.reduceBEq, Nat.reduceAdd]
  refine hK _ _ (OpsW.nil ?_)
  refine AW.cond rfl (fun h => ?_) (fun h => ?_)
  · have h2 : left - (l.length : Int) < 0 := by simpa using h
    refine AW.sreg [] fun K hK => ?_
    simp only [go_sem, Nat.reduceBEq, Nat.reduceAdd]
    refine hK _ _ (OpsW.nil (AW.ret (Ends.one' rfl ?_)))
    rw [szSl, thn, if_pos h2]; rfl
  have h2 : ¬ (left - (l.length : Int) < 0) := by simpa using h
  clear h
  refine AW.skip (AW.seq (AW.sreg [] fun K hK => ?_))
  simp only [go_sem, Nat.reduceBEq, Nat.reduceAdd]
  refine hK _ _ (OpsW.nil ?_)
  refine AW.block (AW.loopK [0, 1, 5] (fun m t => ∃ (k : Nat) (r : Int), t = [(0, .sl false 3 (l.map (encTemplate false))), (1, .v (.int .i64 r)), (5, .v (.int .i64 k))] ∧ m = l.length - k ∧ k ≤ l.length ∧ r = szGo szTemplate (l.take k) (left - l.length) ∧ 0 ≤ r ∧ r ≤ 1048576) l.length ⟨0, _, rfl, by simp, by simp, by simp [szGo], by omega, by omega⟩ ?_)
  rintro m t ⟨k, r, rfl, rfl, hk, hr, hr0, hr1⟩
  refine AW.seq (AW.sreg [] fun K hK => ?_)
  simp only [go_sem, Nat.reduceBEq, Nat.reduceAdd]
  refine hK _ _ (OpsW.nil ?_)
  refine AW.cond rfl (fun h => ?_) (fun h => ?_)
  · have hlt : k < l.length := by simpa using h
    clear h
    have hsn : szGo szTemplate (l.take (k + 1)) (left - l.length) = thn (szTemplate l[k] r) id := by
      rw [List.take_succ_eq_append_getElem hlt, szGo_snoc _ _ _ _ (by rw [← hr]; exact hr0), ← hr]
    have hle := szTemplate_le l[k] r hr0
    refine AW.skip (AW.seq (AW.block (AW.sreg [] fun K hK => ?_)))
    simp only [go_sem, Nat.reduceBEq, Nat.reduceAdd, hlt]
    refine ⟨_, CallOK.pure en36 rfl (by have := hx l[k] (List.getElem_mem hlt) r hr0 hr1; simpa only [go_sem] using this), ?_⟩
    simp only [go_sem, Nat.reduceBEq, Nat.reduceAdd]
    refine hK _ _ (OpsW.nil ?_)
    refine AW.sreg [] fun K hK => ?_
    simp only [go_sem, Nat.reduceBEq, Nat.reduceAdd]
    refine hK _ _ (OpsW.nil ?_)
    refine AW.cond rfl (fun h => ?_) (fun h => ?_)
    · have h3 : szTemplate l[k] r < 0 := by simpa using h
      refine AW.sreg [] fun K hK => ?_
      simp only [go_sem, Nat.reduceBEq, Nat.reduceAdd]
      refine hK _ _ (OpsW.nil (AW.ret (Ends.one' rfl ?_)))
      rw [thn, if_pos h3] at hsn
      have := szGo_neg szTemplate (l.take (k + 1)) (l.drop (k + 1)) _ hsn (List.ne_nil_of_length_pos (by rw [List.length_take]; omega))
      rw [List.take_append_drop] at this
      rw [szSl, thn, if_neg h2, this]; rfl
    · have h3 : ¬ (szTemplate l[k] r < 0) := by simpa using h
      clear h
      rw [thn, if_neg h3] at hsn
      refine AW.skip (AW.reg [] fun K hK => ?_)
      simp only [go_sem, Nat.reduceBEq, Nat.reduceAdd]
      refine hK _ _ (OpsW.nil ⟨rfl, l.length - (k + 1), by omega, k + 1, _, ?_, rfl, hlt, hsn.symm, by simp only [id]; omega, by simp only [id]; omega⟩)
      simp only [go_sem, Nat.reduceBEq, Nat.reduceAdd]
      rw [wrap_i64 (by omega) (by omega)]; rfl
  · have hge : k = l.length := by have := h; simp at this; omega
    subst hge
    refine AW.exit ?_
    simp only [blockQ, thenQ, if_true]
    refine AW.sreg [] fun K hK => ?_
    simp only [go_sem, Nat.reduceBEq, Nat.reduceAdd]
    refine hK _ _ (OpsW.nil (AW.ret (Ends.one' rfl ?_)))
    rw [List.take_of_length_le (Nat.le_refl _)] at hr
    rw [szSl, thn, if_neg h2, ← hr]; rfl

theorem szTemplate_c {L : Nat → Nat} (x : Dt.GTemplate) (h1 : ∀ r : Int, 0 ≤ r → r ≤ 1048576 → PureC L Try.prog 78 [.sl false 6 (x.fParams.map (encParam false)), .v (.int .i64 r)] (.v (.int .i64 (szSl szParam x.fParams r)))) (h2 : ∀ r : Int, 0 ≤ r → r ≤ 1048576 → PureC L Try.prog 79 [.sl false 3 (x.fBody.map (encNode false)), .v (.int .i64 r)] (.v (.int .i64 (szSl szNode x.fBody r)))) (left : Int) (g0 : 0 ≤ left) (g1 : left ≤ 1048576) : PureC L Try.prog 36 [encTemplate false x, .v (.int .i64 left)] (.v (.int .i64 (szTemplate x left))) := by
  refine PureC.of_body Try.func36 rfl rfl ?_
  rw [Try.ntmps36]
  simp only [go_sem]
  refine AW.aggStr 0 rfl (s := x.fName) (by simp) fun b0 => ?_
  refine AW.sreg [] fun K hK => ?_
  simp only [go_sem, Nat.reduceBEq, Nat.reduceAdd]
  refine hK _ _ (OpsW.nil ?_)
  refine AW.sreg [] fun K hK => ?_
  simp only [go_sem, Nat.reduceBEq, Nat.reduceAdd]
  rw [wrap_i64 (by omega) (by omega)]
  refine hK _ _ (OpsW.nil ?_)
  refine AW.seq (AW.sreg [] fun K hK => ?_)
  simp only [go_sem, Nat.reduceBEq, Nat.reduceAdd]
  refine hK _ _ (OpsW.nil ?_)
  refine AW.cond rfl (fun h => ?_) (fun h => ?_)
  · have q0 : (left - (x.fName.length : Int)) < 0 := by simpa using h
    refine AW.sreg [] fun K hK => ?_
    simp only [go_sem, Nat.reduceBEq, Nat.reduceAdd]
    refine hK _ _ (OpsW.nil (AW.ret (Ends.one' rfl ?_)))
    have p0 : (szStr x.fName left) < 0 := q0
    rw [szTemplate, thn_neg p0]; rfl
  have q0 : ¬ ((left - (x.fName.length : Int)) < 0) := by simpa using h
  have p0 : ¬ ((szStr x.fName left) < 0) := q0
  clear h
  refine AW.skip ?_
  refine AW.sreg [] fun K hK => ?_
  simp only [go_sem, Nat.reduceBEq, Nat.reduceAdd]
  refine ⟨_, CallOK.pure en78 rfl (h1 (left - (x.fName.length : Int)) (by omega) (by omega)), ?_⟩
  simp only [go_sem, Nat.reduceBEq, Nat.reduceAdd]
  have e1 := szSl_le szParam (fun y r hr => szParam_le y r hr) x.fParams (left - (x.fName.length : Int)) (by omega)
  refine hK _ _ (OpsW.nil ?_)
  refine AW.seq (AW.sreg [] fun K hK => ?_)
  simp only [go_sem, Nat.reduceBEq, Nat.reduceAdd]
  refine hK _ _ (OpsW.nil ?_)
  refine AW.cond rfl (fun h => ?_) (fun h => ?_)
  · have q1 : (szSl szParam x.fParams (left - (x.fName.length : Int))) < 0 := by simpa using h
    refine AW.sreg [] fun K hK => ?_
    simp only [go_sem, Nat.reduceBEq, Nat.reduceAdd]
    refine hK _ _ (OpsW.nil (AW.ret (Ends.one' rfl ?_)))
    have p1 : (szSl szParam x.fParams (szStr x.fName left)) < 0 := q1
    rw [szTemplate, thn_pos p0, thn_neg p1]; rfl
  have q1 : ¬ ((szSl szParam x.fParams (left - (x.fName.length : Int))) < 0) := by simpa using h
  have p1 : ¬ ((szSl szParam x.fParams (szStr x.fName left)) < 0) := q1
  clear h
  refine AW.skip ?_
  refine AW.sreg [] fun K hK => ?_
  simp only [go_sem, Nat.reduceBEq, Nat.reduceAdd]
  refine ⟨_, CallOK.pure en79 rfl (h2 (szSl szParam x.fParams (left - (x.fName.length : Int))) (by omega) (by omega)), ?_⟩
  simp only [go_sem, Nat.reduceBEq, Nat.reduceAdd]
  have e2 := szSl_le szNode (fun y r hr => szNode_le y r hr) x.fBody (szSl szParam x.fParams (left - (x.fName.length : Int))) (by omega)
  refine hK _ _ (OpsW.nil ?_)
  refine AW.seq (AW.sreg [] fun K hK => ?_)
  simp only [go_sem, Nat.reduceBEq, Nat.reduceAdd]
  refine hK _ _ (OpsW.nil ?_)
  refine AW.cond rfl (fun h => ?_) (fun h => ?_)
  · have q2 : (szSl szNode x.fBody (szSl szParam x.fParams (left - (x.fName.length : Int)))) < 0 := by simpa using h
    refine AW.sreg [] fun K hK => ?_
    simp only [go_sem, Nat.reduceBEq, Nat.reduceAdd]
    refine hK _ _ (OpsW.nil (AW.ret (Ends.one' rfl ?_)))
    have p2 : (szSl szNode x.fBody (szSl szParam x.fParams (szStr x.fName left))) < 0 := q2
    rw [szTemplate, thn_pos p0, thn_pos p1, thn_neg p2]; rfl
  have q2 : ¬ ((szSl szNode x.fBody (szSl szParam x.fParams (left - (x.fName.length : Int)))) < 0) := by simpa using h
  have p2 : ¬ ((szSl szNode x.fBody (szSl szParam x.fParams (szStr x.fName left))) < 0) := q2
  clear h
  refine AW.skip ?_
  refine AW.sreg [] fun K hK => ?_
  simp only [go_sem, Nat.reduceBEq, Nat.reduceAdd]
  refine hK _ _ (OpsW.nil (AW.ret (Ends.one' rfl ?_)))
  rw [szTemplate, thn_pos p0, thn_pos p1, thn_pos p2]; rfl

theorem szTemplate_a {L : Nat → Nat} (hL : ∀ z, L z ≤ 4611686018427387904) (x : Dt.GTemplate) (r : Int) (r0 : 0 ≤ r) (r1 : r ≤ 1048576) : PureC L Try.prog 36 [encTemplate false x, .v (.int .i64 r)] (.v (.int .i64 (szTemplate x r))) := szTemplate_c x (szParamS_a hL x.fParams) (szNodeS_a hL x.fBody) r r0 r1
theorem szTemplateS_a {L : Nat → Nat} (hL : ∀ z, L z ≤ 4611686018427387904) (l : List Dt.GTemplate) (left : Int) (h0 : 0 ≤ left) (h1 : left ≤ 1048576) : PureC L Try.prog 63 [.sl false 3 (l.map (encTemplate false)), .v (.int .i64 left)] (.v (.int .i64 (szSl szTemplate l left))) := szTemplateS_c hL l (fun x _ => szTemplate_a hL x) left h0 h1
theorem toTemplateS_c (l : List Dt.GTemplate) (hx : ∀ x, x ∈ l → PureC lim Try.prog 38 [encTemplate false x] (encTemplate true x)) : PureC lim Try.prog 66 [.sl false 3 (l.map (encTemplate false))] (.sl true 3 (l.map (encTemplate true))) := by
  refine PureC.of_body Try.func66 rfl rfl ?_
  rw [Try.ntmps66]
  refine AW.len 0 rfl fun hlen => ?_
  rw [List.length_map] at hlen
  have hl : l.length ≤ 2147483648 := hlen
  refine AW.sreg [] fun K hK => ?_
  simp only [go_sem, Nat.reduceBEq, Nat.reduceAdd]
  refine hK _ _ (OpsW.nil ?_)
  refine AW.sreg [] fun K hK => ?_
  simp only [go_sem, Nat.reduceBEq, Nat.reduceAdd]
  refine hK _ _ (OpsW.mk rfl rfl rfl rfl elm_59 zer_78 rfl rfl rfl hlen (by omega) (fun K hK b hb => ?_) (by omega))
  simp only [go_sem, Nat.reduceBEq, Nat.reduceAdd]
  refine hK _ _ (OpsW.go [] fun K hK => ?_)
  simp only [go_sem, Nat.reduceBEq, Nat.reduceAdd]
  refine hK _ _ (OpsW.nil ?_)
  refine AW.seq (AW.sreg [] fun K hK => ?_)
  simp only [go_sem, Nat.reduceBEq, Nat.reduceAdd]
  refine hK _ _ (OpsW.nil ?_)
  refine AW.block (AW.loopO [0, 3, 4] (fun m t o => ∃ k b : Nat, t = [(0, .sl false 3 (l.map (encTemplate false))), (3, .arr b 0 l.length 3), (4, .v (.int .i64 k))] ∧ o = [(b, some (mkC (encTemplate true) [.string ⟨([] : List UInt8).toArray⟩, .slice none 0 0, .slice none 0 0] l k))] ∧ m = l.length - k ∧ k ≤ l.length) l.length [(b, some (mkC (encTemplate true) [.string ⟨([] : List UInt8).toArray⟩, .slice none 0 0, .slice none 0 0] l 0))] (by rw [mkC_zero]; exact fun _ _ h => h) ⟨0, b, rfl, rfl, by simp, by simp⟩ ?_)
  rintro m t o ⟨k, b, rfl, rfl, rfl, hk⟩
  have hC := mkC_len (encTemplate true) [.string ⟨([] : List UInt8).toArray⟩, .slice none 0 0, .slice none 0 0] 3 (fun x => by first | rfl | simp only [go_sem]) rfl l k hk
  refine AW.seq (AW.sreg [] fun K hK => ?_)
  simp only [go_sem, Nat.reduceBEq, Nat.reduceAdd]
  refine hK _ _ (OpsW.nil ?_)
  refine AW.cond rfl (fun h => ?_) (fun h => ?_)
  · have hlt : k < l.length := by simpa using h
    clear h
    have hst := mkC_step (encTemplate true) [.string ⟨([] : List UInt8).toArray⟩, .slice none 0 0, .slice none 0 0] 3 (fun x => by first | rfl | simp only [go_sem]) rfl l k hlt
    refine AW.skip (AW.seq (AW.block (AW.reg [] fun K hK => ?_)))
    simp only [go_sem, Nat.reduceBEq, Nat.reduceAdd, hlt]
    refine ⟨_, CallOK.pure en38 rfl (by have := hx l[k] (List.getElem_mem hlt); simpa only [go_sem] using this), ?_⟩
    try simp only [go_sem, Nat.reduceBEq, Nat.reduceAdd, hlt]
    refine hK _ _ ?_
    refine OpsW.store rfl rfl rfl rfl rfl (by simp only [O, if_true]; rfl) ty_78 rfl (by rfl) (by rfl) (by rw [hC]; omega) fun K hK => ?_
    simp only [go_sem, Nat.reduceBEq, Nat.reduceAdd]
    refine hK _ _ (OpsW.nil ?_)
    simp only [blockQ, thenQ]
    refine AW.reg [] fun K hK => ?_
    simp only [go_sem, Nat.reduceBEq, Nat.reduceAdd]
    refine hK _ _ (OpsW.nil ⟨rfl, l.length - (k + 1), [(b, some (mkC (encTemplate true) [.string ⟨([] : List UInt8).toArray⟩, .slice none 0 0, .slice none 0 0] l (k + 1)))], by omega, ⟨k + 1, b, ?_, rfl, rfl, hlt⟩, ?_⟩)
    · simp only [go_sem, Nat.reduceBEq, Nat.reduceAdd]
      rw [wrap_i64 (by omega) (by omega)]; rfl
    · intro q cs hq
      simp only [O] at hq ⊢
      split at hq
      · rename_i e; rw [if_pos e, ← hq, ← hst]; first | rfl | (simp only [go_sem]; done) | simp only [go_sem, hlt]
      · cases hq
  · have hge : k = l.length := by have := h; simp at this; omega
    subst hge
    refine AW.exit ?_
    simp only [blockQ, thenQ, if_true]
    refine AW.sreg [] fun K hK => ?_
    simp only [go_sem, Nat.reduceBEq, Nat.reduceAdd]
    refine hK _ _ (OpsW.nil (AW.ret ?_))
    refine Ends.res rfl (ResOK.pack rfl (by simp only [O, if_true]; rfl) (by simp) ?_ ?_)
    · rw [mkC_end, List.drop_zero, List.take_of_length_le (by rw [mkC_end] at hC; omega)]
    · intro z hz
      obtain ⟨y, _, rfl⟩ := List.mem_map.1 hz
      first | rfl | simp only [go_sem]

theorem toTemplate_c {L : Nat → Nat} (x : Dt.GTemplate) (h1 : PureC L Try.prog 85 [.sl false 6 (x.fParams.map (encParam false))] (.sl true 6 (x.fParams.map (encParam true)))) (h2 : PureC L Try.prog 86 [.sl false 3 (x.fBody.map (encNode false))] (.sl true 3 (x.fBody.map (encNode true)))) : PureC L Try.prog 38 [encTemplate false x] (encTemplate true x) := by
  refine PureC.of_body Try.func38 rfl rfl ?_
  rw [Try.ntmps38]
  refine AW.sreg [] fun K hK => ?_
  simp only [go_sem, Nat.reduceBEq, Nat.reduceAdd]
  refine hK _ _ (OpsW.alloc rfl rfl rfl rfl zer_78 fun K hK b2 hb2 => ?_)
  simp only [go_sem, Nat.reduceBEq, Nat.reduceAdd]
  refine hK _ _ (OpsW.nil ?_)
  refine AW.sreg [] fun K hK => ?_
  simp only [go_sem, Nat.reduceBEq, Nat.reduceAdd]
  refine hK _ _ (OpsW.alloc rfl rfl rfl rfl zer_78 fun K hK b3 hb3 => ?_)
  have hne : b2 ≠ b3 := hb3 b2 _ (by simp only [O, if_true]; rfl)
  have hne' : b3 ≠ b2 := fun e => hne e.symm
  simp only [go_sem, Nat.reduceBEq, Nat.reduceAdd]
  refine hK _ _ (OpsW.nil ?_)
  refine AW.sreg [] fun K hK => ?_
  simp only [go_sem, Nat.reduceBEq, Nat.reduceAdd, hne, hne']
  refine hK _ _ (OpsW.store rfl rfl rfl rfl rfl (by simp only [O, if_true]; rfl) ty_9 rfl (by rfl) (by rfl) (by simp) fun K hK => ?_)
  simp only [go_sem, Nat.reduceBEq, Nat.reduceAdd]
  refine hK _ _ (OpsW.nil ?_)
  refine AW.sreg [] fun K hK => ?_
  simp only [go_sem, Nat.reduceBEq, Nat.reduceAdd, hne, hne']
  refine ⟨_, CallOK.pure en85 rfl h1, ?_⟩
  try simp only [go_sem, Nat.reduceBEq, Nat.reduceAdd, hne, hne']
  refine hK _ _ (OpsW.store rfl rfl rfl rfl rfl (by simp only [O, if_true]; rfl) ty_75 rfl (by rfl) (by rfl) (by simp) fun K hK => ?_)
  simp only [go_sem, Nat.reduceBEq, Nat.reduceAdd]
  refine hK _ _ (OpsW.nil ?_)
  refine AW.sreg [] fun K hK => ?_
  simp only [go_sem, Nat.reduceBEq, Nat.reduceAdd, hne, hne']
  refine ⟨_, CallOK.pure en86 rfl h2, ?_⟩
  try simp only [go_sem, Nat.reduceBEq, Nat.reduceAdd, hne, hne']
  refine hK _ _ (OpsW.store rfl rfl rfl rfl rfl (by simp only [O, if_true]; rfl) ty_76 rfl (by rfl) (by rfl) (by simp) fun K hK => ?_)
  simp only [go_sem, Nat.reduceBEq, Nat.reduceAdd]
  refine hK _ _ (OpsW.nil ?_)
  refine AW.sreg [15] fun K hK => ?_
  simp only [go_sem, Nat.reduceBEq, Nat.reduceAdd]
  refine hK _ _ (OpsW.take rfl rfl rfl rfl rfl (by simp only [O, if_true]; rfl) ty_78 rfl fun K hK => ?_)
  simp only [go_sem, Nat.reduceBEq, Nat.reduceAdd]
  refine hK _ _ (OpsW.store rfl rfl rfl rfl rfl (by simp only [O, hne', if_false, if_true]; rfl) ty_78 rfl (by rfl) (by rfl) (by simp) fun K hK => ?_)
  simp only [go_sem, Nat.reduceBEq, Nat.reduceAdd]
  refine hK _ _ (OpsW.nil (AW.ret ?_))
  simp only [go_sem]
  exact Ends.res rfl (ResOK.cell rfl (by simp only [O, if_true]; rfl) ty_78 rfl)

theorem toTemplate_a (x : Dt.GTemplate) : PureC lim Try.prog 38 [encTemplate false x] (encTemplate true x) := toTemplate_c x (toParamS_a x.fParams) (toNodeS_a x.fBody)
theorem toTemplate_v (x : Dt.GTemplate) : PureC lim Try.prog 38 [encTemplate false x] (encTemplate false x) := by
  have := (toTemplate_a x).frz
  rwa [encTemplate_frz] at this
theorem toTemplateS_a (l : List Dt.GTemplate) : PureC lim Try.prog 66 [.sl false 3 (l.map (encTemplate false))] (.sl true 3 (l.map (encTemplate true))) := toTemplateS_c l fun x _ => toTemplate_a x
theorem toTemplateS_v (l : List Dt.GTemplate) : PureC lim Try.prog 66 [.sl false 3 (l.map (encTemplate false))] (.sl false 3 (l.map (encTemplate false))) := by
  have := (toTemplateS_a l).frz
  rwa [show (AV.sl true 3 (l.map (encTemplate true))).frz = AV.sl false 3 (l.map (encTemplate false)) by simp only [AV.frz, cond_true, encTemplateM_frz]] at this
end Go.Proofs.Ytkdchlggdcmkbaa
