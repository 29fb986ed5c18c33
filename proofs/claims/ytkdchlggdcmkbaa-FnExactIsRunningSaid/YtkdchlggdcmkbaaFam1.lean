/-
  The helper functions of the laws over nodes, tasks and campaigns: what each returns.
-/
import Derived.Test.YtkdchlggdcmkbaaDat1
import Derived.Test.YtkdchlggdcmkbaaAbFx
import Derived.Test.YtkdchlggdcmkbaaTysTry
set_option linter.unusedSimpArgs false
set_option linter.unusedVariables false
namespace Go.Proofs.Ytkdchlggdcmkbaa
open Go.Ab Go.Dt
theorem eqNodeS_c {L : Nat → Nat} (hL : ∀ z, L z ≤ 4611686018427387904) (l : List Dt.Node) (hx : ∀ x, x ∈ l → PureC L Try.prog 137 [encNode false x, encNode false x] (.v (.bool true))) : PureC L Try.prog 93 [.sl false 3 (l.map (encNode false)), .sl false 3 (l.map (encNode false))] (.v (.bool true)) := by
  refine PureC.of_body Try.func93 rfl rfl ?_
  rw [Try.ntmps93]
  refine AW.len 0 rfl fun hlen => ?_
  have hlen' := Nat.le_trans hlen (hL 3)
  rw [List.length_map] at hlen'
  clear hlen
  refine AW.sreg [] fun K hK => ?_
  simp only [go_sem, Nat.reduceBEq, Nat.reduceAdd]
  refine hK _ _ (OpsW.nil ?_)
  refine AW.seq (AW.sreg [] fun K hK => ?_)
  simp only [go_sem, Nat.reduceBEq, Nat.reduceAdd]
  refine hK _ _ (OpsW.nil ?_)
  refine AW.cond rfl (fun h => absurd h (by simp)) (fun _ => AW.skip ?_)
  refine AW.seq (AW.sreg [] fun K hK => ?_)
  simp only [go_sem, Nat.reduceBEq, Nat.reduceAdd]
  refine hK _ _ (OpsW.nil ?_)
  refine AW.block (AW.loopK [0, 1, 5] (fun m t => ∃ k : Nat, t = [(0, .sl false 3 (l.map (encNode false))), (1, .sl false 3 (l.map (encNode false))), (5, .v (.int .i64 k))] ∧ m = l.length - k ∧ k ≤ l.length) l.length ⟨0, rfl, by simp, by simp⟩ ?_)
  rintro m t ⟨k, rfl, rfl, hk⟩
  refine AW.seq (AW.sreg [] fun K hK => ?_)
  simp only [go_sem, Nat.reduceBEq, Nat.reduceAdd]
  refine hK _ _ (OpsW.nil ?_)
  refine AW.cond rfl (fun h => ?_) (fun h => ?_)
  · have hlt : k < l.length := by simpa using h
    clear h
    refine AW.skip (AW.seq (AW.block (AW.sdrw [] fun K hK => ?_)))
    simp only [go_sem, Nat.reduceBEq, Nat.reduceAdd, hlt]
    refine ⟨_, CallOK.pure en137 rfl (by have := hx l[k] (List.getElem_mem hlt); simpa only [go_sem] using this), ?_⟩
    simp only [go_sem, Nat.reduceBEq, Nat.reduceAdd]
    refine hK _ _ ?_ ?_
    · kernel_rfl
    refine OpsW.nil ?_
    refine AW.cond rfl (fun h => absurd h (by simp)) (fun _ => ?_)
    refine AW.skip (AW.reg [] fun K hK => ?_)
    simp only [go_sem, Nat.reduceBEq, Nat.reduceAdd]
    refine hK _ _ (OpsW.nil ⟨rfl, l.length - (k + 1), by omega, k + 1, ?_, rfl, hlt⟩)
    simp only [go_sem, Nat.reduceBEq, Nat.reduceAdd]
    rw [wrap_i64 (by omega) (by omega)]; rfl
  · refine AW.exit ?_
    simp only [blockQ, thenQ, if_true]
    refine AW.sreg [] fun K hK => ?_
    simp only [go_sem, Nat.reduceBEq, Nat.reduceAdd]
    exact hK _ _ (OpsW.nil (AW.ret (Ends.one' rfl rfl)))

theorem eqNode_c {L : Nat → Nat} (x : Dt.Node) (h2 : PureC L Try.prog 93 [.sl false 3 (x.kids.map (encNode false)), .sl false 3 (x.kids.map (encNode false))] (.v (.bool true))) : PureC L Try.prog 137 [encNode false x, encNode false x] (.v (.bool true)) := by
  refine PureC.of_body Try.func137 rfl rfl ?_
  rw [Try.ntmps137]
  refine AW.sreg [] fun K hK => ?_
  simp only [go_sem, Nat.reduceBEq, Nat.reduceAdd]
  refine hK _ _ (OpsW.nil ?_)
  refine AW.seq (AW.sreg [] fun K hK => ?_)
  simp only [go_sem, Nat.reduceBEq, Nat.reduceAdd]
  refine hK _ _ (OpsW.nil ?_)
  refine AW.cond rfl (fun h => absurd h (by simp)) (fun _ => AW.skip ?_)
  refine AW.seq (AW.sreg [] fun K hK => ?_)
  simp only [go_sem, Nat.reduceBEq, Nat.reduceAdd]
  refine hK _ _ (OpsW.nil ?_)
  refine AW.cond rfl (fun h => absurd h (by simp)) (fun _ => AW.skip ?_)
  refine AW.seq (AW.sreg [] fun K hK => ?_)
  simp only [go_sem, Nat.reduceBEq, Nat.reduceAdd]
  refine ⟨_, CallOK.pure en93 rfl h2, ?_⟩
  simp only [go_sem, Nat.reduceBEq, Nat.reduceAdd]
  refine hK _ _ (OpsW.nil ?_)
  refine AW.cond rfl (fun h => absurd h (by simp)) (fun _ => AW.skip ?_)
  refine AW.sreg [] fun K hK => ?_
  simp only [go_sem, Nat.reduceBEq, Nat.reduceAdd]
  exact hK _ _ (OpsW.nil (AW.ret (Ends.one' rfl rfl)))

theorem eqNodeS_a {L : Nat → Nat} (hL : ∀ z, L z ≤ 4611686018427387904) (l : List Dt.Node) : PureC L Try.prog 93 [.sl false 3 (l.map (encNode false)), .sl false 3 (l.map (encNode false))] (.v (.bool true)) := by
  induction h : SizeOf.sizeOf l using Nat.strongRecOn generalizing l with
  | _ n ih =>
    refine eqNodeS_c hL l (fun x hx => eqNode_c x (ih (SizeOf.sizeOf x.kids) ?_ x.kids rfl))
    have := List.sizeOf_lt_of_mem hx
    cases x; simp [Dt.Node.kids] at *; omega

theorem szNodeS_c {L : Nat → Nat} (hL : ∀ z, L z ≤ 4611686018427387904) (l : List Dt.Node) (hx : ∀ x, x ∈ l → ∀ r : Int, 0 ≤ r → r ≤ 1048576 → PureC L Try.prog 120 [encNode false x, .v (.int .i64 r)] (.v (.int .i64 (szNode x r))))
    (left : Int) (h0 : 0 ≤ left) (h1 : left ≤ 1048576) : PureC L Try.prog 79 [.sl false 3 (l.map (encNode false)), .v (.int .i64 left)] (.v (.int .i64 (szSl szNode l left))) := by
  refine PureC.of_body Try.func79 rfl rfl ?_
  rw [Try.ntmps79]
  refine AW.len 0 rfl fun hlen => ?_
  have hlen' := Nat.le_trans hlen (hL 3)
  rw [List.length_map] at hlen'
  clear hlen
  refine AW.sreg [] fun K hK => ?_
  simp only [go_sem, Nat.reduceBEq, Nat.reduceAdd]
  refine hK _ _ (OpsW.nil ?_)
  refine AW.sreg [] fun K hK => ?_
  simp only [go_sem, Nat.reduceBEq, Nat.reduceAdd]
  rw [wrap_i64 (by omega) (by omega)]
  refine hK _ _ (OpsW.nil ?_)
  refine AW.seq (AW.sreg [] fun K hK => ?_)
  simp only [go_sem, Nat.reduceBEq, Nat.reduceAdd]
  refine hK _ _ (OpsW.nil ?_)
  refine AW.cond rfl (fun h => ?_) (fun h => ?_)
  · have h2 : left - (l.length : Int) < 0 := by simpa using h
    refine AW.sreg [] fun K hK => ?_
    simp only [go_sem, Nat.reduceBEq, Nat.reduceAdd]
    refine hK _ _ (OpsW.nil (AW.ret (Ends.one' rfl ?_)))
    rw [szSl, thn, if_pos h2]; rfl
  have h2 : ¬ (left - (l.length : Int) < 0) := by simpa using h
  clear h
  refine AW.skip (AW.seq (AW.sreg [] fun K hK => ?_))
  simp only [go_sem, Nat.reduceBEq, Nat.reduceAdd]
  refine hK _ _ (OpsW.nil ?_)
  refine AW.block (AW.loopK [0, 1, 5] (fun m t => ∃ (k : Nat) (r : Int), t = [(0, .sl false 3 (l.map (encNode false))), (1, .v (.int .i64 r)), (5, .v (.int .i64 k))] ∧ m = l.length - k ∧ k ≤ l.length ∧ r = szGo szNode (l.take k) (left - l.length) ∧ 0 ≤ r ∧ r ≤ 1048576) l.length ⟨0, _, rfl, by simp, by simp, by simp [szGo], by omega, by omega⟩ ?_)
  rintro m t ⟨k, r, rfl, rfl, hk, hr, hr0, hr1⟩
  refine AW.seq (AW.sreg [] fun K hK => ?_)
  simp only [go_sem, Nat.reduceBEq, Nat.reduceAdd]
  refine hK _ _ (OpsW.nil ?_)
  refine AW.cond rfl (fun h => ?_) (fun h => ?_)
  · have hlt : k < l.length := by simpa using h
    clear h
    have hsn : szGo szNode (l.take (k + 1)) (left - l.length) = thn (szNode l[k] r) id := by
      rw [List.take_succ_eq_append_getElem hlt, szGo_snoc _ _ _ _ (by rw [← hr]; exact hr0), ← hr]
    have hle := szNode_le l[k] r hr0
    refine AW.skip (AW.seq (AW.block (AW.sreg [] fun K hK => ?_)))
    simp only [go_sem, Nat.reduceBEq, Nat.reduceAdd, hlt]
    refine ⟨_, CallOK.pure en120 rfl (by have := hx l[k] (List.getElem_mem hlt) r hr0 hr1; simpa only [go_sem] using this), ?_⟩
    simp only [go_sem, Nat.reduceBEq, Nat.reduceAdd]
    refine hK _ _ (OpsW.nil ?_)
    refine AW.sreg [] fun K hK => ?_
    simp only [go_sem, Nat.reduceBEq, Nat.reduceAdd]
    refine hK _ _ (OpsW.nil ?_)
    refine AW.cond rfl (fun h => ?_) (fun h => ?_)
    · have h3 : szNode l[k] r < 0 := by simpa using h
      refine AW.sreg [] fun K hK => ?_
      simp only [go_sem, Nat.reduceBEq, Nat.reduceAdd]
      refine hK _ _ (OpsW.nil (AW.ret (Ends.one' rfl ?_)))
      rw [thn, if_pos h3] at hsn
      have := szGo_neg szNode (l.take (k + 1)) (l.drop (k + 1)) _ hsn (List.ne_nil_of_length_pos (by rw [List.length_take]; omega))
      rw [List.take_append_drop] at this
      rw [szSl, thn, if_neg h2, this]; rfl
    · have h3 : ¬ (szNode l[k] r < 0) := by simpa using h
      clear h
      rw [thn, if_neg h3] at hsn
      refine AW.skip (AW.reg [] fun K hK => ?_)
      simp only [go_sem, Nat.reduceBEq, Nat.reduceAdd]
      refine hK _ _ (OpsW.nil ⟨rfl, l.length - (k + 1), by omega, k + 1, _, ?_, rfl, hlt, hsn.symm, by simp only [id]; omega, by simp only [id]; omega⟩)
      simp only [go_sem, Nat.reduceBEq, Nat.reduceAdd]
      rw [wrap_i64 (by omega) (by omega)]; rfl
  · have hge : k = l.length := by have := h; simp at this; omega
    subst hge
    refine AW.exit ?_
    simp only [blockQ, thenQ, if_true]
    refine AW.sreg [] fun K hK => ?_
    simp only [go_sem, Nat.reduceBEq, Nat.reduceAdd]
    refine hK _ _ (OpsW.nil (AW.ret (Ends.one' rfl ?_)))
    rw [List.take_of_length_le (Nat.le_refl _)] at hr
    rw [szSl, thn, if_neg h2, ← hr]; rfl

theorem szNode_c {L : Nat → Nat} (x : Dt.Node) (h2 : ∀ r : Int, 0 ≤ r → r ≤ 1048576 → PureC L Try.prog 79 [.sl false 3 (x.kids.map (encNode false)), .v (.int .i64 r)] (.v (.int .i64 (szSl szNode x.kids r)))) (left : Int) (g0 : 0 ≤ left) (g1 : left ≤ 1048576) : PureC L Try.prog 120 [encNode false x, .v (.int .i64 left)] (.v (.int .i64 (szNode x left))) := by
  refine PureC.of_body Try.func120 rfl rfl ?_
  rw [Try.ntmps120]
  simp only [go_sem]
  refine AW.aggStr 0 rfl (s := x.name) (by simp) fun b0 => ?_
  refine AW.aggStr 0 rfl (s := x.value) (by simp) fun b1 => ?_
  refine AW.sreg [] fun K hK => ?_
  simp only [go_sem, Nat.reduceBEq, Nat.reduceAdd]
  refine hK _ _ (OpsW.nil ?_)
  refine AW.sreg [] fun K hK => ?_
  simp only [go_sem, Nat.reduceBEq, Nat.reduceAdd]
  rw [wrap_i64 (by omega) (by omega)]
  refine hK _ _ (OpsW.nil ?_)
  refine AW.seq (AW.sreg [] fun K hK => ?_)
  simp only [go_sem, Nat.reduceBEq, Nat.reduceAdd]
  refine hK _ _ (OpsW.nil ?_)
  refine AW.cond rfl (fun h => ?_) (fun h => ?_)
  · have q0 : (left - (x.name.length : Int)) < 0 := by simpa using h
    refine AW.sreg [] fun K hK => ?_
    simp only [go_sem, Nat.reduceBEq, Nat.reduceAdd]
    refine hK _ _ (OpsW.nil (AW.ret (Ends.one' rfl ?_)))
    have p0 : (szStr x.name left) < 0 := q0
    rw [szNode_eq, thn_neg p0]; rfl
  have q0 : ¬ ((left - (x.name.length : Int)) < 0) := by simpa using h
  have p0 : ¬ ((szStr x.name left) < 0) := q0
  clear h
  refine AW.skip ?_
  refine AW.sreg [] fun K hK => ?_
  simp only [go_sem, Nat.reduceBEq, Nat.reduceAdd]
  rw [wrap_i64 (by omega) (by omega)]
  refine hK _ _ (OpsW.nil ?_)
  refine AW.seq (AW.sreg [] fun K hK => ?_)
  simp only [go_sem, Nat.reduceBEq, Nat.reduceAdd]
  refine hK _ _ (OpsW.nil ?_)
  refine AW.cond rfl (fun h => ?_) (fun h => ?_)
  · have q1 : ((left - (x.name.length : Int)) - (x.value.length : Int)) < 0 := by simpa using h
    refine AW.sreg [] fun K hK => ?_
    simp only [go_sem, Nat.reduceBEq, Nat.reduceAdd]
    refine hK _ _ (OpsW.nil (AW.ret (Ends.one' rfl ?_)))
    have p1 : (szStr x.value (szStr x.name left)) < 0 := q1
    rw [szNode_eq, thn_pos p0, thn_neg p1]; rfl
  have q1 : ¬ (((left - (x.name.length : Int)) - (x.value.length : Int)) < 0) := by simpa using h
  have p1 : ¬ ((szStr x.value (szStr x.name left)) < 0) := q1
  clear h
  refine AW.skip ?_
  refine AW.sreg [] fun K hK => ?_
  simp only [go_sem, Nat.reduceBEq, Nat.reduceAdd]
  refine ⟨_, CallOK.pure en79 rfl (h2 ((left - (x.name.length : Int)) - (x.value.length : Int)) (by omega) (by omega)), ?_⟩
  simp only [go_sem, Nat.reduceBEq, Nat.reduceAdd]
  have e2 := szSl_le szNode (fun y r hr => szNode_le y r hr) x.kids ((left - (x.name.length : Int)) - (x.value.length : Int)) (by omega)
  refine hK _ _ (OpsW.nil ?_)
  refine AW.seq (AW.sreg [] fun K hK => ?_)
  simp only [go_sem, Nat.reduceBEq, Nat.reduceAdd]
  refine hK _ _ (OpsW.nil ?_)
  refine AW.cond rfl (fun h => ?_) (fun h => ?_)
  · have q2 : (szSl szNode x.kids ((left - (x.name.length : Int)) - (x.value.length : Int))) < 0 := by simpa using h
    refine AW.sreg [] fun K hK => ?_
    simp only [go_sem, Nat.reduceBEq, Nat.reduceAdd]
    refine hK _ _ (OpsW.nil (AW.ret (Ends.one' rfl ?_)))
    have p2 : (szSl szNode x.kids (szStr x.value (szStr x.name left))) < 0 := q2
    rw [szNode_eq, thn_pos p0, thn_pos p1, thn_neg p2]; rfl
  have q2 : ¬ ((szSl szNode x.kids ((left - (x.name.length : Int)) - (x.value.length : Int))) < 0) := by simpa using h
  have p2 : ¬ ((szSl szNode x.kids (szStr x.value (szStr x.name left))) < 0) := q2
  clear h
  refine AW.skip ?_
  refine AW.sreg [] fun K hK => ?_
  simp only [go_sem, Nat.reduceBEq, Nat.reduceAdd]
  refine hK _ _ (OpsW.nil (AW.ret (Ends.one' rfl ?_)))
  rw [szNode_eq, thn_pos p0, thn_pos p1, thn_pos p2]; rfl

theorem szNodeS_a {L : Nat → Nat} (hL : ∀ z, L z ≤ 4611686018427387904) (l : List Dt.Node) (left : Int) (h0 : 0 ≤ left) (h1 : left ≤ 1048576) : PureC L Try.prog 79 [.sl false 3 (l.map (encNode false)), .v (.int .i64 left)] (.v (.int .i64 (szSl szNode l left))) := by
  induction h : SizeOf.sizeOf l using Nat.strongRecOn generalizing l left with
  | _ n ih =>
    refine szNodeS_c hL l (fun x hx r r0 r1 => szNode_c x (fun q q0 q1 => ih (SizeOf.sizeOf x.kids) ?_ x.kids q q0 q1 rfl) r r0 r1) left h0 h1
    have := List.sizeOf_lt_of_mem hx
    cases x; simp [Dt.Node.kids] at *; omega

theorem toNodeS_c (l : List Dt.Node) (hx : ∀ x, x ∈ l → PureC lim Try.prog 127 [encNode false x] (encNode true x)) : PureC lim Try.prog 86 [.sl false 3 (l.map (encNode false))] (.sl true 3 (l.map (encNode true))) := by
  refine PureC.of_body Try.func86 rfl rfl ?_
  rw [Try.ntmps86]
  refine AW.len 0 rfl fun hlen => ?_
  rw [List.length_map] at hlen
  have hl : l.length ≤ 2147483648 := hlen
  refine AW.sreg [] fun K hK => ?_
  simp only [go_sem, Nat.reduceBEq, Nat.reduceAdd]
  refine hK _ _ (OpsW.nil ?_)
  refine AW.sreg [] fun K hK => ?_
  simp only [go_sem, Nat.reduceBEq, Nat.reduceAdd]
  refine hK _ _ (OpsW.mk rfl rfl rfl rfl elm_76 zer_189 rfl rfl rfl hlen (by omega) (fun K hK b hb => ?_) (by omega))
  simp only [go_sem, Nat.reduceBEq, Nat.reduceAdd]
  refine hK _ _ (OpsW.go [] fun K hK => ?_)
  simp only [go_sem, Nat.reduceBEq, Nat.reduceAdd]
  refine hK _ _ (OpsW.nil ?_)
  refine AW.seq (AW.sreg [] fun K hK => ?_)
  simp only [go_sem, Nat.reduceBEq, Nat.reduceAdd]
  refine hK _ _ (OpsW.nil ?_)
  refine AW.block (AW.loopO [0, 3, 4] (fun m t o => ∃ k b : Nat, t = [(0, .sl false 3 (l.map (encNode false))), (3, .arr b 0 l.length 3), (4, .v (.int .i64 k))] ∧ o = [(b, some (mkC (encNode true) [.string ⟨([] : List UInt8).toArray⟩, .string ⟨([] : List UInt8).toArray⟩, .slice none 0 0] l k))] ∧ m = l.length - k ∧ k ≤ l.length) l.length [(b, some (mkC (encNode true) [.string ⟨([] : List UInt8).toArray⟩, .string ⟨([] : List UInt8).toArray⟩, .slice none 0 0] l 0))] (by rw [mkC_zero]; exact fun _ _ h => h) ⟨0, b, rfl, rfl, by simp, by simp⟩ ?_)
  rintro m t o ⟨k, b, rfl, rfl, rfl, hk⟩
  have hC := mkC_len (encNode true) [.string ⟨([] : List UInt8).toArray⟩, .string ⟨([] : List UInt8).toArray⟩, .slice none 0 0] 3 (fun x => by first | rfl | simp only [go_sem]) rfl l k hk
  refine AW.seq (AW.sreg [] fun K hK => ?_)
  simp only [go_sem, Nat.reduceBEq, Nat.reduceAdd]
  refine hK _ _ (OpsW.nil ?_)
  refine AW.cond rfl (fun h => ?_) (fun h => ?_)
  · have hlt : k < l.length := by simpa using h
    clear h
    have hst := mkC_step (encNode true) [.string ⟨([] : List UInt8).toArray⟩, .string ⟨([] : List UInt8).toArray⟩, .slice none 0 0] 3 (fun x => by first | rfl | simp only [go_sem]) rfl l k hlt
    refine AW.skip (AW.seq (AW.block (AW.reg [] fun K hK => ?_)))
    simp only [go_sem, Nat.reduceBEq, Nat.reduceAdd, hlt]
    refine ⟨_, CallOK.pure en127 rfl (by have := hx l[k] (List.getElem_mem hlt); simpa only [go_sem] using this), ?_⟩
    try simp only [go_sem, Nat.reduceBEq, Nat.reduceAdd, hlt]
    refine hK _ _ ?_
    refine OpsW.store rfl rfl rfl rfl rfl (by simp only [O, if_true]; rfl) ty_189 rfl (by rfl) (by rfl) (by rw [hC]; omega) fun K hK => ?_
    simp only [go_sem, Nat.reduceBEq, Nat.reduceAdd]
    refine hK _ _ (OpsW.nil ?_)
    simp only [blockQ, thenQ]
    refine AW.reg [] fun K hK => ?_
    simp only [go_sem, Nat.reduceBEq, Nat.reduceAdd]
    refine hK _ _ (OpsW.nil ⟨rfl, l.length - (k + 1), [(b, some (mkC (encNode true) [.string ⟨([] : List UInt8).toArray⟩, .string ⟨([] : List UInt8).toArray⟩, .slice none 0 0] l (k + 1)))], by omega, ⟨k + 1, b, ?_, rfl, rfl, hlt⟩, ?_⟩)
    · simp only [go_sem, Nat.reduceBEq, Nat.reduceAdd]
      rw [wrap_i64 (by omega) (by omega)]; rfl
    · intro q cs hq
      simp only [O] at hq ⊢
      split at hq
      · rename_i e; rw [if_pos e, ← hq, ← hst]; first | rfl | (simp only [go_sem]; done) | simp only [go_sem, hlt]
      · cases hq
  · have hge : k = l.length := by have := h; simp at this; omega
    subst hge
    refine AW.exit ?_
    simp only [blockQ, thenQ, if_true]
    refine AW.sreg [] fun K hK => ?_
    simp only [go_sem, Nat.reduceBEq, Nat.reduceAdd]
    refine hK _ _ (OpsW.nil (AW.ret ?_))
    refine Ends.res rfl (ResOK.pack rfl (by simp only [O, if_true]; rfl) (by simp) ?_ ?_)
    · rw [mkC_end, List.drop_zero, List.take_of_length_le (by rw [mkC_end] at hC; omega)]
    · intro z hz
      obtain ⟨y, _, rfl⟩ := List.mem_map.1 hz
      first | rfl | simp only [go_sem]

theorem toNode_c {L : Nat → Nat} (x : Dt.Node) (h2 : PureC L Try.prog 86 [.sl false 3 (x.kids.map (encNode false))] (.sl true 3 (x.kids.map (encNode true)))) : PureC L Try.prog 127 [encNode false x] (encNode true x) := by
  refine PureC.of_body Try.func127 rfl rfl ?_
  rw [Try.ntmps127]
  refine AW.sreg [] fun K hK => ?_
  simp only [go_sem, Nat.reduceBEq, Nat.reduceAdd]
  refine hK _ _ (OpsW.alloc rfl rfl rfl rfl zer_189 fun K hK b2 hb2 => ?_)
  simp only [go_sem, Nat.reduceBEq, Nat.reduceAdd]
  refine hK _ _ (OpsW.nil ?_)
  refine AW.sreg [] fun K hK => ?_
  simp only [go_sem, Nat.reduceBEq, Nat.reduceAdd]
  refine hK _ _ (OpsW.alloc rfl rfl rfl rfl zer_189 fun K hK b3 hb3 => ?_)
  have hne : b2 ≠ b3 := hb3 b2 _ (by simp only [O, if_true]; rfl)
  have hne' : b3 ≠ b2 := fun e => hne e.symm
  simp only [go_sem, Nat.reduceBEq, Nat.reduceAdd]
  refine hK _ _ (OpsW.nil ?_)
  refine AW.sreg [] fun K hK => ?_
  simp only [go_sem, Nat.reduceBEq, Nat.reduceAdd, hne, hne']
  refine hK _ _ (OpsW.store rfl rfl rfl rfl rfl (by simp only [O, if_true]; rfl) ty_9 rfl (by rfl) (by rfl) (by simp) fun K hK => ?_)
  simp only [go_sem, Nat.reduceBEq, Nat.reduceAdd]
  refine hK _ _ (OpsW.nil ?_)
  refine AW.sreg [] fun K hK => ?_
  simp only [go_sem, Nat.reduceBEq, Nat.reduceAdd, hne, hne']
  refine hK _ _ (OpsW.store rfl rfl rfl rfl rfl (by simp only [O, if_true]; rfl) ty_9 rfl (by rfl) (by rfl) (by simp) fun K hK => ?_)
  simp only [go_sem, Nat.reduceBEq, Nat.reduceAdd]
  refine hK _ _ (OpsW.nil ?_)
  refine AW.sreg [] fun K hK => ?_
  simp only [go_sem, Nat.reduceBEq, Nat.reduceAdd, hne, hne']
  refine ⟨_, CallOK.pure en86 rfl h2, ?_⟩
  try simp only [go_sem, Nat.reduceBEq, Nat.reduceAdd, hne, hne']
  refine hK _ _ (OpsW.store rfl rfl rfl rfl rfl (by simp only [O, if_true]; rfl) ty_76 rfl (by rfl) (by rfl) (by simp) fun K hK => ?_)
  simp only [go_sem, Nat.reduceBEq, Nat.reduceAdd]
  refine hK _ _ (OpsW.nil ?_)
  refine AW.sreg [14] fun K hK => ?_
  simp only [go_sem, Nat.reduceBEq, Nat.reduceAdd]
  refine hK _ _ (OpsW.take rfl rfl rfl rfl rfl (by simp only [O, if_true]; rfl) ty_189 rfl fun K hK => ?_)
  simp only [go_sem, Nat.reduceBEq, Nat.reduceAdd]
  refine hK _ _ (OpsW.store rfl rfl rfl rfl rfl (by simp only [O, hne', if_false, if_true]; rfl) ty_189 rfl (by rfl) (by rfl) (by simp) fun K hK => ?_)
  simp only [go_sem, Nat.reduceBEq, Nat.reduceAdd]
  refine hK _ _ (OpsW.nil (AW.ret ?_))
  simp only [go_sem]
  exact Ends.res rfl (ResOK.cell rfl (by simp only [O, if_true]; rfl) ty_189 rfl)

theorem toNodeS_a (l : List Dt.Node) : PureC lim Try.prog 86 [.sl false 3 (l.map (encNode false))] (.sl true 3 (l.map (encNode true))) := by
  induction h : SizeOf.sizeOf l using Nat.strongRecOn generalizing l with
  | _ n ih =>
    refine toNodeS_c l (fun x hx => toNode_c x (ih (SizeOf.sizeOf x.kids) ?_ x.kids rfl))
    have := List.sizeOf_lt_of_mem hx
    cases x; simp [Dt.Node.kids] at *; omega

theorem eqTaskS_c {L : Nat → Nat} (hL : ∀ z, L z ≤ 4611686018427387904) (l : List Dt.Task) (hx : ∀ x, x ∈ l → PureC L Try.prog 100 [encTask false x, encTask false x] (.v (.bool true))) : PureC L Try.prog 49 [.sl false 3 (l.map (encTask false)), .sl false 3 (l.map (encTask false))] (.v (.bool true)) := by
  refine PureC.of_body Try.func49 rfl rfl ?_
  rw [Try.ntmps49]
  refine AW.len 0 rfl fun hlen => ?_
  have hlen' := Nat.le_trans hlen (hL 3)
  rw [List.length_map] at hlen'
  clear hlen
  refine AW.sreg [] fun K hK => ?_
  simp only [go_sem, Nat.reduceBEq, Nat.reduceAdd]
  refine hK _ _ (OpsW.nil ?_)
  refine AW.seq (AW.sreg [] fun K hK => ?_)
  simp only [go_sem, Nat.reduceBEq, Nat.reduceAdd]
  refine hK _ _ (OpsW.nil ?_)
  refine AW.cond rfl (fun h => absurd h (by simp)) (fun _ => AW.skip ?_)
  refine AW.seq (AW.sreg [] fun K hK => ?_)
  simp only [go_sem, Nat.reduceBEq, Nat.reduceAdd]
  refine hK _ _ (OpsW.nil ?_)
  refine AW.block (AW.loopK [0, 1, 5] (fun m t => ∃ k : Nat, t = [(0, .sl false 3 (l.map (encTask false))), (1, .sl false 3 (l.map (encTask false))), (5, .v (.int .i64 k))] ∧ m = l.length - k ∧ k ≤ l.length) l.length ⟨0, rfl, by simp, by simp⟩ ?_)
  rintro m t ⟨k, rfl, rfl, hk⟩
  refine AW.seq (AW.sreg [] fun K hK => ?_)
  simp only [go_sem, Nat.reduceBEq, Nat.reduceAdd]
  refine hK _ _ (OpsW.nil ?_)
  refine AW.cond rfl (fun h => ?_) (fun h => ?_)
  · have hlt : k < l.length := by simpa using h
    clear h
    refine AW.skip (AW.seq (AW.block (AW.sdrw [] fun K hK => ?_)))
    simp only [go_sem, Nat.reduceBEq, Nat.reduceAdd, hlt]
    refine ⟨_, CallOK.pure en100 rfl (by have := hx l[k] (List.getElem_mem hlt); simpa only [go_sem] using this), ?_⟩
    simp only [go_sem, Nat.reduceBEq, Nat.reduceAdd]
    refine hK _ _ ?_ ?_
    · kernel_rfl
    refine OpsW.nil ?_
    refine AW.cond rfl (fun h => absurd h (by simp)) (fun _ => ?_)
    refine AW.skip (AW.reg [] fun K hK => ?_)
    simp only [go_sem, Nat.reduceBEq, Nat.reduceAdd]
    refine hK _ _ (OpsW.nil ⟨rfl, l.length - (k + 1), by omega, k + 1, ?_, rfl, hlt⟩)
    simp only [go_sem, Nat.reduceBEq, Nat.reduceAdd]
    rw [wrap_i64 (by omega) (by omega)]; rfl
  · refine AW.exit ?_
    simp only [blockQ, thenQ, if_true]
    refine AW.sreg [] fun K hK => ?_
    simp only [go_sem, Nat.reduceBEq, Nat.reduceAdd]
    exact hK _ _ (OpsW.nil (AW.ret (Ends.one' rfl rfl)))

theorem eqTask_c {L : Nat → Nat} (x : Dt.Task) (h1 : PureC L Try.prog 93 [.sl false 3 (x.tree.map (encNode false)), .sl false 3 (x.tree.map (encNode false))] (.v (.bool true))) : PureC L Try.prog 100 [encTask false x, encTask false x] (.v (.bool true)) := by
  refine PureC.of_body Try.func100 rfl rfl ?_
  rw [Try.ntmps100]
  refine AW.sreg [] fun K hK => ?_
  simp only [go_sem, Nat.reduceBEq, Nat.reduceAdd]
  refine hK _ _ (OpsW.nil ?_)
  refine AW.seq (AW.sreg [] fun K hK => ?_)
  simp only [go_sem, Nat.reduceBEq, Nat.reduceAdd]
  refine hK _ _ (OpsW.nil ?_)
  refine AW.cond rfl (fun h => absurd h (by simp)) (fun _ => AW.skip ?_)
  refine AW.seq (AW.sreg [] fun K hK => ?_)
  simp only [go_sem, Nat.reduceBEq, Nat.reduceAdd]
  refine ⟨_, CallOK.pure en93 rfl h1, ?_⟩
  simp only [go_sem, Nat.reduceBEq, Nat.reduceAdd]
  refine hK _ _ (OpsW.nil ?_)
  refine AW.cond rfl (fun h => absurd h (by simp)) (fun _ => AW.skip ?_)
  refine AW.seq (AW.sreg [] fun K hK => ?_)
  simp only [go_sem, Nat.reduceBEq, Nat.reduceAdd]
  refine hK _ _ (OpsW.nil ?_)
  refine AW.cond rfl (fun h => absurd h (by simp)) (fun _ => AW.skip ?_)
  refine AW.sreg [] fun K hK => ?_
  simp only [go_sem, Nat.reduceBEq, Nat.reduceAdd]
  exact hK _ _ (OpsW.nil (AW.ret (Ends.one' rfl rfl)))

theorem szTaskS_c {L : Nat → Nat} (hL : ∀ z, L z ≤ 4611686018427387904) (l : List Dt.Task) (hx : ∀ x, x ∈ l → ∀ r : Int, 0 ≤ r → r ≤ 1048576 → PureC L Try.prog 98 [encTask false x, .v (.int .i64 r)] (.v (.int .i64 (szTask x r))))
    (left : Int) (h0 : 0 ≤ left) (h1 : left ≤ 1048576) : PureC L Try.prog 46 [.sl false 3 (l.map (encTask false)), .v (.int .i64 left)] (.v (.int .i64 (szSl szTask l left))) := by
  refine PureC.of_body Try.func46 rfl rfl ?_
  rw [Try.ntmps46]
  refine AW.len 0 rfl fun hlen => ?_
  have hlen' := Nat.le_trans hlen (hL 3)
  rw [List.length_map] at hlen'
  clear hlen
  refine AW.sreg [] fun K hK => ?_
  simp only [go_sem, Nat.reduceBEq, Nat.reduceAdd]
  refine hK _ _ (OpsW.nil ?_)
  refine AW.sreg [] fun K hK => ?_
  simp only [go_sem, Nat.reduceBEq, Nat.reduceAdd]
  rw [wrap_i64 (by omega) (by omega)]
  refine hK _ _ (OpsW.nil ?_)
  refine AW.seq (AW.sreg [] fun K hK => ?_)
  simp only [go_sem, Nat.reduceBEq, Nat.reduceAdd]
  refine hK _ _ (OpsW.nil ?_)
  refine AW.cond rfl (fun h => ?_) (fun h => ?_)
  · have h2 : left - (l.length : Int) < 0 := by simpa using h
    refine AW.sreg [] fun K hK => ?_
    simp only [go_sem, Nat.reduceBEq, Nat.reduceAdd]
    refine hK _ _ (OpsW.nil (AW.ret (Ends.one' rfl ?_)))
    rw [szSl, thn, if_pos h2]; rfl
  have h2 : ¬ (left - (l.length : Int) < 0) := by simpa using h
  clear h
  refine AW.skip (AW.seq (AW.sreg [] fun K hK => ?_))
  simp only [go_sem, Nat.reduceBEq, Nat.reduceAdd]
  refine hK _ _ (OpsW.nil ?_)
  refine AW.block (AW.loopK [0, 1, 5] (fun m t => ∃ (k : Nat) (r : Int), t = [(0, .sl false 3 (l.map (encTask false))), (1, .v (.int .i64 r)), (5, .v (.int .i64 k))] ∧ m = l.length - k ∧ k ≤ l.length ∧ r = szGo szTask (l.take k) (left - l.length) ∧ 0 ≤ r ∧ r ≤ 1048576) l.length ⟨0, _, rfl, by simp, by simp, by simp [szGo], by omega, by omega⟩ ?_)
  rintro m t ⟨k, r, rfl, rfl, hk, hr, hr0, hr1⟩
  refine AW.seq (AW.sreg [] fun K hK => ?_)
  simp only [go_sem, Nat.reduceBEq, Nat.reduceAdd]
  refine hK _ _ (OpsW.nil ?_)
  refine AW.cond rfl (fun h => ?_) (fun h => ?_)
  · have hlt : k < l.length := by simpa using h
    clear h
    have hsn : szGo szTask (l.take (k + 1)) (left - l.length) = thn (szTask l[k] r) id := by
      rw [List.take_succ_eq_append_getElem hlt, szGo_snoc _ _ _ _ (by rw [← hr]; exact hr0), ← hr]
    have hle := szTask_le l[k] r hr0
    refine AW.skip (AW.seq (AW.block (AW.sreg [] fun K hK => ?_)))
    simp only [go_sem, Nat.reduceBEq, Nat.reduceAdd, hlt]
    refine ⟨_, CallOK.pure en98 rfl (by have := hx l[k] (List.getElem_mem hlt) r hr0 hr1; simpa only [go_sem] using this), ?_⟩
    simp only [go_sem, Nat.reduceBEq, Nat.reduceAdd]
    refine hK _ _ (OpsW.nil ?_)
    refine AW.sreg [] fun K hK => ?_
    simp only [go_sem, Nat.reduceBEq, Nat.reduceAdd]
    refine hK _ _ (OpsW.nil ?_)
    refine AW.cond rfl (fun h => ?_) (fun h => ?_)
    · have h3 : szTask l[k] r < 0 := by simpa using h
      refine AW.sreg [] fun K hK => ?_
      simp only [go_sem, Nat.reduceBEq, Nat.reduceAdd]
      refine hK _ _ (OpsW.nil (AW.ret (Ends.one' rfl ?_)))
      rw [thn, if_pos h3] at hsn
      have := szGo_neg szTask (l.take (k + 1)) (l.drop (k + 1)) _ hsn (List.ne_nil_of_length_pos (by rw [List.length_take]; omega))
      rw [List.take_append_drop] at this
      rw [szSl, thn, if_neg h2, this]; rfl
    · have h3 : ¬ (szTask l[k] r < 0) := by simpa using h
      clear h
      rw [thn, if_neg h3] at hsn
      refine AW.skip (AW.reg [] fun K hK => ?_)
      simp only [go_sem, Nat.reduceBEq, Nat.reduceAdd]
      refine hK _ _ (OpsW.nil ⟨rfl, l.length - (k + 1), by omega, k + 1, _, ?_, rfl, hlt, hsn.symm, by simp only [id]; omega, by simp only [id]; omega⟩)
      simp only [go_sem, Nat.reduceBEq, Nat.reduceAdd]
      rw [wrap_i64 (by omega) (by omega)]; rfl
  · have hge : k = l.length := by have := h; simp at this; omega
    subst hge
    refine AW.exit ?_
    simp only [blockQ, thenQ, if_true]
    refine AW.sreg [] fun K hK => ?_
    simp only [go_sem, Nat.reduceBEq, Nat.reduceAdd]
    refine hK _ _ (OpsW.nil (AW.ret (Ends.one' rfl ?_)))
    rw [List.take_of_length_le (Nat.le_refl _)] at hr
    rw [szSl, thn, if_neg h2, ← hr]; rfl

theorem szTask_c {L : Nat → Nat} (x : Dt.Task) (h1 : ∀ r : Int, 0 ≤ r → r ≤ 1048576 → PureC L Try.prog 79 [.sl false 3 (x.tree.map (encNode false)), .v (.int .i64 r)] (.v (.int .i64 (szSl szNode x.tree r)))) (left : Int) (g0 : 0 ≤ left) (g1 : left ≤ 1048576) : PureC L Try.prog 98 [encTask false x, .v (.int .i64 left)] (.v (.int .i64 (szTask x left))) := by
  refine PureC.of_body Try.func98 rfl rfl ?_
  rw [Try.ntmps98]
  simp only [go_sem]
  refine AW.aggStr 0 rfl (s := x.device) (by simp) fun b0 => ?_
  refine AW.sreg [] fun K hK => ?_
  simp only [go_sem, Nat.reduceBEq, Nat.reduceAdd]
  refine hK _ _ (OpsW.nil ?_)
  refine AW.sreg [] fun K hK => ?_
  simp only [go_sem, Nat.reduceBEq, Nat.reduceAdd]
  rw [wrap_i64 (by omega) (by omega)]
  refine hK _ _ (OpsW.nil ?_)
  refine AW.seq (AW.sreg [] fun K hK => ?_)
  simp only [go_sem, Nat.reduceBEq, Nat.reduceAdd]
  refine hK _ _ (OpsW.nil ?_)
  refine AW.cond rfl (fun h => ?_) (fun h => ?_)
  · have q0 : (left - (x.device.length : Int)) < 0 := by simpa using h
    refine AW.sreg [] fun K hK => ?_
    simp only [go_sem, Nat.reduceBEq, Nat.reduceAdd]
    refine hK _ _ (OpsW.nil (AW.ret (Ends.one' rfl ?_)))
    have p0 : (szStr x.device left) < 0 := q0
    rw [szTask, thn_neg p0]; rfl
  have q0 : ¬ ((left - (x.device.length : Int)) < 0) := by simpa using h
  have p0 : ¬ ((szStr x.device left) < 0) := q0
  clear h
  refine AW.skip ?_
  refine AW.sreg [] fun K hK => ?_
  simp only [go_sem, Nat.reduceBEq, Nat.reduceAdd]
  refine ⟨_, CallOK.pure en79 rfl (h1 (left - (x.device.length : Int)) (by omega) (by omega)), ?_⟩
  simp only [go_sem, Nat.reduceBEq, Nat.reduceAdd]
  have e1 := szSl_le szNode (fun y r hr => szNode_le y r hr) x.tree (left - (x.device.length : Int)) (by omega)
  refine hK _ _ (OpsW.nil ?_)
  refine AW.seq (AW.sreg [] fun K hK => ?_)
  simp only [go_sem, Nat.reduceBEq, Nat.reduceAdd]
  refine hK _ _ (OpsW.nil ?_)
  refine AW.cond rfl (fun h => ?_) (fun h => ?_)
  · have q1 : (szSl szNode x.tree (left - (x.device.length : Int))) < 0 := by simpa using h
    refine AW.sreg [] fun K hK => ?_
    simp only [go_sem, Nat.reduceBEq, Nat.reduceAdd]
    refine hK _ _ (OpsW.nil (AW.ret (Ends.one' rfl ?_)))
    have p1 : (szSl szNode x.tree (szStr x.device left)) < 0 := q1
    rw [szTask, thn_pos p0, thn_neg p1]; rfl
  have q1 : ¬ ((szSl szNode x.tree (left - (x.device.length : Int))) < 0) := by simpa using h
  have p1 : ¬ ((szSl szNode x.tree (szStr x.device left)) < 0) := q1
  clear h
  refine AW.skip ?_
  refine AW.sreg [] fun K hK => ?_
  simp only [go_sem, Nat.reduceBEq, Nat.reduceAdd]
  refine hK _ _ (OpsW.nil (AW.ret (Ends.one' rfl ?_)))
  rw [szTask, thn_pos p0, thn_pos p1]; rfl

theorem toTaskS_c (l : List Dt.Task) (hx : ∀ x, x ∈ l → PureC lim Try.prog 99 [encTask false x] (encTask true x)) : PureC lim Try.prog 48 [.sl false 3 (l.map (encTask false))] (.sl true 3 (l.map (encTask true))) := by
  refine PureC.of_body Try.func48 rfl rfl ?_
  rw [Try.ntmps48]
  refine AW.len 0 rfl fun hlen => ?_
  rw [List.length_map] at hlen
  have hl : l.length ≤ 2147483648 := hlen
  refine AW.sreg [] fun K hK => ?_
  simp only [go_sem, Nat.reduceBEq, Nat.reduceAdd]
  refine hK _ _ (OpsW.nil ?_)
  refine AW.sreg [] fun K hK => ?_
  simp only [go_sem, Nat.reduceBEq, Nat.reduceAdd]
  refine hK _ _ (OpsW.mk rfl rfl rfl rfl elm_33 zer_158 rfl rfl rfl hlen (by omega) (fun K hK b hb => ?_) (by omega))
  simp only [go_sem, Nat.reduceBEq, Nat.reduceAdd]
  refine hK _ _ (OpsW.go [] fun K hK => ?_)
  simp only [go_sem, Nat.reduceBEq, Nat.reduceAdd]
  refine hK _ _ (OpsW.nil ?_)
  refine AW.seq (AW.sreg [] fun K hK => ?_)
  simp only [go_sem, Nat.reduceBEq, Nat.reduceAdd]
  refine hK _ _ (OpsW.nil ?_)
  refine AW.block (AW.loopO [0, 3, 4] (fun m t o => ∃ k b : Nat, t = [(0, .sl false 3 (l.map (encTask false))), (3, .arr b 0 l.length 3), (4, .v (.int .i64 k))] ∧ o = [(b, some (mkC (encTask true) [.string ⟨([] : List UInt8).toArray⟩, .slice none 0 0, .int .i64 0] l k))] ∧ m = l.length - k ∧ k ≤ l.length) l.length [(b, some (mkC (encTask true) [.string ⟨([] : List UInt8).toArray⟩, .slice none 0 0, .int .i64 0] l 0))] (by rw [mkC_zero]; exact fun _ _ h => h) ⟨0, b, rfl, rfl, by simp, by simp⟩ ?_)
  rintro m t o ⟨k, b, rfl, rfl, rfl, hk⟩
  have hC := mkC_len (encTask true) [.string ⟨([] : List UInt8).toArray⟩, .slice none 0 0, .int .i64 0] 3 (fun x => by first | rfl | simp only [go_sem]) rfl l k hk
  refine AW.seq (AW.sreg [] fun K hK => ?_)
  simp only [go_sem, Nat.reduceBEq, Nat.reduceAdd]
  refine hK _ _ (OpsW.nil ?_)
  refine AW.cond rfl (fun h => ?_) (fun h => ?_)
  · have hlt : k < l.length := by simpa using h
    clear h
    have hst := mkC_step (encTask true) [.string ⟨([] : List UInt8).toArray⟩, .slice none 0 0, .int .i64 0] 3 (fun x => by first | rfl | simp only [go_sem]) rfl l k hlt
    refine AW.skip (AW.seq (AW.block (AW.reg [] fun K hK => ?_)))
    simp only [go_sem, Nat.reduceBEq, Nat.reduceAdd, hlt]
    refine ⟨_, CallOK.pure en99 rfl (by have := hx l[k] (List.getElem_mem hlt); simpa only [go_sem] using this), ?_⟩
    try simp only [go_sem, Nat.reduceBEq, Nat.reduceAdd, hlt]
    refine hK _ _ ?_
    refine OpsW.store rfl rfl rfl rfl rfl (by simp only [O, if_true]; rfl) ty_158 rfl (by rfl) (by rfl) (by rw [hC]; omega) fun K hK => ?_
    simp only [go_sem, Nat.reduceBEq, Nat.reduceAdd]
    refine hK _ _ (OpsW.nil ?_)
    simp only [blockQ, thenQ]
    refine AW.reg [] fun K hK => ?_
    simp only [go_sem, Nat.reduceBEq, Nat.reduceAdd]
    refine hK _ _ (OpsW.nil ⟨rfl, l.length - (k + 1), [(b, some (mkC (encTask true) [.string ⟨([] : List UInt8).toArray⟩, .slice none 0 0, .int .i64 0] l (k + 1)))], by omega, ⟨k + 1, b, ?_, rfl, rfl, hlt⟩, ?_⟩)
    · simp only [go_sem, Nat.reduceBEq, Nat.reduceAdd]
      rw [wrap_i64 (by omega) (by omega)]; rfl
    · intro q cs hq
      simp only [O] at hq ⊢
      split at hq
      · rename_i e; rw [if_pos e, ← hq, ← hst]; first | rfl | (simp only [go_sem]; done) | simp only [go_sem, hlt]
      · cases hq
  · have hge : k = l.length := by have := h; simp at this; omega
    subst hge
    refine AW.exit ?_
    simp only [blockQ, thenQ, if_true]
    refine AW.sreg [] fun K hK => ?_
    simp only [go_sem, Nat.reduceBEq, Nat.reduceAdd]
    refine hK _ _ (OpsW.nil (AW.ret ?_))
    refine Ends.res rfl (ResOK.pack rfl (by simp only [O, if_true]; rfl) (by simp) ?_ ?_)
    · rw [mkC_end, List.drop_zero, List.take_of_length_le (by rw [mkC_end] at hC; omega)]
    · intro z hz
      obtain ⟨y, _, rfl⟩ := List.mem_map.1 hz
      first | rfl | simp only [go_sem]

theorem toTask_c {L : Nat → Nat} (x : Dt.Task) (h1 : PureC L Try.prog 86 [.sl false 3 (x.tree.map (encNode false))] (.sl true 3 (x.tree.map (encNode true)))) : PureC L Try.prog 99 [encTask false x] (encTask true x) := by
  refine PureC.of_body Try.func99 rfl rfl ?_
  rw [Try.ntmps99]
  refine AW.sreg [] fun K hK => ?_
  simp only [go_sem, Nat.reduceBEq, Nat.reduceAdd]
  refine hK _ _ (OpsW.alloc rfl rfl rfl rfl zer_158 fun K hK b2 hb2 => ?_)
  simp only [go_sem, Nat.reduceBEq, Nat.reduceAdd]
  refine hK _ _ (OpsW.nil ?_)
  refine AW.sreg [] fun K hK => ?_
  simp only [go_sem, Nat.reduceBEq, Nat.reduceAdd]
  refine hK _ _ (OpsW.alloc rfl rfl rfl rfl zer_158 fun K hK b3 hb3 => ?_)
  have hne : b2 ≠ b3 := hb3 b2 _ (by simp only [O, if_true]; rfl)
  have hne' : b3 ≠ b2 := fun e => hne e.symm
  simp only [go_sem, Nat.reduceBEq, Nat.reduceAdd]
  refine hK _ _ (OpsW.nil ?_)
  refine AW.sreg [] fun K hK => ?_
  simp only [go_sem, Nat.reduceBEq, Nat.reduceAdd, hne, hne']
  refine hK _ _ (OpsW.store rfl rfl rfl rfl rfl (by simp only [O, if_true]; rfl) ty_9 rfl (by rfl) (by rfl) (by simp) fun K hK => ?_)
  simp only [go_sem, Nat.reduceBEq, Nat.reduceAdd]
  refine hK _ _ (OpsW.nil ?_)
  refine AW.sreg [] fun K hK => ?_
  simp only [go_sem, Nat.reduceBEq, Nat.reduceAdd, hne, hne']
  refine ⟨_, CallOK.pure en86 rfl h1, ?_⟩
  try simp only [go_sem, Nat.reduceBEq, Nat.reduceAdd, hne, hne']
  refine hK _ _ (OpsW.store rfl rfl rfl rfl rfl (by simp only [O, if_true]; rfl) ty_76 rfl (by rfl) (by rfl) (by simp) fun K hK => ?_)
  simp only [go_sem, Nat.reduceBEq, Nat.reduceAdd]
  refine hK _ _ (OpsW.nil ?_)
  refine AW.sreg [] fun K hK => ?_
  simp only [go_sem, Nat.reduceBEq, Nat.reduceAdd, hne, hne']
  refine hK _ _ (OpsW.store rfl rfl rfl rfl rfl (by simp only [O, if_true]; rfl) ty_3 rfl (by rfl) (by rfl) (by simp) fun K hK => ?_)
  simp only [go_sem, Nat.reduceBEq, Nat.reduceAdd]
  refine hK _ _ (OpsW.nil ?_)
  refine AW.sreg [14] fun K hK => ?_
  simp only [go_sem, Nat.reduceBEq, Nat.reduceAdd]
  refine hK _ _ (OpsW.take rfl rfl rfl rfl rfl (by simp only [O, if_true]; rfl) ty_158 rfl fun K hK => ?_)
  simp only [go_sem, Nat.reduceBEq, Nat.reduceAdd]
  refine hK _ _ (OpsW.store rfl rfl rfl rfl rfl (by simp only [O, hne', if_false, if_true]; rfl) ty_158 rfl (by rfl) (by rfl) (by simp) fun K hK => ?_)
  simp only [go_sem, Nat.reduceBEq, Nat.reduceAdd]
  refine hK _ _ (OpsW.nil (AW.ret ?_))
  simp only [go_sem]
  exact Ends.res rfl (ResOK.cell rfl (by simp only [O, if_true]; rfl) ty_158 rfl)

theorem eqCampaign_c {L : Nat → Nat} (x : Dt.Campaign) (h1 : PureC L Try.prog 49 [.sl false 3 (x.tasks.map (encTask false)), .sl false 3 (x.tasks.map (encTask false))] (.v (.bool true))) : PureC L Try.prog 18 [encCampaign false x, encCampaign false x] (.v (.bool true)) := by
  refine PureC.of_body Try.func18 rfl rfl ?_
  rw [Try.ntmps18]
  refine AW.sreg [] fun K hK => ?_
  simp only [go_sem, Nat.reduceBEq, Nat.reduceAdd]
  refine hK _ _ (OpsW.nil ?_)
  refine AW.seq (AW.sreg [] fun K hK => ?_)
  simp only [go_sem, Nat.reduceBEq, Nat.reduceAdd]
  refine hK _ _ (OpsW.nil ?_)
  refine AW.cond rfl (fun h => absurd h (by simp)) (fun _ => AW.skip ?_)
  refine AW.seq (AW.sreg [] fun K hK => ?_)
  simp only [go_sem, Nat.reduceBEq, Nat.reduceAdd]
  refine ⟨_, CallOK.pure en49 rfl h1, ?_⟩
  simp only [go_sem, Nat.reduceBEq, Nat.reduceAdd]
  refine hK _ _ (OpsW.nil ?_)
  refine AW.cond rfl (fun h => absurd h (by simp)) (fun _ => AW.skip ?_)
  refine AW.sreg [] fun K hK => ?_
  simp only [go_sem, Nat.reduceBEq, Nat.reduceAdd]
  exact hK _ _ (OpsW.nil (AW.ret (Ends.one' rfl rfl)))

theorem szCampaign_c {L : Nat → Nat} (x : Dt.Campaign) (h1 : ∀ r : Int, 0 ≤ r → r ≤ 1048576 → PureC L Try.prog 46 [.sl false 3 (x.tasks.map (encTask false)), .v (.int .i64 r)] (.v (.int .i64 (szSl szTask x.tasks r)))) (left : Int) (g0 : 0 ≤ left) (g1 : left ≤ 1048576) : PureC L Try.prog 14 [encCampaign false x, .v (.int .i64 left)] (.v (.int .i64 (szCampaign x left))) := by
  refine PureC.of_body Try.func14 rfl rfl ?_
  rw [Try.ntmps14]
  refine AW.sreg [] fun K hK => ?_
  simp only [go_sem, Nat.reduceBEq, Nat.reduceAdd]
  refine hK _ _ (OpsW.nil ?_)
  refine AW.sreg [] fun K hK => ?_
  simp only [go_sem, Nat.reduceBEq, Nat.reduceAdd]
  refine ⟨_, CallOK.pure en46 rfl (h1 left (by omega) (by omega)), ?_⟩
  simp only [go_sem, Nat.reduceBEq, Nat.reduceAdd]
  have e1 := szSl_le szTask (fun y r hr => szTask_le y r hr) x.tasks left (by omega)
  refine hK _ _ (OpsW.nil ?_)
  refine AW.seq (AW.sreg [] fun K hK => ?_)
  simp only [go_sem, Nat.reduceBEq, Nat.reduceAdd]
  refine hK _ _ (OpsW.nil ?_)
  refine AW.cond rfl (fun h => ?_) (fun h => ?_)
  · have q1 : (szSl szTask x.tasks left) < 0 := by simpa using h
    refine AW.sreg [] fun K hK => ?_
    simp only [go_sem, Nat.reduceBEq, Nat.reduceAdd]
    refine hK _ _ (OpsW.nil (AW.ret (Ends.one' rfl ?_)))
    have p1 : (szSl szTask x.tasks left) < 0 := q1
    rw [szCampaign, thn_neg p1]; rfl
  have q1 : ¬ ((szSl szTask x.tasks left) < 0) := by simpa using h
  have p1 : ¬ ((szSl szTask x.tasks left) < 0) := q1
  clear h
  refine AW.skip ?_
  refine AW.sreg [] fun K hK => ?_
  simp only [go_sem, Nat.reduceBEq, Nat.reduceAdd]
  refine hK _ _ (OpsW.nil (AW.ret (Ends.one' rfl ?_)))
  rw [szCampaign, thn_pos p1]; rfl

theorem toCampaign_c {L : Nat → Nat} (x : Dt.Campaign) (h1 : PureC L Try.prog 48 [.sl false 3 (x.tasks.map (encTask false))] (.sl true 3 (x.tasks.map (encTask true)))) : PureC L Try.prog 16 [encCampaign false x] (encCampaign true x) := by
  refine PureC.of_body Try.func16 rfl rfl ?_
  rw [Try.ntmps16]
  refine AW.sreg [] fun K hK => ?_
  simp only [go_sem, Nat.reduceBEq, Nat.reduceAdd]
  refine hK _ _ (OpsW.alloc rfl rfl rfl rfl zer_35 fun K hK b2 hb2 => ?_)
  simp only [go_sem, Nat.reduceBEq, Nat.reduceAdd]
  refine hK _ _ (OpsW.nil ?_)
  refine AW.sreg [] fun K hK => ?_
  simp only [go_sem, Nat.reduceBEq, Nat.reduceAdd]
  refine hK _ _ (OpsW.alloc rfl rfl rfl rfl zer_35 fun K hK b3 hb3 => ?_)
  have hne : b2 ≠ b3 := hb3 b2 _ (by simp only [O, if_true]; rfl)
  have hne' : b3 ≠ b2 := fun e => hne e.symm
  simp only [go_sem, Nat.reduceBEq, Nat.reduceAdd]
  refine hK _ _ (OpsW.nil ?_)
  refine AW.sreg [] fun K hK => ?_
  simp only [go_sem, Nat.reduceBEq, Nat.reduceAdd, hne, hne']
  refine hK _ _ (OpsW.store rfl rfl rfl rfl rfl (by simp only [O, if_true]; rfl) ty_3 rfl (by rfl) (by rfl) (by simp) fun K hK => ?_)
  simp only [go_sem, Nat.reduceBEq, Nat.reduceAdd]
  refine hK _ _ (OpsW.nil ?_)
  refine AW.sreg [] fun K hK => ?_
  simp only [go_sem, Nat.reduceBEq, Nat.reduceAdd, hne, hne']
  refine ⟨_, CallOK.pure en48 rfl h1, ?_⟩
  try simp only [go_sem, Nat.reduceBEq, Nat.reduceAdd, hne, hne']
  refine hK _ _ (OpsW.store rfl rfl rfl rfl rfl (by simp only [O, if_true]; rfl) ty_33 rfl (by rfl) (by rfl) (by simp) fun K hK => ?_)
  simp only [go_sem, Nat.reduceBEq, Nat.reduceAdd]
  refine hK _ _ (OpsW.nil ?_)
  refine AW.sreg [11] fun K hK => ?_
  simp only [go_sem, Nat.reduceBEq, Nat.reduceAdd]
  refine hK _ _ (OpsW.take rfl rfl rfl rfl rfl (by simp only [O, if_true]; rfl) ty_35 rfl fun K hK => ?_)
  simp only [go_sem, Nat.reduceBEq, Nat.reduceAdd]
  refine hK _ _ (OpsW.store rfl rfl rfl rfl rfl (by simp only [O, hne', if_false, if_true]; rfl) ty_35 rfl (by rfl) (by rfl) (by simp) fun K hK => ?_)
  simp only [go_sem, Nat.reduceBEq, Nat.reduceAdd]
  refine hK _ _ (OpsW.nil (AW.ret ?_))
  simp only [go_sem]
  exact Ends.res rfl (ResOK.cell rfl (by simp only [O, if_true]; rfl) ty_35 rfl)

end Go.Proofs.Ytkdchlggdcmkbaa
