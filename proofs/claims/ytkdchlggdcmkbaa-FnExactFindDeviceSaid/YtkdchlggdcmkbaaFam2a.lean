/-
  The helper functions of the laws (equal, size, copy): what each returns, part 1.
-/
import Derived.Test.YtkdchlggdcmkbaaDat2
import Derived.Test.YtkdchlggdcmkbaaAbMore
import Derived.Test.YtkdchlggdcmkbaaTysTry
set_option linter.unusedSimpArgs false
set_option linter.unusedVariables false
namespace Go.Proofs.Ytkdchlggdcmkbaa
open Go.Ab Go.Dt
theorem eqstringS_a {L : Nat → Nat} (hL : ∀ z, L z ≤ 4611686018427387904) (l : List Dt.Str) : PureC L Try.prog 11 [.sl false 1 (l.map AV.str), .sl false 1 (l.map AV.str)] (.v (.bool true)) := by
  refine PureC.of_body Try.func11 rfl rfl ?_
  rw [Try.ntmps11]
  refine AW.len 0 rfl fun hlen => ?_
  have hlen' := Nat.le_trans hlen (hL 1)
  rw [List.length_map] at hlen'
  clear hlen
  refine AW.sreg [] fun K hK => ?_
  simp only [go_sem, Nat.reduceBEq, Nat.reduceAdd]
  refine hK _ _ (OpsW.nil ?_)
  refine AW.seq (AW.sreg [] fun K hK => ?_)
  simp only [go_sem, Nat.reduceBEq, Nat.reduceAdd]
  refine hK _ _ (OpsW.nil ?_)
  refine AW.cond rfl (fun h => absurd h (by simp)) (fun _ => AW.skip ?_)
  refine AW.seq (AW.sreg [] fun K hK => ?_)
  simp only [go_sem, Nat.reduceBEq, Nat.reduceAdd]
  refine hK _ _ (OpsW.nil ?_)
  refine AW.block (AW.loopK [0, 1, 5] (fun m t => ∃ k : Nat, t = [(0, .sl false 1 (l.map AV.str)), (1, .sl false 1 (l.map AV.str)), (5, .v (.int .i64 k))] ∧ m = l.length - k ∧ k ≤ l.length) l.length ⟨0, rfl, by simp, by simp⟩ ?_)
  rintro m t ⟨k, rfl, rfl, hk⟩
  refine AW.seq (AW.sreg [] fun K hK => ?_)
  simp only [go_sem, Nat.reduceBEq, Nat.reduceAdd]
  refine hK _ _ (OpsW.nil ?_)
  refine AW.cond rfl (fun h => ?_) (fun h => ?_)
  · have hlt : k < l.length := by simpa using h
    clear h
    refine AW.skip (AW.seq (AW.block (AW.sdrw [] fun K hK => ?_)))
    simp only [go_sem, Nat.reduceBEq, Nat.reduceAdd, hlt]
    refine hK _ _ ?_ ?_
    · kernel_rfl
    refine OpsW.nil ?_
    refine AW.cond rfl (fun h => absurd h (by simp)) (fun _ => ?_)
    refine AW.skip (AW.reg [] fun K hK => ?_)
    simp only [go_sem, Nat.reduceBEq, Nat.reduceAdd]
    refine hK _ _ (OpsW.nil ⟨rfl, l.length - (k + 1), by omega, k + 1, ?_, rfl, hlt⟩)
    simp only [go_sem, Nat.reduceBEq, Nat.reduceAdd]
    rw [wrap_i64 (by omega) (by omega)]; rfl
  · refine AW.exit ?_
    simp only [blockQ, thenQ, if_true]
    refine AW.sreg [] fun K hK => ?_
    simp only [go_sem, Nat.reduceBEq, Nat.reduceAdd]
    exact hK _ _ (OpsW.nil (AW.ret (Ends.one' rfl rfl)))

theorem szstringS_a {L : Nat → Nat} (hL : ∀ z, L z ≤ 4611686018427387904) (l : List Dt.Str)
    (left : Int) (h0 : 0 ≤ left) (h1 : left ≤ 1048576) : PureC L Try.prog 148 [.sl false 1 (l.map AV.str), .v (.int .i64 left)] (.v (.int .i64 (szSl szStr l left))) := by
  refine PureC.of_body Try.func148 rfl rfl ?_
  rw [Try.ntmps148]
  refine AW.len 0 rfl fun hlen => ?_
  have hlen' := Nat.le_trans hlen (hL 1)
  rw [List.length_map] at hlen'
  clear hlen
  refine AW.sreg [] fun K hK => ?_
  simp only [go_sem, Nat.reduceBEq, Nat.reduceAdd]
  refine hK _ _ (OpsW.nil ?_)
  refine AW.sreg [] fun K hK => ?_
  simp only [go_sem, Nat.reduceBEq, Nat.reduceAdd]
  rw [wrap_i64 (by omega) (by omega)]
  refine hK _ _ (OpsW.nil ?_)
  refine AW.seq (AW.sreg [] fun K hK => ?_)
  simp only [go_sem, Nat.reduceBEq, Nat.reduceAdd]
  refine hK _ _ (OpsW.nil ?_)
  refine AW.cond rfl (fun h => ?_) (fun h => ?_)
  · have h2 : left - (l.length : Int) < 0 := by simpa using h
    refine AW.sreg [] fun K hK => ?_
    simp only [go_sem, Nat.reduceBEq, Nat.reduceAdd]
    refine hK _ _ (OpsW.nil (AW.ret (Ends.one' rfl ?_)))
    rw [szSl, thn, if_pos h2]; rfl
  have h2 : ¬ (left - (l.length : Int) < 0) := by simpa using h
  clear h
  refine AW.skip (AW.seq (AW.sreg [] fun K hK => ?_))
  simp only [go_sem, Nat.reduceBEq, Nat.reduceAdd]
  refine hK _ _ (OpsW.nil ?_)
  refine AW.block (AW.loopK [0, 1, 5] (fun m t => ∃ (k : Nat) (r : Int), t = [(0, .sl false 1 (l.map AV.str)), (1, .v (.int .i64 r)), (5, .v (.int .i64 k))] ∧ m = l.length - k ∧ k ≤ l.length ∧ r = szGo szStr (l.take k) (left - l.length) ∧ 0 ≤ r ∧ r ≤ 1048576) l.length ⟨0, _, rfl, by simp, by simp, by simp [szGo], by omega, by omega⟩ ?_)
  rintro m t ⟨k, r, rfl, rfl, hk, hr, hr0, hr1⟩
  refine AW.seq (AW.sreg [] fun K hK => ?_)
  simp only [go_sem, Nat.reduceBEq, Nat.reduceAdd]
  refine hK _ _ (OpsW.nil ?_)
  refine AW.cond rfl (fun h => ?_) (fun h => ?_)
  · have hlt : k < l.length := by simpa using h
    clear h
    have hsn : szGo szStr (l.take (k + 1)) (left - l.length) = thn (szStr l[k] r) id := by
      rw [List.take_succ_eq_append_getElem hlt, szGo_snoc _ _ _ _ (by rw [← hr]; exact hr0), ← hr]
    have hle := szStr_le l[k] r hr0
    refine AW.skip (AW.slStr 0 rfl (s := l[k]) (List.mem_map.2 ⟨_, List.getElem_mem hlt, rfl⟩) fun hs => AW.seq (AW.block (AW.sreg [] fun K hK => ?_)))
    simp only [go_sem, Nat.reduceBEq, Nat.reduceAdd, hlt]
    rw [wrap_i64 (by omega) (by omega)]
    refine hK _ _ (OpsW.nil ?_)
    refine AW.sreg [] fun K hK => ?_
    simp only [go_sem, Nat.reduceBEq, Nat.reduceAdd]
    refine hK _ _ (OpsW.nil ?_)
    refine AW.cond rfl (fun h => ?_) (fun h => ?_)
    · have h3 : szStr l[k] r < 0 := by unfold szStr; simpa using h
      refine AW.sreg [] fun K hK => ?_
      simp only [go_sem, Nat.reduceBEq, Nat.reduceAdd]
      refine hK _ _ (OpsW.nil (AW.ret (Ends.one' rfl ?_)))
      rw [thn, if_pos h3] at hsn
      have := szGo_neg szStr (l.take (k + 1)) (l.drop (k + 1)) _ hsn (List.ne_nil_of_length_pos (by rw [List.length_take]; omega))
      rw [List.take_append_drop] at this
      rw [szSl, thn, if_neg h2, this]; rfl
    · have h3 : ¬ (szStr l[k] r < 0) := by unfold szStr; simpa using h
      clear h
      rw [thn, if_neg h3] at hsn
      refine AW.skip (AW.reg [] fun K hK => ?_)
      simp only [go_sem, Nat.reduceBEq, Nat.reduceAdd]
      refine hK _ _ (OpsW.nil ⟨rfl, l.length - (k + 1), by omega, k + 1, _, ?_, rfl, hlt, hsn.symm, by simp only [id]; omega, by simp only [id]; omega⟩)
      simp only [go_sem, Nat.reduceBEq, Nat.reduceAdd]
      rw [wrap_i64 (by omega) (by omega)]; rfl
  · have hge : k = l.length := by have := h; simp at this; omega
    subst hge
    refine AW.exit ?_
    simp only [blockQ, thenQ, if_true]
    refine AW.sreg [] fun K hK => ?_
    simp only [go_sem, Nat.reduceBEq, Nat.reduceAdd]
    refine hK _ _ (OpsW.nil (AW.ret (Ends.one' rfl ?_)))
    rw [List.take_of_length_le (Nat.le_refl _)] at hr
    rw [szSl, thn, if_neg h2, ← hr]; rfl

theorem tostringS_a (l : List Dt.Str) : PureC lim Try.prog 149 [.sl false 1 (l.map AV.str)] (.sl true 1 (l.map AV.str)) := by
  refine PureC.of_body Try.func149 rfl rfl ?_
  rw [Try.ntmps149]
  refine AW.len 0 rfl fun hlen => ?_
  rw [List.length_map] at hlen
  have hl : l.length ≤ 1099511627776 := hlen
  refine AW.sreg [] fun K hK => ?_
  simp only [go_sem, Nat.reduceBEq, Nat.reduceAdd]
  refine hK _ _ (OpsW.nil ?_)
  refine AW.sreg [] fun K hK => ?_
  simp only [go_sem, Nat.reduceBEq, Nat.reduceAdd]
  refine hK _ _ (OpsW.mk rfl rfl rfl rfl elm_22 zer_9 rfl rfl rfl hlen (by omega) (fun K hK b hb => ?_) (by omega))
  simp only [go_sem, Nat.reduceBEq, Nat.reduceAdd]
  refine hK _ _ (OpsW.go [] fun K hK => ?_)
  simp only [go_sem, Nat.reduceBEq, Nat.reduceAdd]
  refine hK _ _ (OpsW.nil ?_)
  refine AW.seq (AW.sreg [] fun K hK => ?_)
  simp only [go_sem, Nat.reduceBEq, Nat.reduceAdd]
  refine hK _ _ (OpsW.nil ?_)
  refine AW.block (AW.loopO [0, 3, 4] (fun m t o => ∃ k b : Nat, t = [(0, .sl false 1 (l.map AV.str)), (3, .arr b 0 l.length 1), (4, .v (.int .i64 k))] ∧ o = [(b, some (mkC AV.str [.string ⟨([] : List UInt8).toArray⟩] l k))] ∧ m = l.length - k ∧ k ≤ l.length) l.length [(b, some (mkC AV.str [.string ⟨([] : List UInt8).toArray⟩] l 0))] (by rw [mkC_zero]; exact fun _ _ h => h) ⟨0, b, rfl, rfl, by simp, by simp⟩ ?_)
  rintro m t o ⟨k, b, rfl, rfl, rfl, hk⟩
  have hC := mkC_len AV.str [.string ⟨([] : List UInt8).toArray⟩] 1 (fun x => by first | rfl | simp only [go_sem]) rfl l k hk
  refine AW.seq (AW.sreg [] fun K hK => ?_)
  simp only [go_sem, Nat.reduceBEq, Nat.reduceAdd]
  refine hK _ _ (OpsW.nil ?_)
  refine AW.cond rfl (fun h => ?_) (fun h => ?_)
  · have hlt : k < l.length := by simpa using h
    clear h
    have hst := mkC_step AV.str [.string ⟨([] : List UInt8).toArray⟩] 1 (fun x => by first | rfl | simp only [go_sem]) rfl l k hlt
    refine AW.skip (AW.seq (AW.block (AW.reg [] fun K hK => ?_)))
    simp only [go_sem, Nat.reduceBEq, Nat.reduceAdd, hlt]
    refine hK _ _ ?_
    refine OpsW.store rfl rfl rfl rfl rfl (by simp only [O, if_true]; rfl) ty_9 rfl (by rfl) (by rfl) (by rw [hC]; omega) fun K hK => ?_
    simp only [go_sem, Nat.reduceBEq, Nat.reduceAdd]
    refine hK _ _ (OpsW.nil ?_)
    simp only [blockQ, thenQ]
    refine AW.reg [] fun K hK => ?_
    simp only [go_sem, Nat.reduceBEq, Nat.reduceAdd]
    refine hK _ _ (OpsW.nil ⟨rfl, l.length - (k + 1), [(b, some (mkC AV.str [.string ⟨([] : List UInt8).toArray⟩] l (k + 1)))], by omega, ⟨k + 1, b, ?_, rfl, rfl, hlt⟩, ?_⟩)
    · simp only [go_sem, Nat.reduceBEq, Nat.reduceAdd]
      rw [wrap_i64 (by omega) (by omega)]; rfl
    · intro q cs hq
      simp only [O] at hq ⊢
      split at hq
      · rename_i e; rw [if_pos e, ← hq, ← hst]; first | rfl | (simp only [go_sem]; done) | simp only [go_sem, hlt]
      · cases hq
  · have hge : k = l.length := by have := h; simp at this; omega
    subst hge
    refine AW.exit ?_
    simp only [blockQ, thenQ, if_true]
    refine AW.sreg [] fun K hK => ?_
    simp only [go_sem, Nat.reduceBEq, Nat.reduceAdd]
    refine hK _ _ (OpsW.nil (AW.ret ?_))
    refine Ends.res rfl (ResOK.pack rfl (by simp only [O, if_true]; rfl) (by simp) ?_ ?_)
    · rw [mkC_end, List.drop_zero, List.take_of_length_le (by rw [mkC_end] at hC; omega)]
    · intro z hz
      obtain ⟨y, _, rfl⟩ := List.mem_map.1 hz
      first | rfl | simp only [go_sem]

theorem eqRangeS_c {L : Nat → Nat} (hL : ∀ z, L z ≤ 4611686018427387904) (l : List Dt.GRange) (hx : ∀ x, x ∈ l → PureC L Try.prog 178 [encRange false x, encRange false x] (.v (.bool true))) : PureC L Try.prog 169 [.sl false 2 (l.map (encRange false)), .sl false 2 (l.map (encRange false))] (.v (.bool true)) := by
  refine PureC.of_body Try.func169 rfl rfl ?_
  rw [Try.ntmps169]
  refine AW.len 0 rfl fun hlen => ?_
  have hlen' := Nat.le_trans hlen (hL 2)
  rw [List.length_map] at hlen'
  clear hlen
  refine AW.sreg [] fun K hK => ?_
  simp only [go_sem, Nat.reduceBEq, Nat.reduceAdd]
  refine hK _ _ (OpsW.nil ?_)
  refine AW.seq (AW.sreg [] fun K hK => ?_)
  simp only [go_sem, Nat.reduceBEq, Nat.reduceAdd]
  refine hK _ _ (OpsW.nil ?_)
  refine AW.cond rfl (fun h => absurd h (by simp)) (fun _ => AW.skip ?_)
  refine AW.seq (AW.sreg [] fun K hK => ?_)
  simp only [go_sem, Nat.reduceBEq, Nat.reduceAdd]
  refine hK _ _ (OpsW.nil ?_)
  refine AW.block (AW.loopK [0, 1, 5] (fun m t => ∃ k : Nat, t = [(0, .sl false 2 (l.map (encRange false))), (1, .sl false 2 (l.map (encRange false))), (5, .v (.int .i64 k))] ∧ m = l.length - k ∧ k ≤ l.length) l.length ⟨0, rfl, by simp, by simp⟩ ?_)
  rintro m t ⟨k, rfl, rfl, hk⟩
  refine AW.seq (AW.sreg [] fun K hK => ?_)
  simp only [go_sem, Nat.reduceBEq, Nat.reduceAdd]
  refine hK _ _ (OpsW.nil ?_)
  refine AW.cond rfl (fun h => ?_) (fun h => ?_)
  · have hlt : k < l.length := by simpa using h
    clear h
    refine AW.skip (AW.seq (AW.block (AW.sdrw [] fun K hK => ?_)))
    simp only [go_sem, Nat.reduceBEq, Nat.reduceAdd, hlt]
    refine ⟨_, CallOK.pure en178 rfl (by have := hx l[k] (List.getElem_mem hlt); simpa only [go_sem] using this), ?_⟩
    simp only [go_sem, Nat.reduceBEq, Nat.reduceAdd]
    refine hK _ _ ?_ ?_
    · kernel_rfl
    refine OpsW.nil ?_
    refine AW.cond rfl (fun h => absurd h (by simp)) (fun _ => ?_)
    refine AW.skip (AW.reg [] fun K hK => ?_)
    simp only [go_sem, Nat.reduceBEq, Nat.reduceAdd]
    refine hK _ _ (OpsW.nil ⟨rfl, l.length - (k + 1), by omega, k + 1, ?_, rfl, hlt⟩)
    simp only [go_sem, Nat.reduceBEq, Nat.reduceAdd]
    rw [wrap_i64 (by omega) (by omega)]; rfl
  · refine AW.exit ?_
    simp only [blockQ, thenQ, if_true]
    refine AW.sreg [] fun K hK => ?_
    simp only [go_sem, Nat.reduceBEq, Nat.reduceAdd]
    exact hK _ _ (OpsW.nil (AW.ret (Ends.one' rfl rfl)))

theorem eqRange_c {L : Nat → Nat} (x : Dt.GRange) : PureC L Try.prog 178 [encRange false x, encRange false x] (.v (.bool true)) := by
  refine PureC.of_body Try.func178 rfl rfl ?_
  rw [Try.ntmps178]
  refine AW.sreg [] fun K hK => ?_
  simp only [go_sem, Nat.reduceBEq, Nat.reduceAdd]
  refine hK _ _ (OpsW.nil ?_)
  refine AW.seq (AW.sreg [] fun K hK => ?_)
  simp only [go_sem, Nat.reduceBEq, Nat.reduceAdd]
  refine hK _ _ (OpsW.nil ?_)
  refine AW.cond rfl (fun h => absurd h (by simp)) (fun _ => AW.skip ?_)
  refine AW.seq (AW.sreg [] fun K hK => ?_)
  simp only [go_sem, Nat.reduceBEq, Nat.reduceAdd]
  refine hK _ _ (OpsW.nil ?_)
  refine AW.cond rfl (fun h => absurd h (by simp)) (fun _ => AW.skip ?_)
  refine AW.sreg [] fun K hK => ?_
  simp only [go_sem, Nat.reduceBEq, Nat.reduceAdd]
  exact hK _ _ (OpsW.nil (AW.ret (Ends.one' rfl rfl)))

theorem eqRange_a {L : Nat → Nat} (hL : ∀ z, L z ≤ 4611686018427387904) (x : Dt.GRange) : PureC L Try.prog 178 [encRange false x, encRange false x] (.v (.bool true)) := eqRange_c x 
theorem eqRangeS_a {L : Nat → Nat} (hL : ∀ z, L z ≤ 4611686018427387904) (l : List Dt.GRange) : PureC L Try.prog 169 [.sl false 2 (l.map (encRange false)), .sl false 2 (l.map (encRange false))] (.v (.bool true)) := eqRangeS_c hL l fun x _ => eqRange_a hL x
theorem szGo_Range : ∀ (l : List Dt.GRange) (r : Int), 0 ≤ r → szGo szRange l r = r
  | [], _, _ => rfl
  | x :: xs, r, h => by
    rw [szGo, show szRange x r = r from rfl, thn, if_neg (by omega)]; exact szGo_Range xs r h
theorem szRangeS_a {L : Nat → Nat} (hL : ∀ z, L z ≤ 4611686018427387904) (l : List Dt.GRange) (left : Int) (h0 : 0 ≤ left) (h1 : left ≤ 1048576) : PureC L Try.prog 165 [.sl false 2 (l.map (encRange false)), .v (.int .i64 left)] (.v (.int .i64 (szSl szRange l left))) := by
  refine PureC.of_body Try.func165 rfl rfl ?_
  rw [Try.ntmps165]
  refine AW.len 0 rfl fun hlen => ?_
  have hlen' := Nat.le_trans hlen (hL 2)
  rw [List.length_map] at hlen'
  clear hlen
  refine AW.sreg [] fun K hK => ?_
  simp only [go_sem, Nat.reduceBEq, Nat.reduceAdd]
  refine hK _ _ (OpsW.nil ?_)
  refine AW.sreg [] fun K hK => ?_
  simp only [go_sem, Nat.reduceBEq, Nat.reduceAdd]
  rw [wrap_i64 (by omega) (by omega)]
  refine hK _ _ (OpsW.nil ?_)
  refine AW.seq (AW.sreg [] fun K hK => ?_)
  simp only [go_sem, Nat.reduceBEq, Nat.reduceAdd]
  refine hK _ _ (OpsW.nil ?_)
  refine AW.cond rfl (fun h => ?_) (fun h => ?_)
  · have h2 : left - (l.length : Int) < 0 := by simpa using h
    refine AW.sreg [] fun K hK => ?_
    simp only [go_sem, Nat.reduceBEq, Nat.reduceAdd]
    refine hK _ _ (OpsW.nil (AW.ret (Ends.one' rfl ?_)))
    rw [szSl, thn, if_pos h2]; rfl
  have h2 : ¬ (left - (l.length : Int) < 0) := by simpa using h
  clear h
  refine AW.skip (AW.sreg [] fun K hK => ?_)
  simp only [go_sem, Nat.reduceBEq, Nat.reduceAdd]
  refine hK _ _ (OpsW.nil (AW.ret (Ends.one' rfl ?_)))
  rw [szSl, thn, if_neg h2, szGo_Range l _ (by omega)]; rfl

theorem toRangeS_c (l : List Dt.GRange) (hx : ∀ x, x ∈ l → PureC lim Try.prog 175 [encRange false x] (encRange true x)) : PureC lim Try.prog 167 [.sl false 2 (l.map (encRange false))] (.sl true 2 (l.map (encRange true))) := by
  refine PureC.of_body Try.func167 rfl rfl ?_
  rw [Try.ntmps167]
  refine AW.len 0 rfl fun hlen => ?_
  rw [List.length_map] at hlen
  have hl : l.length ≤ 2147483648 := hlen
  refine AW.sreg [] fun K hK => ?_
  simp only [go_sem, Nat.reduceBEq, Nat.reduceAdd]
  refine hK _ _ (OpsW.nil ?_)
  refine AW.sreg [] fun K hK => ?_
  simp only [go_sem, Nat.reduceBEq, Nat.reduceAdd]
  refine hK _ _ (OpsW.mk rfl rfl rfl rfl elm_138 zer_186 rfl rfl rfl hlen (by omega) (fun K hK b hb => ?_) (by omega))
  simp only [go_sem, Nat.reduceBEq, Nat.reduceAdd]
  refine hK _ _ (OpsW.go [] fun K hK => ?_)
  simp only [go_sem, Nat.reduceBEq, Nat.reduceAdd]
  refine hK _ _ (OpsW.nil ?_)
  refine AW.seq (AW.sreg [] fun K hK => ?_)
  simp only [go_sem, Nat.reduceBEq, Nat.reduceAdd]
  refine hK _ _ (OpsW.nil ?_)
  refine AW.block (AW.loopO [0, 3, 4] (fun m t o => ∃ k b : Nat, t = [(0, .sl false 2 (l.map (encRange false))), (3, .arr b 0 l.length 2), (4, .v (.int .i64 k))] ∧ o = [(b, some (mkC (encRange true) [.int .i64 0, .int .i64 0] l k))] ∧ m = l.length - k ∧ k ≤ l.length) l.length [(b, some (mkC (encRange true) [.int .i64 0, .int .i64 0] l 0))] (by rw [mkC_zero]; exact fun _ _ h => h) ⟨0, b, rfl, rfl, by simp, by simp⟩ ?_)
  rintro m t o ⟨k, b, rfl, rfl, rfl, hk⟩
  have hC := mkC_len (encRange true) [.int .i64 0, .int .i64 0] 2 (fun x => by first | rfl | simp only [go_sem]) rfl l k hk
  refine AW.seq (AW.sreg [] fun K hK => ?_)
  simp only [go_sem, Nat.reduceBEq, Nat.reduceAdd]
  refine hK _ _ (OpsW.nil ?_)
  refine AW.cond rfl (fun h => ?_) (fun h => ?_)
  · have hlt : k < l.length := by simpa using h
    clear h
    have hst := mkC_step (encRange true) [.int .i64 0, .int .i64 0] 2 (fun x => by first | rfl | simp only [go_sem]) rfl l k hlt
    refine AW.skip (AW.seq (AW.block (AW.reg [] fun K hK => ?_)))
    simp only [go_sem, Nat.reduceBEq, Nat.reduceAdd, hlt]
    refine ⟨_, CallOK.pure en175 rfl (by have := hx l[k] (List.getElem_mem hlt); simpa only [go_sem] using this), ?_⟩
    try simp only [go_sem, Nat.reduceBEq, Nat.reduceAdd, hlt]
    refine hK _ _ ?_
    refine OpsW.store rfl rfl rfl rfl rfl (by simp only [O, if_true]; rfl) ty_186 rfl (by rfl) (by rfl) (by rw [hC]; omega) fun K hK => ?_
    simp only [go_sem, Nat.reduceBEq, Nat.reduceAdd]
    refine hK _ _ (OpsW.nil ?_)
    simp only [blockQ, thenQ]
    refine AW.reg [] fun K hK => ?_
    simp only [go_sem, Nat.reduceBEq, Nat.reduceAdd]
    refine hK _ _ (OpsW.nil ⟨rfl, l.length - (k + 1), [(b, some (mkC (encRange true) [.int .i64 0, .int .i64 0] l (k + 1)))], by omega, ⟨k + 1, b, ?_, rfl, rfl, hlt⟩, ?_⟩)
    · simp only [go_sem, Nat.reduceBEq, Nat.reduceAdd]
      rw [wrap_i64 (by omega) (by omega)]; rfl
    · intro q cs hq
      simp only [O] at hq ⊢
      split at hq
      · rename_i e; rw [if_pos e, ← hq, ← hst]; first | rfl | (simp only [go_sem]; done) | simp only [go_sem, hlt]
      · cases hq
  · have hge : k = l.length := by have := h; simp at this; omega
    subst hge
    refine AW.exit ?_
    simp only [blockQ, thenQ, if_true]
    refine AW.sreg [] fun K hK => ?_
    simp only [go_sem, Nat.reduceBEq, Nat.reduceAdd]
    refine hK _ _ (OpsW.nil (AW.ret ?_))
    refine Ends.res rfl (ResOK.pack rfl (by simp only [O, if_true]; rfl) (by simp) ?_ ?_)
    · rw [mkC_end, List.drop_zero, List.take_of_length_le (by rw [mkC_end] at hC; omega)]
    · intro z hz
      obtain ⟨y, _, rfl⟩ := List.mem_map.1 hz
      first | rfl | simp only [go_sem]

theorem toRange_c {L : Nat → Nat} (x : Dt.GRange) : PureC L Try.prog 175 [encRange false x] (encRange true x) := by
  refine PureC.of_body Try.func175 rfl rfl ?_
  rw [Try.ntmps175]
  refine AW.sreg [] fun K hK => ?_
  simp only [go_sem, Nat.reduceBEq, Nat.reduceAdd]
  refine hK _ _ (OpsW.alloc rfl rfl rfl rfl zer_186 fun K hK b2 hb2 => ?_)
  simp only [go_sem, Nat.reduceBEq, Nat.reduceAdd]
  refine hK _ _ (OpsW.nil ?_)
  refine AW.sreg [] fun K hK => ?_
  simp only [go_sem, Nat.reduceBEq, Nat.reduceAdd]
  refine hK _ _ (OpsW.alloc rfl rfl rfl rfl zer_186 fun K hK b3 hb3 => ?_)
  have hne : b2 ≠ b3 := hb3 b2 _ (by simp only [O, if_true]; rfl)
  have hne' : b3 ≠ b2 := fun e => hne e.symm
  simp only [go_sem, Nat.reduceBEq, Nat.reduceAdd]
  refine hK _ _ (OpsW.nil ?_)
  refine AW.sreg [] fun K hK => ?_
  simp only [go_sem, Nat.reduceBEq, Nat.reduceAdd, hne, hne']
  refine hK _ _ (OpsW.store rfl rfl rfl rfl rfl (by simp only [O, if_true]; rfl) ty_3 rfl (by rfl) (by rfl) (by simp) fun K hK => ?_)
  simp only [go_sem, Nat.reduceBEq, Nat.reduceAdd]
  refine hK _ _ (OpsW.nil ?_)
  refine AW.sreg [] fun K hK => ?_
  simp only [go_sem, Nat.reduceBEq, Nat.reduceAdd, hne, hne']
  refine hK _ _ (OpsW.store rfl rfl rfl rfl rfl (by simp only [O, if_true]; rfl) ty_3 rfl (by rfl) (by rfl) (by simp) fun K hK => ?_)
  simp only [go_sem, Nat.reduceBEq, Nat.reduceAdd]
  refine hK _ _ (OpsW.nil ?_)
  refine AW.sreg [10] fun K hK => ?_
  simp only [go_sem, Nat.reduceBEq, Nat.reduceAdd]
  refine hK _ _ (OpsW.take rfl rfl rfl rfl rfl (by simp only [O, if_true]; rfl) ty_186 rfl fun K hK => ?_)
  simp only [go_sem, Nat.reduceBEq, Nat.reduceAdd]
  refine hK _ _ (OpsW.store rfl rfl rfl rfl rfl (by simp only [O, hne', if_false, if_true]; rfl) ty_186 rfl (by rfl) (by rfl) (by simp) fun K hK => ?_)
  simp only [go_sem, Nat.reduceBEq, Nat.reduceAdd]
  refine hK _ _ (OpsW.nil (AW.ret ?_))
  simp only [go_sem]
  exact Ends.res rfl (ResOK.cell rfl (by simp only [O, if_true]; rfl) ty_186 rfl)

theorem toRange_a (x : Dt.GRange) : PureC lim Try.prog 175 [encRange false x] (encRange true x) := toRange_c x 
theorem toRange_v (x : Dt.GRange) : PureC lim Try.prog 175 [encRange false x] (encRange false x) := by
  have := (toRange_a x).frz
  rwa [encRange_frz] at this
theorem toRangeS_a (l : List Dt.GRange) : PureC lim Try.prog 167 [.sl false 2 (l.map (encRange false))] (.sl true 2 (l.map (encRange true))) := toRangeS_c l fun x _ => toRange_a x
theorem toRangeS_v (l : List Dt.GRange) : PureC lim Try.prog 167 [.sl false 2 (l.map (encRange false))] (.sl false 2 (l.map (encRange false))) := by
  have := (toRangeS_a l).frz
  rwa [show (AV.sl true 2 (l.map (encRange true))).frz = AV.sl false 2 (l.map (encRange false)) by simp only [AV.frz, cond_true, encRangeM_frz]] at this
theorem eqType_c {L : Nat → Nat} (x : Dt.GType) (h1 : PureC L Try.prog 169 [.sl false 2 (x.fRanges.map (encRange false)), .sl false 2 (x.fRanges.map (encRange false))] (.v (.bool true))) (h2 : PureC L Try.prog 11 [.sl false 1 (x.fNames.map AV.str), .sl false 1 (x.fNames.map AV.str)] (.v (.bool true))) : PureC L Try.prog 158 [encType false x, encType false x] (.v (.bool true)) := by
  refine PureC.of_body Try.func158 rfl rfl ?_
  rw [Try.ntmps158]
  refine AW.sreg [] fun K hK => ?_
  simp only [go_sem, Nat.reduceBEq, Nat.reduceAdd]
  refine hK _ _ (OpsW.nil ?_)
  refine AW.seq (AW.sreg [] fun K hK => ?_)
  simp only [go_sem, Nat.reduceBEq, Nat.reduceAdd]
  refine hK _ _ (OpsW.nil ?_)
  refine AW.cond rfl (fun h => absurd h (by simp)) (fun _ => AW.skip ?_)
  refine AW.seq (AW.sreg [] fun K hK => ?_)
  simp only [go_sem, Nat.reduceBEq, Nat.reduceAdd]
  refine ⟨_, CallOK.pure en169 rfl h1, ?_⟩
  simp only [go_sem, Nat.reduceBEq, Nat.reduceAdd]
  refine hK _ _ (OpsW.nil ?_)
  refine AW.cond rfl (fun h => absurd h (by simp)) (fun _ => AW.skip ?_)
  refine AW.seq (AW.sreg [] fun K hK => ?_)
  simp only [go_sem, Nat.reduceBEq, Nat.reduceAdd]
  refine ⟨_, CallOK.pure en11 rfl h2, ?_⟩
  simp only [go_sem, Nat.reduceBEq, Nat.reduceAdd]
  refine hK _ _ (OpsW.nil ?_)
  refine AW.cond rfl (fun h => absurd h (by simp)) (fun _ => AW.skip ?_)
  refine AW.seq (AW.sreg [] fun K hK => ?_)
  simp only [go_sem, Nat.reduceBEq, Nat.reduceAdd]
  refine hK _ _ (OpsW.nil ?_)
  refine AW.cond rfl (fun h => absurd h (by simp)) (fun _ => AW.skip ?_)
  refine AW.seq (AW.sreg [] fun K hK => ?_)
  simp only [go_sem, Nat.reduceBEq, Nat.reduceAdd]
  refine hK _ _ (OpsW.nil ?_)
  refine AW.cond rfl (fun h => absurd h (by simp)) (fun _ => AW.skip ?_)
  refine AW.sreg [] fun K hK => ?_
  simp only [go_sem, Nat.reduceBEq, Nat.reduceAdd]
  exact hK _ _ (OpsW.nil (AW.ret (Ends.one' rfl rfl)))

theorem eqType_a {L : Nat → Nat} (hL : ∀ z, L z ≤ 4611686018427387904) (x : Dt.GType) : PureC L Try.prog 158 [encType false x, encType false x] (.v (.bool true)) := eqType_c x (eqRangeS_a hL x.fRanges) (eqstringS_a hL x.fNames)
theorem szType_c {L : Nat → Nat} (x : Dt.GType) (h1 : ∀ r : Int, 0 ≤ r → r ≤ 1048576 → PureC L Try.prog 165 [.sl false 2 (x.fRanges.map (encRange false)), .v (.int .i64 r)] (.v (.int .i64 (szSl szRange x.fRanges r)))) (h2 : ∀ r : Int, 0 ≤ r → r ≤ 1048576 → PureC L Try.prog 148 [.sl false 1 (x.fNames.map AV.str), .v (.int .i64 r)] (.v (.int .i64 (szSl szStr x.fNames r)))) (left : Int) (g0 : 0 ≤ left) (g1 : left ≤ 1048576) : PureC L Try.prog 152 [encType false x, .v (.int .i64 left)] (.v (.int .i64 (szType x left))) := by
  refine PureC.of_body Try.func152 rfl rfl ?_
  rw [Try.ntmps152]
  simp only [go_sem]
  refine AW.aggStr 0 rfl (s := x.fPattern) (by simp) fun b3 => ?_
  refine AW.aggStr 0 rfl (s := x.fPath) (by simp) fun b4 => ?_
  refine AW.sreg [] fun K hK => ?_
  simp only [go_sem, Nat.reduceBEq, Nat.reduceAdd]
  refine hK _ _ (OpsW.nil ?_)
  refine AW.sreg [] fun K hK => ?_
  simp only [go_sem, Nat.reduceBEq, Nat.reduceAdd]
  refine ⟨_, CallOK.pure en165 rfl (h1 left (by omega) (by omega)), ?_⟩
  simp only [go_sem, Nat.reduceBEq, Nat.reduceAdd]
  have e1 := szSl_le szRange (fun y r hr => szRange_le y r hr) x.fRanges left (by omega)
  refine hK _ _ (OpsW.nil ?_)
  refine AW.seq (AW.sreg [] fun K hK => ?_)
  simp only [go_sem, Nat.reduceBEq, Nat.reduceAdd]
  refine hK _ _ (OpsW.nil ?_)
  refine AW.cond rfl (fun h => ?_) (fun h => ?_)
  · have q1 : (szSl szRange x.fRanges left) < 0 := by simpa using h
    refine AW.sreg [] fun K hK => ?_
    simp only [go_sem, Nat.reduceBEq, Nat.reduceAdd]
    refine hK _ _ (OpsW.nil (AW.ret (Ends.one' rfl ?_)))
    have p1 : (szSl szRange x.fRanges left) < 0 := q1
    rw [szType, thn_neg p1]; rfl
  have q1 : ¬ ((szSl szRange x.fRanges left) < 0) := by simpa using h
  have p1 : ¬ ((szSl szRange x.fRanges left) < 0) := q1
  clear h
  refine AW.skip ?_
  refine AW.sreg [] fun K hK => ?_
  simp only [go_sem, Nat.reduceBEq, Nat.reduceAdd]
  refine ⟨_, CallOK.pure en148 rfl (h2 (szSl szRange x.fRanges left) (by omega) (by omega)), ?_⟩
  simp only [go_sem, Nat.reduceBEq, Nat.reduceAdd]
  have e2 := szSl_le szStr (fun y r hr => szStr_le y r hr) x.fNames (szSl szRange x.fRanges left) (by omega)
  refine hK _ _ (OpsW.nil ?_)
  refine AW.seq (AW.sreg [] fun K hK => ?_)
  simp only [go_sem, Nat.reduceBEq, Nat.reduceAdd]
  refine hK _ _ (OpsW.nil ?_)
  refine AW.cond rfl (fun h => ?_) (fun h => ?_)
  · have q2 : (szSl szStr x.fNames (szSl szRange x.fRanges left)) < 0 := by simpa using h
    refine AW.sreg [] fun K hK => ?_
    simp only [go_sem, Nat.reduceBEq, Nat.reduceAdd]
    refine hK _ _ (OpsW.nil (AW.ret (Ends.one' rfl ?_)))
    have p2 : (szSl szStr x.fNames (szSl szRange x.fRanges left)) < 0 := q2
    rw [szType, thn_pos p1, thn_neg p2]; rfl
  have q2 : ¬ ((szSl szStr x.fNames (szSl szRange x.fRanges left)) < 0) := by simpa using h
  have p2 : ¬ ((szSl szStr x.fNames (szSl szRange x.fRanges left)) < 0) := q2
  clear h
  refine AW.skip ?_
  refine AW.sreg [] fun K hK => ?_
  simp only [go_sem, Nat.reduceBEq, Nat.reduceAdd]
  rw [wrap_i64 (by omega) (by omega)]
  refine hK _ _ (OpsW.nil ?_)
  refine AW.seq (AW.sreg [] fun K hK => ?_)
  simp only [go_sem, Nat.reduceBEq, Nat.reduceAdd]
  refine hK _ _ (OpsW.nil ?_)
  refine AW.cond rfl (fun h => ?_) (fun h => ?_)
  · have q3 : ((szSl szStr x.fNames (szSl szRange x.fRanges left)) - (x.fPattern.length : Int)) < 0 := by simpa using h
    refine AW.sreg [] fun K hK => ?_
    simp only [go_sem, Nat.reduceBEq, Nat.reduceAdd]
    refine hK _ _ (OpsW.nil (AW.ret (Ends.one' rfl ?_)))
    have p3 : (szStr x.fPattern (szSl szStr x.fNames (szSl szRange x.fRanges left))) < 0 := q3
    rw [szType, thn_pos p1, thn_pos p2, thn_neg p3]; rfl
  have q3 : ¬ (((szSl szStr x.fNames (szSl szRange x.fRanges left)) - (x.fPattern.length : Int)) < 0) := by simpa using h
  have p3 : ¬ ((szStr x.fPattern (szSl szStr x.fNames (szSl szRange x.fRanges left))) < 0) := q3
  clear h
  refine AW.skip ?_
  refine AW.sreg [] fun K hK => ?_
  simp only [go_sem, Nat.reduceBEq, Nat.reduceAdd]
  rw [wrap_i64 (by omega) (by omega)]
  refine hK _ _ (OpsW.nil ?_)
  refine AW.seq (AW.sreg [] fun K hK => ?_)
  simp only [go_sem, Nat.reduceBEq, Nat.reduceAdd]
  refine hK _ _ (OpsW.nil ?_)
  refine AW.cond rfl (fun h => ?_) (fun h => ?_)
  · have q4 : (((szSl szStr x.fNames (szSl szRange x.fRanges left)) - (x.fPattern.length : Int)) - (x.fPath.length : Int)) < 0 := by simpa using h
    refine AW.sreg [] fun K hK => ?_
    simp only [go_sem, Nat.reduceBEq, Nat.reduceAdd]
    refine hK _ _ (OpsW.nil (AW.ret (Ends.one' rfl ?_)))
    have p4 : (szStr x.fPath (szStr x.fPattern (szSl szStr x.fNames (szSl szRange x.fRanges left)))) < 0 := q4
    rw [szType, thn_pos p1, thn_pos p2, thn_pos p3, thn_neg p4]; rfl
  have q4 : ¬ ((((szSl szStr x.fNames (szSl szRange x.fRanges left)) - (x.fPattern.length : Int)) - (x.fPath.length : Int)) < 0) := by simpa using h
  have p4 : ¬ ((szStr x.fPath (szStr x.fPattern (szSl szStr x.fNames (szSl szRange x.fRanges left)))) < 0) := q4
  clear h
  refine AW.skip ?_
  refine AW.sreg [] fun K hK => ?_
  simp only [go_sem, Nat.reduceBEq, Nat.reduceAdd]
  refine hK _ _ (OpsW.nil (AW.ret (Ends.one' rfl ?_)))
  rw [szType, thn_pos p1, thn_pos p2, thn_pos p3, thn_pos p4]; rfl

theorem szType_a {L : Nat → Nat} (hL : ∀ z, L z ≤ 4611686018427387904) (x : Dt.GType) (r : Int) (r0 : 0 ≤ r) (r1 : r ≤ 1048576) : PureC L Try.prog 152 [encType false x, .v (.int .i64 r)] (.v (.int .i64 (szType x r))) := szType_c x (szRangeS_a hL x.fRanges) (szstringS_a hL x.fNames) r r0 r1
theorem toType_c {L : Nat → Nat} (x : Dt.GType) (h1 : PureC L Try.prog 167 [.sl false 2 (x.fRanges.map (encRange false))] (.sl true 2 (x.fRanges.map (encRange true)))) (h2 : PureC L Try.prog 149 [.sl false 1 (x.fNames.map AV.str)] (.sl true 1 (x.fNames.map AV.str))) : PureC L Try.prog 154 [encType false x] (encType true x) := by
  refine PureC.of_body Try.func154 rfl rfl ?_
  rw [Try.ntmps154]
  refine AW.sreg [] fun K hK => ?_
  simp only [go_sem, Nat.reduceBEq, Nat.reduceAdd]
  refine hK _ _ (OpsW.alloc rfl rfl rfl rfl zer_140 fun K hK b2 hb2 => ?_)
  simp only [go_sem, Nat.reduceBEq, Nat.reduceAdd]
  refine hK _ _ (OpsW.nil ?_)
  refine AW.sreg [] fun K hK => ?_
  simp only [go_sem, Nat.reduceBEq, Nat.reduceAdd]
  refine hK _ _ (OpsW.alloc rfl rfl rfl rfl zer_140 fun K hK b3 hb3 => ?_)
  have hne : b2 ≠ b3 := hb3 b2 _ (by simp only [O, if_true]; rfl)
  have hne' : b3 ≠ b2 := fun e => hne e.symm
  simp only [go_sem, Nat.reduceBEq, Nat.reduceAdd]
  refine hK _ _ (OpsW.nil ?_)
  refine AW.sreg [] fun K hK => ?_
  simp only [go_sem, Nat.reduceBEq, Nat.reduceAdd, hne, hne']
  refine hK _ _ (OpsW.store rfl rfl rfl rfl rfl (by simp only [O, if_true]; rfl) ty_3 rfl (by rfl) (by rfl) (by simp) fun K hK => ?_)
  simp only [go_sem, Nat.reduceBEq, Nat.reduceAdd]
  refine hK _ _ (OpsW.nil ?_)
  refine AW.sreg [] fun K hK => ?_
  simp only [go_sem, Nat.reduceBEq, Nat.reduceAdd, hne, hne']
  refine ⟨_, CallOK.pure en167 rfl h1, ?_⟩
  try simp only [go_sem, Nat.reduceBEq, Nat.reduceAdd, hne, hne']
  refine hK _ _ (OpsW.store rfl rfl rfl rfl rfl (by simp only [O, if_true]; rfl) ty_138 rfl (by rfl) (by rfl) (by simp) fun K hK => ?_)
  simp only [go_sem, Nat.reduceBEq, Nat.reduceAdd]
  refine hK _ _ (OpsW.nil ?_)
  refine AW.sreg [] fun K hK => ?_
  simp only [go_sem, Nat.reduceBEq, Nat.reduceAdd, hne, hne']
  refine ⟨_, CallOK.pure en149 rfl h2, ?_⟩
  try simp only [go_sem, Nat.reduceBEq, Nat.reduceAdd, hne, hne']
  refine hK _ _ (OpsW.store rfl rfl rfl rfl rfl (by simp only [O, if_true]; rfl) ty_22 rfl (by rfl) (by rfl) (by simp) fun K hK => ?_)
  simp only [go_sem, Nat.reduceBEq, Nat.reduceAdd]
  refine hK _ _ (OpsW.nil ?_)
  refine AW.sreg [] fun K hK => ?_
  simp only [go_sem, Nat.reduceBEq, Nat.reduceAdd, hne, hne']
  refine hK _ _ (OpsW.store rfl rfl rfl rfl rfl (by simp only [O, if_true]; rfl) ty_9 rfl (by rfl) (by rfl) (by simp) fun K hK => ?_)
  simp only [go_sem, Nat.reduceBEq, Nat.reduceAdd]
  refine hK _ _ (OpsW.nil ?_)
  refine AW.sreg [] fun K hK => ?_
  simp only [go_sem, Nat.reduceBEq, Nat.reduceAdd, hne, hne']
  refine hK _ _ (OpsW.store rfl rfl rfl rfl rfl (by simp only [O, if_true]; rfl) ty_9 rfl (by rfl) (by rfl) (by simp) fun K hK => ?_)
  simp only [go_sem, Nat.reduceBEq, Nat.reduceAdd]
  refine hK _ _ (OpsW.nil ?_)
  refine AW.sreg [21] fun K hK => ?_
  simp only [go_sem, Nat.reduceBEq, Nat.reduceAdd]
  refine hK _ _ (OpsW.take rfl rfl rfl rfl rfl (by simp only [O, if_true]; rfl) ty_140 rfl fun K hK => ?_)
  simp only [go_sem, Nat.reduceBEq, Nat.reduceAdd]
  refine hK _ _ (OpsW.store rfl rfl rfl rfl rfl (by simp only [O, hne', if_false, if_true]; rfl) ty_140 rfl (by rfl) (by rfl) (by simp) fun K hK => ?_)
  simp only [go_sem, Nat.reduceBEq, Nat.reduceAdd]
  refine hK _ _ (OpsW.nil (AW.ret ?_))
  simp only [go_sem]
  exact Ends.res rfl (ResOK.cell rfl (by simp only [O, if_true]; rfl) ty_140 rfl)

theorem toType_a (x : Dt.GType) : PureC lim Try.prog 154 [encType false x] (encType true x) := toType_c x (toRangeS_a x.fRanges) (tostringS_a x.fNames)
theorem toType_v (x : Dt.GType) : PureC lim Try.prog 154 [encType false x] (encType false x) := by
  have := (toType_a x).frz
  rwa [encType_frz] at this
theorem eqTestS_c {L : Nat → Nat} (hL : ∀ z, L z ≤ 4611686018427387904) (l : List Dt.GTest) (hx : ∀ x, x ∈ l → PureC L Try.prog 207 [encTest false x, encTest false x] (.v (.bool true))) : PureC L Try.prog 204 [.sl false 2 (l.map (encTest false)), .sl false 2 (l.map (encTest false))] (.v (.bool true)) := by
  refine PureC.of_body Try.func204 rfl rfl ?_
  rw [Try.ntmps204]
  refine AW.len 0 rfl fun hlen => ?_
  have hlen' := Nat.le_trans hlen (hL 2)
  rw [List.length_map] at hlen'
  clear hlen
  refine AW.sreg [] fun K hK => ?_
  simp only [go_sem, Nat.reduceBEq, Nat.reduceAdd]
  refine hK _ _ (OpsW.nil ?_)
  refine AW.seq (AW.sreg [] fun K hK => ?_)
  simp only [go_sem, Nat.reduceBEq, Nat.reduceAdd]
  refine hK _ _ (OpsW.nil ?_)
  refine AW.cond rfl (fun h => absurd h (by simp)) (fun _ => AW.skip ?_)
  refine AW.seq (AW.sreg [] fun K hK => ?_)
  simp only [go_sem, Nat.reduceBEq, Nat.reduceAdd]
  refine hK _ _ (OpsW.nil ?_)
  refine AW.block (AW.loopK [0, 1, 5] (fun m t => ∃ k : Nat, t = [(0, .sl false 2 (l.map (encTest false))), (1, .sl false 2 (l.map (encTest false))), (5, .v (.int .i64 k))] ∧ m = l.length - k ∧ k ≤ l.length) l.length ⟨0, rfl, by simp, by simp⟩ ?_)
  rintro m t ⟨k, rfl, rfl, hk⟩
  refine AW.seq (AW.sreg [] fun K hK => ?_)
  simp only [go_sem, Nat.reduceBEq, Nat.reduceAdd]
  refine hK _ _ (OpsW.nil ?_)
  refine AW.cond rfl (fun h => ?_) (fun h => ?_)
  · have hlt : k < l.length := by simpa using h
    clear h
    refine AW.skip (AW.seq (AW.block (AW.sdrw [] fun K hK => ?_)))
    simp only [go_sem, Nat.reduceBEq, Nat.reduceAdd, hlt]
    refine ⟨_, CallOK.pure en207 rfl (by have := hx l[k] (List.getElem_mem hlt); simpa only [go_sem] using this), ?_⟩
    simp only [go_sem, Nat.reduceBEq, Nat.reduceAdd]
    refine hK _ _ ?_ ?_
    · kernel_rfl
    refine OpsW.nil ?_
    refine AW.cond rfl (fun h => absurd h (by simp)) (fun _ => ?_)
    refine AW.skip (AW.reg [] fun K hK => ?_)
    simp only [go_sem, Nat.reduceBEq, Nat.reduceAdd]
    refine hK _ _ (OpsW.nil ⟨rfl, l.length - (k + 1), by omega, k + 1, ?_, rfl, hlt⟩)
    simp only [go_sem, Nat.reduceBEq, Nat.reduceAdd]
    rw [wrap_i64 (by omega) (by omega)]; rfl
  · refine AW.exit ?_
    simp only [blockQ, thenQ, if_true]
    refine AW.sreg [] fun K hK => ?_
    simp only [go_sem, Nat.reduceBEq, Nat.reduceAdd]
    exact hK _ _ (OpsW.nil (AW.ret (Ends.one' rfl rfl)))

theorem eqTest_c {L : Nat → Nat} (x : Dt.GTest) : PureC L Try.prog 207 [encTest false x, encTest false x] (.v (.bool true)) := by
  refine PureC.of_body Try.func207 rfl rfl ?_
  rw [Try.ntmps207]
  refine AW.sreg [] fun K hK => ?_
  simp only [go_sem, Nat.reduceBEq, Nat.reduceAdd]
  refine hK _ _ (OpsW.nil ?_)
  refine AW.seq (AW.sreg [] fun K hK => ?_)
  simp only [go_sem, Nat.reduceBEq, Nat.reduceAdd]
  refine hK _ _ (OpsW.nil ?_)
  refine AW.cond rfl (fun h => absurd h (by simp)) (fun _ => AW.skip ?_)
  refine AW.seq (AW.sreg [] fun K hK => ?_)
  simp only [go_sem, Nat.reduceBEq, Nat.reduceAdd]
  refine hK _ _ (OpsW.nil ?_)
  refine AW.cond rfl (fun h => absurd h (by simp)) (fun _ => AW.skip ?_)
  refine AW.sreg [] fun K hK => ?_
  simp only [go_sem, Nat.reduceBEq, Nat.reduceAdd]
  exact hK _ _ (OpsW.nil (AW.ret (Ends.one' rfl rfl)))

theorem eqTest_a {L : Nat → Nat} (hL : ∀ z, L z ≤ 4611686018427387904) (x : Dt.GTest) : PureC L Try.prog 207 [encTest false x, encTest false x] (.v (.bool true)) := eqTest_c x 
theorem eqTestS_a {L : Nat → Nat} (hL : ∀ z, L z ≤ 4611686018427387904) (l : List Dt.GTest) : PureC L Try.prog 204 [.sl false 2 (l.map (encTest false)), .sl false 2 (l.map (encTest false))] (.v (.bool true)) := eqTestS_c hL l fun x _ => eqTest_a hL x
theorem szTestS_c {L : Nat → Nat} (hL : ∀ z, L z ≤ 4611686018427387904) (l : List Dt.GTest) (hx : ∀ x, x ∈ l → ∀ r : Int, 0 ≤ r → r ≤ 1048576 → PureC L Try.prog 205 [encTest false x, .v (.int .i64 r)] (.v (.int .i64 (szTest x r))))
    (left : Int) (h0 : 0 ≤ left) (h1 : left ≤ 1048576) : PureC L Try.prog 202 [.sl false 2 (l.map (encTest false)), .v (.int .i64 left)] (.v (.int .i64 (szSl szTest l left))) := by
  refine PureC.of_body Try.func202 rfl rfl ?_
  rw [Try.ntmps202]
  refine AW.len 0 rfl fun hlen => ?_
  have hlen' := Nat.le_trans hlen (hL 2)
  rw [List.length_map] at hlen'
  clear hlen
  refine AW.sreg [] fun K hK => ?_
  simp only [go_sem, Nat.reduceBEq, Nat.reduceAdd]
  refine hK _ _ (OpsW.nil ?_)
  refine AW.sreg [] fun K hK => ?_
  simp only [go_sem, Nat.reduceBEq, Nat.reduceAdd]
  rw [wrap_i64 (by omega) (by omega)]
  refine hK _ _ (OpsW.nil ?_)
  refine AW.seq (AW.sreg [] fun K hK => ?_)
  simp only [go_sem, Nat.reduceBEq, Nat.reduceAdd]
  refine hK _ _ (OpsW.nil ?_)
  refine AW.cond rfl (fun h => ?_) (fun h => ?_)
  · have h2 : left - (l.length : Int) < 0 := by simpa using h
    refine AW.sreg [] fun K hK => ?_
    simp only [go_sem, Nat.reduceBEq, Nat.reduceAdd]
    refine hK _ _ (OpsW.nil (AW.ret (Ends.one' rfl ?_)))
    rw [szSl, thn, if_pos h2]; rfl
  have h2 : ¬ (left - (l.length : Int) < 0) := by simpa using h
  clear h
  refine AW.skip (AW.seq (AW.sreg [] fun K hK => ?_))
  simp only [go_sem, Nat.reduceBEq, Nat.reduceAdd]
  refine hK _ _ (OpsW.nil ?_)
  refine AW.block (AW.loopK [0, 1, 5] (fun m t => ∃ (k : Nat) (r : Int), t = [(0, .sl false 2 (l.map (encTest false))), (1, .v (.int .i64 r)), (5, .v (.int .i64 k))] ∧ m = l.length - k ∧ k ≤ l.length ∧ r = szGo szTest (l.take k) (left - l.length) ∧ 0 ≤ r ∧ r ≤ 1048576) l.length ⟨0, _, rfl, by simp, by simp, by simp [szGo], by omega, by omega⟩ ?_)
  rintro m t ⟨k, r, rfl, rfl, hk, hr, hr0, hr1⟩
  refine AW.seq (AW.sreg [] fun K hK => ?_)
  simp only [go_sem, Nat.reduceBEq, Nat.reduceAdd]
  refine hK _ _ (OpsW.nil ?_)
  refine AW.cond rfl (fun h => ?_) (fun h => ?_)
  · have hlt : k < l.length := by simpa using h
    clear h
    have hsn : szGo szTest (l.take (k + 1)) (left - l.length) = thn (szTest l[k] r) id := by
      rw [List.take_succ_eq_append_getElem hlt, szGo_snoc _ _ _ _ (by rw [← hr]; exact hr0), ← hr]
    have hle := szTest_le l[k] r hr0
    refine AW.skip (AW.seq (AW.block (AW.sreg [] fun K hK => ?_)))
    simp only [go_sem, Nat.reduceBEq, Nat.reduceAdd, hlt]
    refine ⟨_, CallOK.pure en205 rfl (by have := hx l[k] (List.getElem_mem hlt) r hr0 hr1; simpa only [go_sem] using this), ?_⟩
    simp only [go_sem, Nat.reduceBEq, Nat.reduceAdd]
    refine hK _ _ (OpsW.nil ?_)
    refine AW.sreg [] fun K hK => ?_
    simp only [go_sem, Nat.reduceBEq, Nat.reduceAdd]
    refine hK _ _ (OpsW.nil ?_)
    refine AW.cond rfl (fun h => ?_) (fun h => ?_)
    · have h3 : szTest l[k] r < 0 := by simpa using h
      refine AW.sreg [] fun K hK => ?_
      simp only [go_sem, Nat.reduceBEq, Nat.reduceAdd]
      refine hK _ _ (OpsW.nil (AW.ret (Ends.one' rfl ?_)))
      rw [thn, if_pos h3] at hsn
      have := szGo_neg szTest (l.take (k + 1)) (l.drop (k + 1)) _ hsn (List.ne_nil_of_length_pos (by rw [List.length_take]; omega))
      rw [List.take_append_drop] at this
      rw [szSl, thn, if_neg h2, this]; rfl
    · have h3 : ¬ (szTest l[k] r < 0) := by simpa using h
      clear h
      rw [thn, if_neg h3] at hsn
      refine AW.skip (AW.reg [] fun K hK => ?_)
      simp only [go_sem, Nat.reduceBEq, Nat.reduceAdd]
      refine hK _ _ (OpsW.nil ⟨rfl, l.length - (k + 1), by omega, k + 1, _, ?_, rfl, hlt, hsn.symm, by simp only [id]; omega, by simp only [id]; omega⟩)
      simp only [go_sem, Nat.reduceBEq, Nat.reduceAdd]
      rw [wrap_i64 (by omega) (by omega)]; rfl
  · have hge : k = l.length := by have := h; simp at this; omega
    subst hge
    refine AW.exit ?_
    simp only [blockQ, thenQ, if_true]
    refine AW.sreg [] fun K hK => ?_
    simp only [go_sem, Nat.reduceBEq, Nat.reduceAdd]
    refine hK _ _ (OpsW.nil (AW.ret (Ends.one' rfl ?_)))
    rw [List.take_of_length_le (Nat.le_refl _)] at hr
    rw [szSl, thn, if_neg h2, ← hr]; rfl

theorem szTest_c {L : Nat → Nat} (x : Dt.GTest) (left : Int) (g0 : 0 ≤ left) (g1 : left ≤ 1048576) : PureC L Try.prog 205 [encTest false x, .v (.int .i64 left)] (.v (.int .i64 (szTest x left))) := by
  refine PureC.of_body Try.func205 rfl rfl ?_
  rw [Try.ntmps205]
  simp only [go_sem]
  refine AW.aggStr 0 rfl (s := x.fName) (by simp) fun b0 => ?_
  refine AW.aggStr 0 rfl (s := x.fValue) (by simp) fun b1 => ?_
  refine AW.sreg [] fun K hK => ?_
  simp only [go_sem, Nat.reduceBEq, Nat.reduceAdd]
  refine hK _ _ (OpsW.nil ?_)
  refine AW.sreg [] fun K hK => ?_
  simp only [go_sem, Nat.reduceBEq, Nat.reduceAdd]
  rw [wrap_i64 (by omega) (by omega)]
  refine hK _ _ (OpsW.nil ?_)
  refine AW.seq (AW.sreg [] fun K hK => ?_)
  simp only [go_sem, Nat.reduceBEq, Nat.reduceAdd]
  refine hK _ _ (OpsW.nil ?_)
  refine AW.cond rfl (fun h => ?_) (fun h => ?_)
  · have q0 : (left - (x.fName.length : Int)) < 0 := by simpa using h
    refine AW.sreg [] fun K hK => ?_
    simp only [go_sem, Nat.reduceBEq, Nat.reduceAdd]
    refine hK _ _ (OpsW.nil (AW.ret (Ends.one' rfl ?_)))
    have p0 : (szStr x.fName left) < 0 := q0
    rw [szTest, thn_neg p0]; rfl
  have q0 : ¬ ((left - (x.fName.length : Int)) < 0) := by simpa using h
  have p0 : ¬ ((szStr x.fName left) < 0) := q0
  clear h
  refine AW.skip ?_
  refine AW.sreg [] fun K hK => ?_
  simp only [go_sem, Nat.reduceBEq, Nat.reduceAdd]
  rw [wrap_i64 (by omega) (by omega)]
  refine hK _ _ (OpsW.nil ?_)
  refine AW.seq (AW.sreg [] fun K hK => ?_)
  simp only [go_sem, Nat.reduceBEq, Nat.reduceAdd]
  refine hK _ _ (OpsW.nil ?_)
  refine AW.cond rfl (fun h => ?_) (fun h => ?_)
  · have q1 : ((left - (x.fName.length : Int)) - (x.fValue.length : Int)) < 0 := by simpa using h
    refine AW.sreg [] fun K hK => ?_
    simp only [go_sem, Nat.reduceBEq, Nat.reduceAdd]
    refine hK _ _ (OpsW.nil (AW.ret (Ends.one' rfl ?_)))
    have p1 : (szStr x.fValue (szStr x.fName left)) < 0 := q1
    rw [szTest, thn_pos p0, thn_neg p1]; rfl
  have q1 : ¬ (((left - (x.fName.length : Int)) - (x.fValue.length : Int)) < 0) := by simpa using h
  have p1 : ¬ ((szStr x.fValue (szStr x.fName left)) < 0) := q1
  clear h
  refine AW.skip ?_
  refine AW.sreg [] fun K hK => ?_
  simp only [go_sem, Nat.reduceBEq, Nat.reduceAdd]
  refine hK _ _ (OpsW.nil (AW.ret (Ends.one' rfl ?_)))
  rw [szTest, thn_pos p0, thn_pos p1]; rfl

theorem szTest_a {L : Nat → Nat} (hL : ∀ z, L z ≤ 4611686018427387904) (x : Dt.GTest) (r : Int) (r0 : 0 ≤ r) (r1 : r ≤ 1048576) : PureC L Try.prog 205 [encTest false x, .v (.int .i64 r)] (.v (.int .i64 (szTest x r))) := szTest_c x  r r0 r1
theorem szTestS_a {L : Nat → Nat} (hL : ∀ z, L z ≤ 4611686018427387904) (l : List Dt.GTest) (left : Int) (h0 : 0 ≤ left) (h1 : left ≤ 1048576) : PureC L Try.prog 202 [.sl false 2 (l.map (encTest false)), .v (.int .i64 left)] (.v (.int .i64 (szSl szTest l left))) := szTestS_c hL l (fun x _ => szTest_a hL x) left h0 h1
theorem toTestS_c (l : List Dt.GTest) (hx : ∀ x, x ∈ l → PureC lim Try.prog 206 [encTest false x] (encTest true x)) : PureC lim Try.prog 203 [.sl false 2 (l.map (encTest false))] (.sl true 2 (l.map (encTest true))) := by
  refine PureC.of_body Try.func203 rfl rfl ?_
  rw [Try.ntmps203]
  refine AW.len 0 rfl fun hlen => ?_
  rw [List.length_map] at hlen
  have hl : l.length ≤ 2147483648 := hlen
  refine AW.sreg [] fun K hK => ?_
  simp only [go_sem, Nat.reduceBEq, Nat.reduceAdd]
  refine hK _ _ (OpsW.nil ?_)
  refine AW.sreg [] fun K hK => ?_
  simp only [go_sem, Nat.reduceBEq, Nat.reduceAdd]
  refine hK _ _ (OpsW.mk rfl rfl rfl rfl elm_280 zer_290 rfl rfl rfl hlen (by omega) (fun K hK b hb => ?_) (by omega))
  simp only [go_sem, Nat.reduceBEq, Nat.reduceAdd]
  refine hK _ _ (OpsW.go [] fun K hK => ?_)
  simp only [go_sem, Nat.reduceBEq, Nat.reduceAdd]
  refine hK _ _ (OpsW.nil ?_)
  refine AW.seq (AW.sreg [] fun K hK => ?_)
  simp only [go_sem, Nat.reduceBEq, Nat.reduceAdd]
  refine hK _ _ (OpsW.nil ?_)
  refine AW.block (AW.loopO [0, 3, 4] (fun m t o => ∃ k b : Nat, t = [(0, .sl false 2 (l.map (encTest false))), (3, .arr b 0 l.length 2), (4, .v (.int .i64 k))] ∧ o = [(b, some (mkC (encTest true) [.string ⟨([] : List UInt8).toArray⟩, .string ⟨([] : List UInt8).toArray⟩] l k))] ∧ m = l.length - k ∧ k ≤ l.length) l.length [(b, some (mkC (encTest true) [.string ⟨([] : List UInt8).toArray⟩, .string ⟨([] : List UInt8).toArray⟩] l 0))] (by rw [mkC_zero]; exact fun _ _ h => h) ⟨0, b, rfl, rfl, by simp, by simp⟩ ?_)
  rintro m t o ⟨k, b, rfl, rfl, rfl, hk⟩
  have hC := mkC_len (encTest true) [.string ⟨([] : List UInt8).toArray⟩, .string ⟨([] : List UInt8).toArray⟩] 2 (fun x => by first | rfl | simp only [go_sem]) rfl l k hk
  refine AW.seq (AW.sreg [] fun K hK => ?_)
  simp only [go_sem, Nat.reduceBEq, Nat.reduceAdd]
  refine hK _ _ (OpsW.nil ?_)
  refine AW.cond rfl (fun h => ?_) (fun h => ?_)
  · have hlt : k < l.length := by simpa using h
    clear h
    have hst := mkC_step (encTest true) [.string ⟨([] : List UInt8).toArray⟩, .string ⟨([] : List UInt8).toArray⟩] 2 (fun x => by first | rfl | simp only [go_sem]) rfl l k hlt
    refine AW.skip (AW.seq (AW.block (AW.reg [] fun K hK => ?_)))
    simp only [go_sem, Nat.reduceBEq, Nat.reduceAdd, hlt]
    refine ⟨_, CallOK.pure en206 rfl (by have := hx l[k] (List.getElem_mem hlt); simpa only [go_sem] using this), ?_⟩
    try simp only [go_sem, Nat.reduceBEq, Nat.reduceAdd, hlt]
    refine hK _ _ ?_
    refine OpsW.store rfl rfl rfl rfl rfl (by simp only [O, if_true]; rfl) ty_290 rfl (by rfl) (by rfl) (by rw [hC]; omega) fun K hK => ?_
    simp only [go_sem, Nat.reduceBEq, Nat.reduceAdd]
    refine hK _ _ (OpsW.nil ?_)
    simp only [blockQ, thenQ]
    refine AW.reg [] fun K hK => ?_
    simp only [go_sem, Nat.reduceBEq, Nat.reduceAdd]
    refine hK _ _ (OpsW.nil ⟨rfl, l.length - (k + 1), [(b, some (mkC (encTest true) [.string ⟨([] : List UInt8).toArray⟩, .string ⟨([] : List UInt8).toArray⟩] l (k + 1)))], by omega, ⟨k + 1, b, ?_, rfl, rfl, hlt⟩, ?_⟩)
    · simp only [go_sem, Nat.reduceBEq, Nat.reduceAdd]
      rw [wrap_i64 (by omega) (by omega)]; rfl
    · intro q cs hq
      simp only [O] at hq ⊢
      split at hq
      · rename_i e; rw [if_pos e, ← hq, ← hst]; first | rfl | (simp only [go_sem]; done) | simp only [go_sem, hlt]
      · cases hq
  · have hge : k = l.length := by have := h; simp at this; omega
    subst hge
    refine AW.exit ?_
    simp only [blockQ, thenQ, if_true]
    refine AW.sreg [] fun K hK => ?_
    simp only [go_sem, Nat.reduceBEq, Nat.reduceAdd]
    refine hK _ _ (OpsW.nil (AW.ret ?_))
    refine Ends.res rfl (ResOK.pack rfl (by simp only [O, if_true]; rfl) (by simp) ?_ ?_)
    · rw [mkC_end, List.drop_zero, List.take_of_length_le (by rw [mkC_end] at hC; omega)]
    · intro z hz
      obtain ⟨y, _, rfl⟩ := List.mem_map.1 hz
      first | rfl | simp only [go_sem]

theorem toTest_c {L : Nat → Nat} (x : Dt.GTest) : PureC L Try.prog 206 [encTest false x] (encTest true x) := by
  refine PureC.of_body Try.func206 rfl rfl ?_
  rw [Try.ntmps206]
  refine AW.sreg [] fun K hK => ?_
  simp only [go_sem, Nat.reduceBEq, Nat.reduceAdd]
  refine hK _ _ (OpsW.alloc rfl rfl rfl rfl zer_290 fun K hK b2 hb2 => ?_)
  simp only [go_sem, Nat.reduceBEq, Nat.reduceAdd]
  refine hK _ _ (OpsW.nil ?_)
  refine AW.sreg [] fun K hK => ?_
  simp only [go_sem, Nat.reduceBEq, Nat.reduceAdd]
  refine hK _ _ (OpsW.alloc rfl rfl rfl rfl zer_290 fun K hK b3 hb3 => ?_)
  have hne : b2 ≠ b3 := hb3 b2 _ (by simp only [O, if_true]; rfl)
  have hne' : b3 ≠ b2 := fun e => hne e.symm
  simp only [go_sem, Nat.reduceBEq, Nat.reduceAdd]
  refine hK _ _ (OpsW.nil ?_)
  refine AW.sreg [] fun K hK => ?_
  simp only [go_sem, Nat.reduceBEq, Nat.reduceAdd, hne, hne']
  refine hK _ _ (OpsW.store rfl rfl rfl rfl rfl (by simp only [O, if_true]; rfl) ty_9 rfl (by rfl) (by rfl) (by simp) fun K hK => ?_)
  simp only [go_sem, Nat.reduceBEq, Nat.reduceAdd]
  refine hK _ _ (OpsW.nil ?_)
  refine AW.sreg [] fun K hK => ?_
  simp only [go_sem, Nat.reduceBEq, Nat.reduceAdd, hne, hne']
  refine hK _ _ (OpsW.store rfl rfl rfl rfl rfl (by simp only [O, if_true]; rfl) ty_9 rfl (by rfl) (by rfl) (by simp) fun K hK => ?_)
  simp only [go_sem, Nat.reduceBEq, Nat.reduceAdd]
  refine hK _ _ (OpsW.nil ?_)
  refine AW.sreg [10] fun K hK => ?_
  simp only [go_sem, Nat.reduceBEq, Nat.reduceAdd]
  refine hK _ _ (OpsW.take rfl rfl rfl rfl rfl (by simp only [O, if_true]; rfl) ty_290 rfl fun K hK => ?_)
  simp only [go_sem, Nat.reduceBEq, Nat.reduceAdd]
  refine hK _ _ (OpsW.store rfl rfl rfl rfl rfl (by simp only [O, hne', if_false, if_true]; rfl) ty_290 rfl (by rfl) (by rfl) (by simp) fun K hK => ?_)
  simp only [go_sem, Nat.reduceBEq, Nat.reduceAdd]
  refine hK _ _ (OpsW.nil (AW.ret ?_))
  simp only [go_sem]
  exact Ends.res rfl (ResOK.cell rfl (by simp only [O, if_true]; rfl) ty_290 rfl)

theorem toTest_a (x : Dt.GTest) : PureC lim Try.prog 206 [encTest false x] (encTest true x) := toTest_c x 
theorem toTest_v (x : Dt.GTest) : PureC lim Try.prog 206 [encTest false x] (encTest false x) := by
  have := (toTest_a x).frz
  rwa [encTest_frz] at this
theorem toTestS_a (l : List Dt.GTest) : PureC lim Try.prog 203 [.sl false 2 (l.map (encTest false))] (.sl true 2 (l.map (encTest true))) := toTestS_c l fun x _ => toTest_a x
theorem toTestS_v (l : List Dt.GTest) : PureC lim Try.prog 203 [.sl false 2 (l.map (encTest false))] (.sl false 2 (l.map (encTest false))) := by
  have := (toTestS_a l).frz
  rwa [show (AV.sl true 2 (l.map (encTest true))).frz = AV.sl false 2 (l.map (encTest false)) by simp only [AV.frz, cond_true, encTestM_frz]] at this
theorem eqStepS_c {L : Nat → Nat} (hL : ∀ z, L z ≤ 4611686018427387904) (l : List Dt.GStep) (hx : ∀ x, x ∈ l → PureC L Try.prog 200 [encStep false x, encStep false x] (.v (.bool true))) : PureC L Try.prog 194 [.sl false 2 (l.map (encStep false)), .sl false 2 (l.map (encStep false))] (.v (.bool true)) := by
  refine PureC.of_body Try.func194 rfl rfl ?_
  rw [Try.ntmps194]
  refine AW.len 0 rfl fun hlen => ?_
  have hlen' := Nat.le_trans hlen (hL 2)
  rw [List.length_map] at hlen'
  clear hlen
  refine AW.sreg [] fun K hK => ?_
  simp only [go_sem, Nat.reduceBEq, Nat.reduceAdd]
  refine hK _ _ (OpsW.nil ?_)
  refine AW.seq (AW.sreg [] fun K hK => ?_)
  simp only [go_sem, Nat.reduceBEq, Nat.reduceAdd]
  refine hK _ _ (OpsW.nil ?_)
  refine AW.cond rfl (fun h => absurd h (by simp)) (fun _ => AW.skip ?_)
  refine AW.seq (AW.sreg [] fun K hK => ?_)
  simp only [go_sem, Nat.reduceBEq, Nat.reduceAdd]
  refine hK _ _ (OpsW.nil ?_)
  refine AW.block (AW.loopK [0, 1, 5] (fun m t => ∃ k : Nat, t = [(0, .sl false 2 (l.map (encStep false))), (1, .sl false 2 (l.map (encStep false))), (5, .v (.int .i64 k))] ∧ m = l.length - k ∧ k ≤ l.length) l.length ⟨0, rfl, by simp, by simp⟩ ?_)
  rintro m t ⟨k, rfl, rfl, hk⟩
  refine AW.seq (AW.sreg [] fun K hK => ?_)
  simp only [go_sem, Nat.reduceBEq, Nat.reduceAdd]
  refine hK _ _ (OpsW.nil ?_)
  refine AW.cond rfl (fun h => ?_) (fun h => ?_)
  · have hlt : k < l.length := by simpa using h
    clear h
    refine AW.skip (AW.seq (AW.block (AW.sdrw [] fun K hK => ?_)))
    simp only [go_sem, Nat.reduceBEq, Nat.reduceAdd, hlt]
    refine ⟨_, CallOK.pure en200 rfl (by have := hx l[k] (List.getElem_mem hlt); simpa only [go_sem] using this), ?_⟩
    simp only [go_sem, Nat.reduceBEq, Nat.reduceAdd]
    refine hK _ _ ?_ ?_
    · kernel_rfl
    refine OpsW.nil ?_
    refine AW.cond rfl (fun h => absurd h (by simp)) (fun _ => ?_)
    refine AW.skip (AW.reg [] fun K hK => ?_)
    simp only [go_sem, Nat.reduceBEq, Nat.reduceAdd]
    refine hK _ _ (OpsW.nil ⟨rfl, l.length - (k + 1), by omega, k + 1, ?_, rfl, hlt⟩)
    simp only [go_sem, Nat.reduceBEq, Nat.reduceAdd]
    rw [wrap_i64 (by omega) (by omega)]; rfl
  · refine AW.exit ?_
    simp only [blockQ, thenQ, if_true]
    refine AW.sreg [] fun K hK => ?_
    simp only [go_sem, Nat.reduceBEq, Nat.reduceAdd]
    exact hK _ _ (OpsW.nil (AW.ret (Ends.one' rfl rfl)))

theorem eqStep_c {L : Nat → Nat} (x : Dt.GStep) (h1 : PureC L Try.prog 204 [.sl false 2 (x.fTests.map (encTest false)), .sl false 2 (x.fTests.map (encTest false))] (.v (.bool true))) : PureC L Try.prog 200 [encStep false x, encStep false x] (.v (.bool true)) := by
  refine PureC.of_body Try.func200 rfl rfl ?_
  rw [Try.ntmps200]
  refine AW.sreg [] fun K hK => ?_
  simp only [go_sem, Nat.reduceBEq, Nat.reduceAdd]
  refine hK _ _ (OpsW.nil ?_)
  refine AW.seq (AW.sreg [] fun K hK => ?_)
  simp only [go_sem, Nat.reduceBEq, Nat.reduceAdd]
  refine hK _ _ (OpsW.nil ?_)
  refine AW.cond rfl (fun h => absurd h (by simp)) (fun _ => AW.skip ?_)
  refine AW.seq (AW.sreg [] fun K hK => ?_)
  simp only [go_sem, Nat.reduceBEq, Nat.reduceAdd]
  refine ⟨_, CallOK.pure en204 rfl h1, ?_⟩
  simp only [go_sem, Nat.reduceBEq, Nat.reduceAdd]
  refine hK _ _ (OpsW.nil ?_)
  refine AW.cond rfl (fun h => absurd h (by simp)) (fun _ => AW.skip ?_)
  refine AW.sreg [] fun K hK => ?_
  simp only [go_sem, Nat.reduceBEq, Nat.reduceAdd]
  exact hK _ _ (OpsW.nil (AW.ret (Ends.one' rfl rfl)))

theorem eqStep_a {L : Nat → Nat} (hL : ∀ z, L z ≤ 4611686018427387904) (x : Dt.GStep) : PureC L Try.prog 200 [encStep false x, encStep false x] (.v (.bool true)) := eqStep_c x (eqTestS_a hL x.fTests)
theorem eqStepS_a {L : Nat → Nat} (hL : ∀ z, L z ≤ 4611686018427387904) (l : List Dt.GStep) : PureC L Try.prog 194 [.sl false 2 (l.map (encStep false)), .sl false 2 (l.map (encStep false))] (.v (.bool true)) := eqStepS_c hL l fun x _ => eqStep_a hL x
theorem szStepS_c {L : Nat → Nat} (hL : ∀ z, L z ≤ 4611686018427387904) (l : List Dt.GStep) (hx : ∀ x, x ∈ l → ∀ r : Int, 0 ≤ r → r ≤ 1048576 → PureC L Try.prog 198 [encStep false x, .v (.int .i64 r)] (.v (.int .i64 (szStep x r))))
    (left : Int) (h0 : 0 ≤ left) (h1 : left ≤ 1048576) : PureC L Try.prog 192 [.sl false 2 (l.map (encStep false)), .v (.int .i64 left)] (.v (.int .i64 (szSl szStep l left))) := by
  refine PureC.of_body Try.func192 rfl rfl ?_
  rw [Try.ntmps192]
  refine AW.len 0 rfl fun hlen => ?_
  have hlen' := Nat.le_trans hlen (hL 2)
  rw [List.length_map] at hlen'
  clear hlen
  refine AW.sreg [] fun K hK => ?_
  simp only [go_sem, Nat.reduceBEq, Nat.reduceAdd]
  refine hK _ _ (OpsW.nil ?_)
  refine AW.sreg [] fun K hK => ?_
  simp only [go_sem, Nat.reduceBEq, Nat.reduceAdd]
  rw [wrap_i64 (by omega) (by omega)]
  refine hK _ _ (OpsW.nil ?_)
  refine AW.seq (AW.sreg [] fun K hK => ?_)
  simp only [go_sem, Nat.reduceBEq, Nat.reduceAdd]
  refine hK _ _ (OpsW.nil ?_)
  refine AW.cond rfl (fun h => ?_) (fun h => ?_)
  · have h2 : left - (l.length : Int) < 0 := by simpa using h
    refine AW.sreg [] fun K hK => ?_
    simp only [go_sem, Nat.reduceBEq, Nat.reduceAdd]
    refine hK _ _ (OpsW.nil (AW.ret (Ends.one' rfl ?_)))
    rw [szSl, thn, if_pos h2]; rfl
  have h2 : ¬ (left - (l.length : Int) < 0) := by simpa using h
  clear h
  refine AW.skip (AW.seq (AW.sreg [] fun K hK => ?_))
  simp only [go_sem, Nat.reduceBEq, Nat.reduceAdd]
  refine hK _ _ (OpsW.nil ?_)
  refine AW.block (AW.loopK [0, 1, 5] (fun m t => ∃ (k : Nat) (r : Int), t = [(0, .sl false 2 (l.map (encStep false))), (1, .v (.int .i64 r)), (5, .v (.int .i64 k))] ∧ m = l.length - k ∧ k ≤ l.length ∧ r = szGo szStep (l.take k) (left - l.length) ∧ 0 ≤ r ∧ r ≤ 1048576) l.length ⟨0, _, rfl, by simp, by simp, by simp [szGo], by omega, by omega⟩ ?_)
  rintro m t ⟨k, r, rfl, rfl, hk, hr, hr0, hr1⟩
  refine AW.seq (AW.sreg [] fun K hK => ?_)
  simp only [go_sem, Nat.reduceBEq, Nat.reduceAdd]
  refine hK _ _ (OpsW.nil ?_)
  refine AW.cond rfl (fun h => ?_) (fun h => ?_)
  · have hlt : k < l.length := by simpa using h
    clear h
    have hsn : szGo szStep (l.take (k + 1)) (left - l.length) = thn (szStep l[k] r) id := by
      rw [List.take_succ_eq_append_getElem hlt, szGo_snoc _ _ _ _ (by rw [← hr]; exact hr0), ← hr]
    have hle := szStep_le l[k] r hr0
    refine AW.skip (AW.seq (AW.block (AW.sreg [] fun K hK => ?_)))
    simp only [go_sem, Nat.reduceBEq, Nat.reduceAdd, hlt]
    refine ⟨_, CallOK.pure en198 rfl (by have := hx l[k] (List.getElem_mem hlt) r hr0 hr1; simpa only [go_sem] using this), ?_⟩
    simp only [go_sem, Nat.reduceBEq, Nat.reduceAdd]
    refine hK _ _ (OpsW.nil ?_)
    refine AW.sreg [] fun K hK => ?_
    simp only [go_sem, Nat.reduceBEq, Nat.reduceAdd]
    refine hK _ _ (OpsW.nil ?_)
    refine AW.cond rfl (fun h => ?_) (fun h => ?_)
    · have h3 : szStep l[k] r < 0 := by simpa using h
      refine AW.sreg [] fun K hK => ?_
      simp only [go_sem, Nat.reduceBEq, Nat.reduceAdd]
      refine hK _ _ (OpsW.nil (AW.ret (Ends.one' rfl ?_)))
      rw [thn, if_pos h3] at hsn
      have := szGo_neg szStep (l.take (k + 1)) (l.drop (k + 1)) _ hsn (List.ne_nil_of_length_pos (by rw [List.length_take]; omega))
      rw [List.take_append_drop] at this
      rw [szSl, thn, if_neg h2, this]; rfl
    · have h3 : ¬ (szStep l[k] r < 0) := by simpa using h
      clear h
      rw [thn, if_neg h3] at hsn
      refine AW.skip (AW.reg [] fun K hK => ?_)
      simp only [go_sem, Nat.reduceBEq, Nat.reduceAdd]
      refine hK _ _ (OpsW.nil ⟨rfl, l.length - (k + 1), by omega, k + 1, _, ?_, rfl, hlt, hsn.symm, by simp only [id]; omega, by simp only [id]; omega⟩)
      simp only [go_sem, Nat.reduceBEq, Nat.reduceAdd]
      rw [wrap_i64 (by omega) (by omega)]; rfl
  · have hge : k = l.length := by have := h; simp at this; omega
    subst hge
    refine AW.exit ?_
    simp only [blockQ, thenQ, if_true]
    refine AW.sreg [] fun K hK => ?_
    simp only [go_sem, Nat.reduceBEq, Nat.reduceAdd]
    refine hK _ _ (OpsW.nil (AW.ret (Ends.one' rfl ?_)))
    rw [List.take_of_length_le (Nat.le_refl _)] at hr
    rw [szSl, thn, if_neg h2, ← hr]; rfl

theorem szStep_c {L : Nat → Nat} (x : Dt.GStep) (h1 : ∀ r : Int, 0 ≤ r → r ≤ 1048576 → PureC L Try.prog 202 [.sl false 2 (x.fTests.map (encTest false)), .v (.int .i64 r)] (.v (.int .i64 (szSl szTest x.fTests r)))) (left : Int) (g0 : 0 ≤ left) (g1 : left ≤ 1048576) : PureC L Try.prog 198 [encStep false x, .v (.int .i64 left)] (.v (.int .i64 (szStep x left))) := by
  refine PureC.of_body Try.func198 rfl rfl ?_
  rw [Try.ntmps198]
  simp only [go_sem]
  refine AW.aggStr 0 rfl (s := x.fName) (by simp) fun b0 => ?_
  refine AW.sreg [] fun K hK => ?_
  simp only [go_sem, Nat.reduceBEq, Nat.reduceAdd]
  refine hK _ _ (OpsW.nil ?_)
  refine AW.sreg [] fun K hK => ?_
  simp only [go_sem, Nat.reduceBEq, Nat.reduceAdd]
  rw [wrap_i64 (by omega) (by omega)]
  refine hK _ _ (OpsW.nil ?_)
  refine AW.seq (AW.sreg [] fun K hK => ?_)
  simp only [go_sem, Nat.reduceBEq, Nat.reduceAdd]
  refine hK _ _ (OpsW.nil ?_)
  refine AW.cond rfl (fun h => ?_) (fun h => ?_)
  · have q0 : (left - (x.fName.length : Int)) < 0 := by simpa using h
    refine AW.sreg [] fun K hK => ?_
    simp only [go_sem, Nat.reduceBEq, Nat.reduceAdd]
    refine hK _ _ (OpsW.nil (AW.ret (Ends.one' rfl ?_)))
    have p0 : (szStr x.fName left) < 0 := q0
    rw [szStep, thn_neg p0]; rfl
  have q0 : ¬ ((left - (x.fName.length : Int)) < 0) := by simpa using h
  have p0 : ¬ ((szStr x.fName left) < 0) := q0
  clear h
  refine AW.skip ?_
  refine AW.sreg [] fun K hK => ?_
  simp only [go_sem, Nat.reduceBEq, Nat.reduceAdd]
  refine ⟨_, CallOK.pure en202 rfl (h1 (left - (x.fName.length : Int)) (by omega) (by omega)), ?_⟩
  simp only [go_sem, Nat.reduceBEq, Nat.reduceAdd]
  have e1 := szSl_le szTest (fun y r hr => szTest_le y r hr) x.fTests (left - (x.fName.length : Int)) (by omega)
  refine hK _ _ (OpsW.nil ?_)
  refine AW.seq (AW.sreg [] fun K hK => ?_)
  simp only [go_sem, Nat.reduceBEq, Nat.reduceAdd]
  refine hK _ _ (OpsW.nil ?_)
  refine AW.cond rfl (fun h => ?_) (fun h => ?_)
  · have q1 : (szSl szTest x.fTests (left - (x.fName.length : Int))) < 0 := by simpa using h
    refine AW.sreg [] fun K hK => ?_
    simp only [go_sem, Nat.reduceBEq, Nat.reduceAdd]
    refine hK _ _ (OpsW.nil (AW.ret (Ends.one' rfl ?_)))
    have p1 : (szSl szTest x.fTests (szStr x.fName left)) < 0 := q1
    rw [szStep, thn_pos p0, thn_neg p1]; rfl
  have q1 : ¬ ((szSl szTest x.fTests (left - (x.fName.length : Int))) < 0) := by simpa using h
  have p1 : ¬ ((szSl szTest x.fTests (szStr x.fName left)) < 0) := q1
  clear h
  refine AW.skip ?_
  refine AW.sreg [] fun K hK => ?_
  simp only [go_sem, Nat.reduceBEq, Nat.reduceAdd]
  refine hK _ _ (OpsW.nil (AW.ret (Ends.one' rfl ?_)))
  rw [szStep, thn_pos p0, thn_pos p1]; rfl

theorem szStep_a {L : Nat → Nat} (hL : ∀ z, L z ≤ 4611686018427387904) (x : Dt.GStep) (r : Int) (r0 : 0 ≤ r) (r1 : r ≤ 1048576) : PureC L Try.prog 198 [encStep false x, .v (.int .i64 r)] (.v (.int .i64 (szStep x r))) := szStep_c x (szTestS_a hL x.fTests) r r0 r1
theorem szStepS_a {L : Nat → Nat} (hL : ∀ z, L z ≤ 4611686018427387904) (l : List Dt.GStep) (left : Int) (h0 : 0 ≤ left) (h1 : left ≤ 1048576) : PureC L Try.prog 192 [.sl false 2 (l.map (encStep false)), .v (.int .i64 left)] (.v (.int .i64 (szSl szStep l left))) := szStepS_c hL l (fun x _ => szStep_a hL x) left h0 h1
theorem toStepS_c (l : List Dt.GStep) (hx : ∀ x, x ∈ l → PureC lim Try.prog 199 [encStep false x] (encStep true x)) : PureC lim Try.prog 193 [.sl false 2 (l.map (encStep false))] (.sl true 2 (l.map (encStep true))) := by
  refine PureC.of_body Try.func193 rfl rfl ?_
  rw [Try.ntmps193]
  refine AW.len 0 rfl fun hlen => ?_
  rw [List.length_map] at hlen
  have hl : l.length ≤ 2147483648 := hlen
  refine AW.sreg [] fun K hK => ?_
  simp only [go_sem, Nat.reduceBEq, Nat.reduceAdd]
  refine hK _ _ (OpsW.nil ?_)
  refine AW.sreg [] fun K hK => ?_
  simp only [go_sem, Nat.reduceBEq, Nat.reduceAdd]
  refine hK _ _ (OpsW.mk rfl rfl rfl rfl elm_257 zer_282 rfl rfl rfl hlen (by omega) (fun K hK b hb => ?_) (by omega))
  simp only [go_sem, Nat.reduceBEq, Nat.reduceAdd]
  refine hK _ _ (OpsW.go [] fun K hK => ?_)
  simp only [go_sem, Nat.reduceBEq, Nat.reduceAdd]
  refine hK _ _ (OpsW.nil ?_)
  refine AW.seq (AW.sreg [] fun K hK => ?_)
  simp only [go_sem, Nat.reduceBEq, Nat.reduceAdd]
  refine hK _ _ (OpsW.nil ?_)
  refine AW.block (AW.loopO [0, 3, 4] (fun m t o => ∃ k b : Nat, t = [(0, .sl false 2 (l.map (encStep false))), (3, .arr b 0 l.length 2), (4, .v (.int .i64 k))] ∧ o = [(b, some (mkC (encStep true) [.string ⟨([] : List UInt8).toArray⟩, .slice none 0 0] l k))] ∧ m = l.length - k ∧ k ≤ l.length) l.length [(b, some (mkC (encStep true) [.string ⟨([] : List UInt8).toArray⟩, .slice none 0 0] l 0))] (by rw [mkC_zero]; exact fun _ _ h => h) ⟨0, b, rfl, rfl, by simp, by simp⟩ ?_)
  rintro m t o ⟨k, b, rfl, rfl, rfl, hk⟩
  have hC := mkC_len (encStep true) [.string ⟨([] : List UInt8).toArray⟩, .slice none 0 0] 2 (fun x => by first | rfl | simp only [go_sem]) rfl l k hk
  refine AW.seq (AW.sreg [] fun K hK => ?_)
  simp only [go_sem, Nat.reduceBEq, Nat.reduceAdd]
  refine hK _ _ (OpsW.nil ?_)
  refine AW.cond rfl (fun h => ?_) (fun h => ?_)
  · have hlt : k < l.length := by simpa using h
    clear h
    have hst := mkC_step (encStep true) [.string ⟨([] : List UInt8).toArray⟩, .slice none 0 0] 2 (fun x => by first | rfl | simp only [go_sem]) rfl l k hlt
    refine AW.skip (AW.seq (AW.block (AW.reg [] fun K hK => ?_)))
    simp only [go_sem, Nat.reduceBEq, Nat.reduceAdd, hlt]
    refine ⟨_, CallOK.pure en199 rfl (by have := hx l[k] (List.getElem_mem hlt); simpa only [go_sem] using this), ?_⟩
    try simp only [go_sem, Nat.reduceBEq, Nat.reduceAdd, hlt]
    refine hK _ _ ?_
    refine OpsW.store rfl rfl rfl rfl rfl (by simp only [O, if_true]; rfl) ty_282 rfl (by rfl) (by rfl) (by rw [hC]; omega) fun K hK => ?_
    simp only [go_sem, Nat.reduceBEq, Nat.reduceAdd]
    refine hK _ _ (OpsW.nil ?_)
    simp only [blockQ, thenQ]
    refine AW.reg [] fun K hK => ?_
    simp only [go_sem, Nat.reduceBEq, Nat.reduceAdd]
    refine hK _ _ (OpsW.nil ⟨rfl, l.length - (k + 1), [(b, some (mkC (encStep true) [.string ⟨([] : List UInt8).toArray⟩, .slice none 0 0] l (k + 1)))], by omega, ⟨k + 1, b, ?_, rfl, rfl, hlt⟩, ?_⟩)
    · simp only [go_sem, Nat.reduceBEq, Nat.reduceAdd]
      rw [wrap_i64 (by omega) (by omega)]; rfl
    · intro q cs hq
      simp only [O] at hq ⊢
      split at hq
      · rename_i e; rw [if_pos e, ← hq, ← hst]; first | rfl | (simp only [go_sem]; done) | simp only [go_sem, hlt]
      · cases hq
  · have hge : k = l.length := by have := h; simp at this; omega
    subst hge
    refine AW.exit ?_
    simp only [blockQ, thenQ, if_true]
    refine AW.sreg [] fun K hK => ?_
    simp only [go_sem, Nat.reduceBEq, Nat.reduceAdd]
    refine hK _ _ (OpsW.nil (AW.ret ?_))
    refine Ends.res rfl (ResOK.pack rfl (by simp only [O, if_true]; rfl) (by simp) ?_ ?_)
    · rw [mkC_end, List.drop_zero, List.take_of_length_le (by rw [mkC_end] at hC; omega)]
    · intro z hz
      obtain ⟨y, _, rfl⟩ := List.mem_map.1 hz
      first | rfl | simp only [go_sem]

theorem toStep_c {L : Nat → Nat} (x : Dt.GStep) (h1 : PureC L Try.prog 203 [.sl false 2 (x.fTests.map (encTest false))] (.sl true 2 (x.fTests.map (encTest true)))) : PureC L Try.prog 199 [encStep false x] (encStep true x) := by
  refine PureC.of_body Try.func199 rfl rfl ?_
  rw [Try.ntmps199]
  refine AW.sreg [] fun K hK => ?_
  simp only [go_sem, Nat.reduceBEq, Nat.reduceAdd]
  refine hK _ _ (OpsW.alloc rfl rfl rfl rfl zer_282 fun K hK b2 hb2 => ?_)
  simp only [go_sem, Nat.reduceBEq, Nat.reduceAdd]
  refine hK _ _ (OpsW.nil ?_)
  refine AW.sreg [] fun K hK => ?_
  simp only [go_sem, Nat.reduceBEq, Nat.reduceAdd]
  refine hK _ _ (OpsW.alloc rfl rfl rfl rfl zer_282 fun K hK b3 hb3 => ?_)
  have hne : b2 ≠ b3 := hb3 b2 _ (by simp only [O, if_true]; rfl)
  have hne' : b3 ≠ b2 := fun e => hne e.symm
  simp only [go_sem, Nat.reduceBEq, Nat.reduceAdd]
  refine hK _ _ (OpsW.nil ?_)
  refine AW.sreg [] fun K hK => ?_
  simp only [go_sem, Nat.reduceBEq, Nat.reduceAdd, hne, hne']
  refine hK _ _ (OpsW.store rfl rfl rfl rfl rfl (by simp only [O, if_true]; rfl) ty_9 rfl (by rfl) (by rfl) (by simp) fun K hK => ?_)
  simp only [go_sem, Nat.reduceBEq, Nat.reduceAdd]
  refine hK _ _ (OpsW.nil ?_)
  refine AW.sreg [] fun K hK => ?_
  simp only [go_sem, Nat.reduceBEq, Nat.reduceAdd, hne, hne']
  refine ⟨_, CallOK.pure en203 rfl h1, ?_⟩
  try simp only [go_sem, Nat.reduceBEq, Nat.reduceAdd, hne, hne']
  refine hK _ _ (OpsW.store rfl rfl rfl rfl rfl (by simp only [O, if_true]; rfl) ty_280 rfl (by rfl) (by rfl) (by simp) fun K hK => ?_)
  simp only [go_sem, Nat.reduceBEq, Nat.reduceAdd]
  refine hK _ _ (OpsW.nil ?_)
  refine AW.sreg [11] fun K hK => ?_
  simp only [go_sem, Nat.reduceBEq, Nat.reduceAdd]
  refine hK _ _ (OpsW.take rfl rfl rfl rfl rfl (by simp only [O, if_true]; rfl) ty_282 rfl fun K hK => ?_)
  simp only [go_sem, Nat.reduceBEq, Nat.reduceAdd]
  refine hK _ _ (OpsW.store rfl rfl rfl rfl rfl (by simp only [O, hne', if_false, if_true]; rfl) ty_282 rfl (by rfl) (by rfl) (by simp) fun K hK => ?_)
  simp only [go_sem, Nat.reduceBEq, Nat.reduceAdd]
  refine hK _ _ (OpsW.nil (AW.ret ?_))
  simp only [go_sem]
  exact Ends.res rfl (ResOK.cell rfl (by simp only [O, if_true]; rfl) ty_282 rfl)

theorem toStep_a (x : Dt.GStep) : PureC lim Try.prog 199 [encStep false x] (encStep true x) := toStep_c x (toTestS_a x.fTests)
theorem toStep_v (x : Dt.GStep) : PureC lim Try.prog 199 [encStep false x] (encStep false x) := by
  have := (toStep_a x).frz
  rwa [encStep_frz] at this
theorem toStepS_a (l : List Dt.GStep) : PureC lim Try.prog 193 [.sl false 2 (l.map (encStep false))] (.sl true 2 (l.map (encStep true))) := toStepS_c l fun x _ => toStep_a x
theorem toStepS_v (l : List Dt.GStep) : PureC lim Try.prog 193 [.sl false 2 (l.map (encStep false))] (.sl false 2 (l.map (encStep false))) := by
  have := (toStepS_a l).frz
  rwa [show (AV.sl true 2 (l.map (encStep true))).frz = AV.sl false 2 (l.map (encStep false)) by simp only [AV.frz, cond_true, encStepM_frz]] at this
theorem eqPath_c {L : Nat → Nat} (x : Dt.GPath) (h2 : PureC L Try.prog 194 [.sl false 2 (x.fSteps.map (encStep false)), .sl false 2 (x.fSteps.map (encStep false))] (.v (.bool true))) : PureC L Try.prog 187 [encPath false x, encPath false x] (.v (.bool true)) := by
  refine PureC.of_body Try.func187 rfl rfl ?_
  rw [Try.ntmps187]
  refine AW.sreg [] fun K hK => ?_
  simp only [go_sem, Nat.reduceBEq, Nat.reduceAdd]
  refine hK _ _ (OpsW.nil ?_)
  refine AW.seq (AW.sreg [] fun K hK => ?_)
  simp only [go_sem, Nat.reduceBEq, Nat.reduceAdd]
  refine hK _ _ (OpsW.nil ?_)
  refine AW.cond rfl (fun h => absurd h (by simp)) (fun _ => AW.skip ?_)
  refine AW.seq (AW.sreg [] fun K hK => ?_)
  simp only [go_sem, Nat.reduceBEq, Nat.reduceAdd]
  refine hK _ _ (OpsW.nil ?_)
  refine AW.cond rfl (fun h => absurd h (by simp)) (fun _ => AW.skip ?_)
  refine AW.seq (AW.sreg [] fun K hK => ?_)
  simp only [go_sem, Nat.reduceBEq, Nat.reduceAdd]
  refine ⟨_, CallOK.pure en194 rfl h2, ?_⟩
  simp only [go_sem, Nat.reduceBEq, Nat.reduceAdd]
  refine hK _ _ (OpsW.nil ?_)
  refine AW.cond rfl (fun h => absurd h (by simp)) (fun _ => AW.skip ?_)
  refine AW.sreg [] fun K hK => ?_
  simp only [go_sem, Nat.reduceBEq, Nat.reduceAdd]
  exact hK _ _ (OpsW.nil (AW.ret (Ends.one' rfl rfl)))

theorem eqPath_a {L : Nat → Nat} (hL : ∀ z, L z ≤ 4611686018427387904) (x : Dt.GPath) : PureC L Try.prog 187 [encPath false x, encPath false x] (.v (.bool true)) := eqPath_c x (eqStepS_a hL x.fSteps)
theorem szPath_c {L : Nat → Nat} (x : Dt.GPath) (h2 : ∀ r : Int, 0 ≤ r → r ≤ 1048576 → PureC L Try.prog 192 [.sl false 2 (x.fSteps.map (encStep false)), .v (.int .i64 r)] (.v (.int .i64 (szSl szStep x.fSteps r)))) (left : Int) (g0 : 0 ≤ left) (g1 : left ≤ 1048576) : PureC L Try.prog 185 [encPath false x, .v (.int .i64 left)] (.v (.int .i64 (szPath x left))) := by
  refine PureC.of_body Try.func185 rfl rfl ?_
  rw [Try.ntmps185]
  refine AW.sreg [] fun K hK => ?_
  simp only [go_sem, Nat.reduceBEq, Nat.reduceAdd]
  refine hK _ _ (OpsW.nil ?_)
  refine AW.sreg [] fun K hK => ?_
  simp only [go_sem, Nat.reduceBEq, Nat.reduceAdd]
  refine ⟨_, CallOK.pure en192 rfl (h2 left (by omega) (by omega)), ?_⟩
  simp only [go_sem, Nat.reduceBEq, Nat.reduceAdd]
  have e2 := szSl_le szStep (fun y r hr => szStep_le y r hr) x.fSteps left (by omega)
  refine hK _ _ (OpsW.nil ?_)
  refine AW.seq (AW.sreg [] fun K hK => ?_)
  simp only [go_sem, Nat.reduceBEq, Nat.reduceAdd]
  refine hK _ _ (OpsW.nil ?_)
  refine AW.cond rfl (fun h => ?_) (fun h => ?_)
  · have q2 : (szSl szStep x.fSteps left) < 0 := by simpa using h
    refine AW.sreg [] fun K hK => ?_
    simp only [go_sem, Nat.reduceBEq, Nat.reduceAdd]
    refine hK _ _ (OpsW.nil (AW.ret (Ends.one' rfl ?_)))
    have p2 : (szSl szStep x.fSteps left) < 0 := q2
    rw [szPath, thn_neg p2]; rfl
  have q2 : ¬ ((szSl szStep x.fSteps left) < 0) := by simpa using h
  have p2 : ¬ ((szSl szStep x.fSteps left) < 0) := q2
  clear h
  refine AW.skip ?_
  refine AW.sreg [] fun K hK => ?_
  simp only [go_sem, Nat.reduceBEq, Nat.reduceAdd]
  refine hK _ _ (OpsW.nil (AW.ret (Ends.one' rfl ?_)))
  rw [szPath, thn_pos p2]; rfl

theorem szPath_a {L : Nat → Nat} (hL : ∀ z, L z ≤ 4611686018427387904) (x : Dt.GPath) (r : Int) (r0 : 0 ≤ r) (r1 : r ≤ 1048576) : PureC L Try.prog 185 [encPath false x, .v (.int .i64 r)] (.v (.int .i64 (szPath x r))) := szPath_c x (szStepS_a hL x.fSteps) r r0 r1
theorem toPath_c {L : Nat → Nat} (x : Dt.GPath) (h2 : PureC L Try.prog 193 [.sl false 2 (x.fSteps.map (encStep false))] (.sl true 2 (x.fSteps.map (encStep true)))) : PureC L Try.prog 186 [encPath false x] (encPath true x) := by
  refine PureC.of_body Try.func186 rfl rfl ?_
  rw [Try.ntmps186]
  refine AW.sreg [] fun K hK => ?_
  simp only [go_sem, Nat.reduceBEq, Nat.reduceAdd]
  refine hK _ _ (OpsW.alloc rfl rfl rfl rfl zer_259 fun K hK b2 hb2 => ?_)
  simp only [go_sem, Nat.reduceBEq, Nat.reduceAdd]
  refine hK _ _ (OpsW.nil ?_)
  refine AW.sreg [] fun K hK => ?_
  simp only [go_sem, Nat.reduceBEq, Nat.reduceAdd]
  refine hK _ _ (OpsW.alloc rfl rfl rfl rfl zer_259 fun K hK b3 hb3 => ?_)
  have hne : b2 ≠ b3 := hb3 b2 _ (by simp only [O, if_true]; rfl)
  have hne' : b3 ≠ b2 := fun e => hne e.symm
  simp only [go_sem, Nat.reduceBEq, Nat.reduceAdd]
  refine hK _ _ (OpsW.nil ?_)
  refine AW.sreg [] fun K hK => ?_
  simp only [go_sem, Nat.reduceBEq, Nat.reduceAdd, hne, hne']
  refine hK _ _ (OpsW.store rfl rfl rfl rfl rfl (by simp only [O, if_true]; rfl) ty_4 rfl (by rfl) (by rfl) (by simp) fun K hK => ?_)
  simp only [go_sem, Nat.reduceBEq, Nat.reduceAdd]
  refine hK _ _ (OpsW.nil ?_)
  refine AW.sreg [] fun K hK => ?_
  simp only [go_sem, Nat.reduceBEq, Nat.reduceAdd, hne, hne']
  refine hK _ _ (OpsW.store rfl rfl rfl rfl rfl (by simp only [O, if_true]; rfl) ty_3 rfl (by rfl) (by rfl) (by simp) fun K hK => ?_)
  simp only [go_sem, Nat.reduceBEq, Nat.reduceAdd]
  refine hK _ _ (OpsW.nil ?_)
  refine AW.sreg [] fun K hK => ?_
  simp only [go_sem, Nat.reduceBEq, Nat.reduceAdd, hne, hne']
  refine ⟨_, CallOK.pure en193 rfl h2, ?_⟩
  try simp only [go_sem, Nat.reduceBEq, Nat.reduceAdd, hne, hne']
  refine hK _ _ (OpsW.store rfl rfl rfl rfl rfl (by simp only [O, if_true]; rfl) ty_257 rfl (by rfl) (by rfl) (by simp) fun K hK => ?_)
  simp only [go_sem, Nat.reduceBEq, Nat.reduceAdd]
  refine hK _ _ (OpsW.nil ?_)
  refine AW.sreg [14] fun K hK => ?_
  simp only [go_sem, Nat.reduceBEq, Nat.reduceAdd]
  refine hK _ _ (OpsW.take rfl rfl rfl rfl rfl (by simp only [O, if_true]; rfl) ty_259 rfl fun K hK => ?_)
  simp only [go_sem, Nat.reduceBEq, Nat.reduceAdd]
  refine hK _ _ (OpsW.store rfl rfl rfl rfl rfl (by simp only [O, hne', if_false, if_true]; rfl) ty_259 rfl (by rfl) (by rfl) (by simp) fun K hK => ?_)
  simp only [go_sem, Nat.reduceBEq, Nat.reduceAdd]
  refine hK _ _ (OpsW.nil (AW.ret ?_))
  simp only [go_sem]
  exact Ends.res rfl (ResOK.cell rfl (by simp only [O, if_true]; rfl) ty_259 rfl)

theorem toPath_a (x : Dt.GPath) : PureC lim Try.prog 186 [encPath false x] (encPath true x) := toPath_c x (toStepS_a x.fSteps)
theorem toPath_v (x : Dt.GPath) : PureC lim Try.prog 186 [encPath false x] (encPath false x) := by
  have := (toPath_a x).frz
  rwa [encPath_frz] at this
theorem eqExprS_c {L : Nat → Nat} (hL : ∀ z, L z ≤ 4611686018427387904) (l : List Dt.GExpr) (hx : ∀ x, x ∈ l → PureC L Try.prog 181 [encExpr false x, encExpr false x] (.v (.bool true))) : PureC L Try.prog 172 [.sl false 7 (l.map (encExpr false)), .sl false 7 (l.map (encExpr false))] (.v (.bool true)) := by
  refine PureC.of_body Try.func172 rfl rfl ?_
  rw [Try.ntmps172]
  refine AW.len 0 rfl fun hlen => ?_
  have hlen' := Nat.le_trans hlen (hL 7)
  rw [List.length_map] at hlen'
  clear hlen
  refine AW.sreg [] fun K hK => ?_
  simp only [go_sem, Nat.reduceBEq, Nat.reduceAdd]
  refine hK _ _ (OpsW.nil ?_)
  refine AW.seq (AW.sreg [] fun K hK => ?_)
  simp only [go_sem, Nat.reduceBEq, Nat.reduceAdd]
  refine hK _ _ (OpsW.nil ?_)
  refine AW.cond rfl (fun h => absurd h (by simp)) (fun _ => AW.skip ?_)
  refine AW.seq (AW.sreg [] fun K hK => ?_)
  simp only [go_sem, Nat.reduceBEq, Nat.reduceAdd]
  refine hK _ _ (OpsW.nil ?_)
  refine AW.block (AW.loopK [0, 1, 5] (fun m t => ∃ k : Nat, t = [(0, .sl false 7 (l.map (encExpr false))), (1, .sl false 7 (l.map (encExpr false))), (5, .v (.int .i64 k))] ∧ m = l.length - k ∧ k ≤ l.length) l.length ⟨0, rfl, by simp, by simp⟩ ?_)
  rintro m t ⟨k, rfl, rfl, hk⟩
  refine AW.seq (AW.sreg [] fun K hK => ?_)
  simp only [go_sem, Nat.reduceBEq, Nat.reduceAdd]
  refine hK _ _ (OpsW.nil ?_)
  refine AW.cond rfl (fun h => ?_) (fun h => ?_)
  · have hlt : k < l.length := by simpa using h
    clear h
    refine AW.skip (AW.seq (AW.block (AW.sdrw [] fun K hK => ?_)))
    simp only [go_sem, Nat.reduceBEq, Nat.reduceAdd, hlt]
    refine ⟨_, CallOK.pure en181 rfl (by have := hx l[k] (List.getElem_mem hlt); simpa only [go_sem] using this), ?_⟩
    simp only [go_sem, Nat.reduceBEq, Nat.reduceAdd]
    refine hK _ _ ?_ ?_
    · kernel_rfl
    refine OpsW.nil ?_
    refine AW.cond rfl (fun h => absurd h (by simp)) (fun _ => ?_)
    refine AW.skip (AW.reg [] fun K hK => ?_)
    simp only [go_sem, Nat.reduceBEq, Nat.reduceAdd]
    refine hK _ _ (OpsW.nil ⟨rfl, l.length - (k + 1), by omega, k + 1, ?_, rfl, hlt⟩)
    simp only [go_sem, Nat.reduceBEq, Nat.reduceAdd]
    rw [wrap_i64 (by omega) (by omega)]; rfl
  · refine AW.exit ?_
    simp only [blockQ, thenQ, if_true]
    refine AW.sreg [] fun K hK => ?_
    simp only [go_sem, Nat.reduceBEq, Nat.reduceAdd]
    exact hK _ _ (OpsW.nil (AW.ret (Ends.one' rfl rfl)))

theorem eqExpr_c {L : Nat → Nat} (x : Dt.GExpr) (h3 : PureC L Try.prog 187 [encPath false x.fPath, encPath false x.fPath] (.v (.bool true))) (h4 : PureC L Try.prog 172 [.sl false 7 (x.fKids.map (encExpr false)), .sl false 7 (x.fKids.map (encExpr false))] (.v (.bool true))) : PureC L Try.prog 181 [encExpr false x, encExpr false x] (.v (.bool true)) := by
  refine PureC.of_body Try.func181 rfl rfl ?_
  rw [Try.ntmps181]
  refine AW.sreg [] fun K hK => ?_
  simp only [go_sem, Nat.reduceBEq, Nat.reduceAdd]
  refine hK _ _ (OpsW.nil ?_)
  refine AW.seq (AW.sreg [] fun K hK => ?_)
  simp only [go_sem, Nat.reduceBEq, Nat.reduceAdd]
  refine hK _ _ (OpsW.nil ?_)
  refine AW.cond rfl (fun h => absurd h (by simp)) (fun _ => AW.skip ?_)
  refine AW.seq (AW.sreg [] fun K hK => ?_)
  simp only [go_sem, Nat.reduceBEq, Nat.reduceAdd]
  refine hK _ _ (OpsW.nil ?_)
  refine AW.cond rfl (fun h => absurd h (by simp)) (fun _ => AW.skip ?_)
  refine AW.seq (AW.sreg [] fun K hK => ?_)
  simp only [go_sem, Nat.reduceBEq, Nat.reduceAdd]
  refine hK _ _ (OpsW.nil ?_)
  refine AW.cond rfl (fun h => absurd h (by simp)) (fun _ => AW.skip ?_)
  refine AW.seq (AW.sreg [] fun K hK => ?_)
  simp only [go_sem, Nat.reduceBEq, Nat.reduceAdd]
  refine ⟨_, CallOK.pure en187 rfl h3, ?_⟩
  simp only [go_sem, Nat.reduceBEq, Nat.reduceAdd]
  refine hK _ _ (OpsW.nil ?_)
  refine AW.cond rfl (fun h => absurd h (by simp)) (fun _ => AW.skip ?_)
  refine AW.seq (AW.sreg [] fun K hK => ?_)
  simp only [go_sem, Nat.reduceBEq, Nat.reduceAdd]
  refine ⟨_, CallOK.pure en172 rfl h4, ?_⟩
  simp only [go_sem, Nat.reduceBEq, Nat.reduceAdd]
  refine hK _ _ (OpsW.nil ?_)
  refine AW.cond rfl (fun h => absurd h (by simp)) (fun _ => AW.skip ?_)
  refine AW.sreg [] fun K hK => ?_
  simp only [go_sem, Nat.reduceBEq, Nat.reduceAdd]
  exact hK _ _ (OpsW.nil (AW.ret (Ends.one' rfl rfl)))

theorem eqExprS_a {L : Nat → Nat} (hL : ∀ z, L z ≤ 4611686018427387904) (l : List Dt.GExpr) : PureC L Try.prog 172 [.sl false 7 (l.map (encExpr false)), .sl false 7 (l.map (encExpr false))] (.v (.bool true)) := by
  induction h : SizeOf.sizeOf l using Nat.strongRecOn generalizing l with
  | _ n ih =>
    refine eqExprS_c hL l (fun x hx => eqExpr_c x (eqPath_a hL x.fPath) (ih (SizeOf.sizeOf x.fKids) ?_ x.fKids rfl))
    have := List.sizeOf_lt_of_mem hx
    cases x; simp [Dt.GExpr.fKids] at *; omega
theorem eqExpr_a {L : Nat → Nat} (hL : ∀ z, L z ≤ 4611686018427387904) (x : Dt.GExpr) : PureC L Try.prog 181 [encExpr false x, encExpr false x] (.v (.bool true)) := eqExpr_c x (eqPath_a hL x.fPath) (eqExprS_a hL x.fKids)
theorem szExprS_c {L : Nat → Nat} (hL : ∀ z, L z ≤ 4611686018427387904) (l : List Dt.GExpr) (hx : ∀ x, x ∈ l → ∀ r : Int, 0 ≤ r → r ≤ 1048576 → PureC L Try.prog 179 [encExpr false x, .v (.int .i64 r)] (.v (.int .i64 (szExpr x r))))
    (left : Int) (h0 : 0 ≤ left) (h1 : left ≤ 1048576) : PureC L Try.prog 170 [.sl false 7 (l.map (encExpr false)), .v (.int .i64 left)] (.v (.int .i64 (szSl szExpr l left))) := by
  refine PureC.of_body Try.func170 rfl rfl ?_
  rw [Try.ntmps170]
  refine AW.len 0 rfl fun hlen => ?_
  have hlen' := Nat.le_trans hlen (hL 7)
  rw [List.length_map] at hlen'
  clear hlen
  refine AW.sreg [] fun K hK => ?_
  simp only [go_sem, Nat.reduceBEq, Nat.reduceAdd]
  refine hK _ _ (OpsW.nil ?_)
  refine AW.sreg [] fun K hK => ?_
  simp only [go_sem, Nat.reduceBEq, Nat.reduceAdd]
  rw [wrap_i64 (by omega) (by omega)]
  refine hK _ _ (OpsW.nil ?_)
  refine AW.seq (AW.sreg [] fun K hK => ?_)
  simp only [go_sem, Nat.reduceBEq, Nat.reduceAdd]
  refine hK _ _ (OpsW.nil ?_)
  refine AW.cond rfl (fun h => ?_) (fun h => ?_)
  · have h2 : left - (l.length : Int) < 0 := by simpa using h
    refine AW.sreg [] fun K hK => ?_
    simp only [go_sem, Nat.reduceBEq, Nat.reduceAdd]
    refine hK _ _ (OpsW.nil (AW.ret (Ends.one' rfl ?_)))
    rw [szSl, thn, if_pos h2]; rfl
  have h2 : ¬ (left - (l.length : Int) < 0) := by simpa using h
  clear h
  refine AW.skip (AW.seq (AW.sreg [] fun K hK => ?_))
  simp only [go_sem, Nat.reduceBEq, Nat.reduceAdd]
  refine hK _ _ (OpsW.nil ?_)
  refine AW.block (AW.loopK [0, 1, 5] (fun m t => ∃ (k : Nat) (r : Int), t = [(0, .sl false 7 (l.map (encExpr false))), (1, .v (.int .i64 r)), (5, .v (.int .i64 k))] ∧ m = l.length - k ∧ k ≤ l.length ∧ r = szGo szExpr (l.take k) (left - l.length) ∧ 0 ≤ r ∧ r ≤ 1048576) l.length ⟨0, _, rfl, by simp, by simp, by simp [szGo], by omega, by omega⟩ ?_)
  rintro m t ⟨k, r, rfl, rfl, hk, hr, hr0, hr1⟩
  refine AW.seq (AW.sreg [] fun K hK => ?_)
  simp only [go_sem, Nat.reduceBEq, Nat.reduceAdd]
  refine hK _ _ (OpsW.nil ?_)
  refine AW.cond rfl (fun h => ?_) (fun h => ?_)
  · have hlt : k < l.length := by simpa using h
    clear h
    have hsn : szGo szExpr (l.take (k + 1)) (left - l.length) = thn (szExpr l[k] r) id := by
      rw [List.take_succ_eq_append_getElem hlt, szGo_snoc _ _ _ _ (by rw [← hr]; exact hr0), ← hr]
    have hle := szExpr_le l[k] r hr0
    refine AW.skip (AW.seq (AW.block (AW.sreg [] fun K hK => ?_)))
    simp only [go_sem, Nat.reduceBEq, Nat.reduceAdd, hlt]
    refine ⟨_, CallOK.pure en179 rfl (by have := hx l[k] (List.getElem_mem hlt) r hr0 hr1; simpa only [go_sem] using this), ?_⟩
    simp only [go_sem, Nat.reduceBEq, Nat.reduceAdd]
    refine hK _ _ (OpsW.nil ?_)
    refine AW.sreg [] fun K hK => ?_
    simp only [go_sem, Nat.reduceBEq, Nat.reduceAdd]
    refine hK _ _ (OpsW.nil ?_)
    refine AW.cond rfl (fun h => ?_) (fun h => ?_)
    · have h3 : szExpr l[k] r < 0 := by simpa using h
      refine AW.sreg [] fun K hK => ?_
      simp only [go_sem, Nat.reduceBEq, Nat.reduceAdd]
      refine hK _ _ (OpsW.nil (AW.ret (Ends.one' rfl ?_)))
      rw [thn, if_pos h3] at hsn
      have := szGo_neg szExpr (l.take (k + 1)) (l.drop (k + 1)) _ hsn (List.ne_nil_of_length_pos (by rw [List.length_take]; omega))
      rw [List.take_append_drop] at this
      rw [szSl, thn, if_neg h2, this]; rfl
    · have h3 : ¬ (szExpr l[k] r < 0) := by simpa using h
      clear h
      rw [thn, if_neg h3] at hsn
      refine AW.skip (AW.reg [] fun K hK => ?_)
      simp only [go_sem, Nat.reduceBEq, Nat.reduceAdd]
      refine hK _ _ (OpsW.nil ⟨rfl, l.length - (k + 1), by omega, k + 1, _, ?_, rfl, hlt, hsn.symm, by simp only [id]; omega, by simp only [id]; omega⟩)
      simp only [go_sem, Nat.reduceBEq, Nat.reduceAdd]
      rw [wrap_i64 (by omega) (by omega)]; rfl
  · have hge : k = l.length := by have := h; simp at this; omega
    subst hge
    refine AW.exit ?_
    simp only [blockQ, thenQ, if_true]
    refine AW.sreg [] fun K hK => ?_
    simp only [go_sem, Nat.reduceBEq, Nat.reduceAdd]
    refine hK _ _ (OpsW.nil (AW.ret (Ends.one' rfl ?_)))
    rw [List.take_of_length_le (Nat.le_refl _)] at hr
    rw [szSl, thn, if_neg h2, ← hr]; rfl

theorem szExpr_c {L : Nat → Nat} (x : Dt.GExpr) (h3 : ∀ r : Int, 0 ≤ r → r ≤ 1048576 → PureC L Try.prog 185 [encPath false x.fPath, .v (.int .i64 r)] (.v (.int .i64 (szPath x.fPath r)))) (h4 : ∀ r : Int, 0 ≤ r → r ≤ 1048576 → PureC L Try.prog 170 [.sl false 7 (x.fKids.map (encExpr false)), .v (.int .i64 r)] (.v (.int .i64 (szSl szExpr x.fKids r)))) (left : Int) (g0 : 0 ≤ left) (g1 : left ≤ 1048576) : PureC L Try.prog 179 [encExpr false x, .v (.int .i64 left)] (.v (.int .i64 (szExpr x left))) := by
  refine PureC.of_body Try.func179 rfl rfl ?_
  rw [Try.ntmps179]
  simp only [go_sem]
  refine AW.aggStr 0 rfl (s := x.fText) (by simp) fun b2 => ?_
  refine AW.sreg [] fun K hK => ?_
  simp only [go_sem, Nat.reduceBEq, Nat.reduceAdd]
  refine hK _ _ (OpsW.nil ?_)
  refine AW.sreg [] fun K hK => ?_
  simp only [go_sem, Nat.reduceBEq, Nat.reduceAdd]
  rw [wrap_i64 (by omega) (by omega)]
  refine hK _ _ (OpsW.nil ?_)
  refine AW.seq (AW.sreg [] fun K hK => ?_)
  simp only [go_sem, Nat.reduceBEq, Nat.reduceAdd]
  refine hK _ _ (OpsW.nil ?_)
  refine AW.cond rfl (fun h => ?_) (fun h => ?_)
  · have q2 : (left - (x.fText.length : Int)) < 0 := by simpa using h
    refine AW.sreg [] fun K hK => ?_
    simp only [go_sem, Nat.reduceBEq, Nat.reduceAdd]
    refine hK _ _ (OpsW.nil (AW.ret (Ends.one' rfl ?_)))
    have p2 : (szStr x.fText left) < 0 := q2
    rw [szExpr_eq, thn_neg p2]; rfl
  have q2 : ¬ ((left - (x.fText.length : Int)) < 0) := by simpa using h
  have p2 : ¬ ((szStr x.fText left) < 0) := q2
  clear h
  refine AW.skip ?_
  refine AW.sreg [] fun K hK => ?_
  simp only [go_sem, Nat.reduceBEq, Nat.reduceAdd]
  refine ⟨_, CallOK.pure en185 rfl (h3 (left - (x.fText.length : Int)) (by omega) (by omega)), ?_⟩
  simp only [go_sem, Nat.reduceBEq, Nat.reduceAdd]
  have e3 := szPath_le x.fPath (left - (x.fText.length : Int)) (by omega)
  refine hK _ _ (OpsW.nil ?_)
  refine AW.seq (AW.sreg [] fun K hK => ?_)
  simp only [go_sem, Nat.reduceBEq, Nat.reduceAdd]
  refine hK _ _ (OpsW.nil ?_)
  refine AW.cond rfl (fun h => ?_) (fun h => ?_)
  · have q3 : (szPath x.fPath (left - (x.fText.length : Int))) < 0 := by simpa using h
    refine AW.sreg [] fun K hK => ?_
    simp only [go_sem, Nat.reduceBEq, Nat.reduceAdd]
    refine hK _ _ (OpsW.nil (AW.ret (Ends.one' rfl ?_)))
    have p3 : (szPath x.fPath (szStr x.fText left)) < 0 := q3
    rw [szExpr_eq, thn_pos p2, thn_neg p3]; rfl
  have q3 : ¬ ((szPath x.fPath (left - (x.fText.length : Int))) < 0) := by simpa using h
  have p3 : ¬ ((szPath x.fPath (szStr x.fText left)) < 0) := q3
  clear h
  refine AW.skip ?_
  refine AW.sreg [] fun K hK => ?_
  simp only [go_sem, Nat.reduceBEq, Nat.reduceAdd]
  refine ⟨_, CallOK.pure en170 rfl (h4 (szPath x.fPath (left - (x.fText.length : Int))) (by omega) (by omega)), ?_⟩
  simp only [go_sem, Nat.reduceBEq, Nat.reduceAdd]
  have e4 := szSl_le szExpr (fun y r hr => szExpr_le y r hr) x.fKids (szPath x.fPath (left - (x.fText.length : Int))) (by omega)
  refine hK _ _ (OpsW.nil ?_)
  refine AW.seq (AW.sreg [] fun K hK => ?_)
  simp only [go_sem, Nat.reduceBEq, Nat.reduceAdd]
  refine hK _ _ (OpsW.nil ?_)
  refine AW.cond rfl (fun h => ?_) (fun h => ?_)
  · have q4 : (szSl szExpr x.fKids (szPath x.fPath (left - (x.fText.length : Int)))) < 0 := by simpa using h
    refine AW.sreg [] fun K hK => ?_
    simp only [go_sem, Nat.reduceBEq, Nat.reduceAdd]
    refine hK _ _ (OpsW.nil (AW.ret (Ends.one' rfl ?_)))
    have p4 : (szSl szExpr x.fKids (szPath x.fPath (szStr x.fText left))) < 0 := q4
    rw [szExpr_eq, thn_pos p2, thn_pos p3, thn_neg p4]; rfl
  have q4 : ¬ ((szSl szExpr x.fKids (szPath x.fPath (left - (x.fText.length : Int)))) < 0) := by simpa using h
  have p4 : ¬ ((szSl szExpr x.fKids (szPath x.fPath (szStr x.fText left))) < 0) := q4
  clear h
  refine AW.skip ?_
  refine AW.sreg [] fun K hK => ?_
  simp only [go_sem, Nat.reduceBEq, Nat.reduceAdd]
  refine hK _ _ (OpsW.nil (AW.ret (Ends.one' rfl ?_)))
  rw [szExpr_eq, thn_pos p2, thn_pos p3, thn_pos p4]; rfl

theorem szExprS_a {L : Nat → Nat} (hL : ∀ z, L z ≤ 4611686018427387904) (l : List Dt.GExpr) (left : Int) (h0 : 0 ≤ left) (h1 : left ≤ 1048576) : PureC L Try.prog 170 [.sl false 7 (l.map (encExpr false)), .v (.int .i64 left)] (.v (.int .i64 (szSl szExpr l left))) := by
  induction h : SizeOf.sizeOf l using Nat.strongRecOn generalizing l left with
  | _ n ih =>
    refine szExprS_c hL l (fun x hx r r0 r1 => szExpr_c x (szPath_a hL x.fPath) (fun q q0 q1 => ih (SizeOf.sizeOf x.fKids) ?_ x.fKids q q0 q1 rfl) r r0 r1) left h0 h1
    have := List.sizeOf_lt_of_mem hx
    cases x; simp [Dt.GExpr.fKids] at *; omega
theorem szExpr_a {L : Nat → Nat} (hL : ∀ z, L z ≤ 4611686018427387904) (x : Dt.GExpr) (r : Int) (r0 : 0 ≤ r) (r1 : r ≤ 1048576) : PureC L Try.prog 179 [encExpr false x, .v (.int .i64 r)] (.v (.int .i64 (szExpr x r))) := szExpr_c x (szPath_a hL x.fPath) (szExprS_a hL x.fKids) r r0 r1
theorem toExprS_c (l : List Dt.GExpr) (hx : ∀ x, x ∈ l → PureC lim Try.prog 180 [encExpr false x] (encExpr true x)) : PureC lim Try.prog 171 [.sl false 7 (l.map (encExpr false))] (.sl true 7 (l.map (encExpr true))) := by
  refine PureC.of_body Try.func171 rfl rfl ?_
  rw [Try.ntmps171]
  refine AW.len 0 rfl fun hlen => ?_
  rw [List.length_map] at hlen
  have hl : l.length ≤ 2147483648 := hlen
  refine AW.sreg [] fun K hK => ?_
  simp only [go_sem, Nat.reduceBEq, Nat.reduceAdd]
  refine hK _ _ (OpsW.nil ?_)
  refine AW.sreg [] fun K hK => ?_
  simp only [go_sem, Nat.reduceBEq, Nat.reduceAdd]
  refine hK _ _ (OpsW.mk rfl rfl rfl rfl elm_224 zer_261 rfl rfl rfl hlen (by omega) (fun K hK b hb => ?_) (by omega))
  simp only [go_sem, Nat.reduceBEq, Nat.reduceAdd]
  refine hK _ _ (OpsW.go [] fun K hK => ?_)
  simp only [go_sem, Nat.reduceBEq, Nat.reduceAdd]
  refine hK _ _ (OpsW.nil ?_)
  refine AW.seq (AW.sreg [] fun K hK => ?_)
  simp only [go_sem, Nat.reduceBEq, Nat.reduceAdd]
  refine hK _ _ (OpsW.nil ?_)
  refine AW.block (AW.loopO [0, 3, 4] (fun m t o => ∃ k b : Nat, t = [(0, .sl false 7 (l.map (encExpr false))), (3, .arr b 0 l.length 7), (4, .v (.int .i64 k))] ∧ o = [(b, some (mkC (encExpr true) [.int .i64 0, .int .i64 0, .string ⟨([] : List UInt8).toArray⟩, .bool false, .int .i64 0, .slice none 0 0, .slice none 0 0] l k))] ∧ m = l.length - k ∧ k ≤ l.length) l.length [(b, some (mkC (encExpr true) [.int .i64 0, .int .i64 0, .string ⟨([] : List UInt8).toArray⟩, .bool false, .int .i64 0, .slice none 0 0, .slice none 0 0] l 0))] (by rw [mkC_zero]; exact fun _ _ h => h) ⟨0, b, rfl, rfl, by simp, by simp⟩ ?_)
  rintro m t o ⟨k, b, rfl, rfl, rfl, hk⟩
  have hC := mkC_len (encExpr true) [.int .i64 0, .int .i64 0, .string ⟨([] : List UInt8).toArray⟩, .bool false, .int .i64 0, .slice none 0 0, .slice none 0 0] 7 (fun x => by first | rfl | simp only [go_sem]) rfl l k hk
  refine AW.seq (AW.sreg [] fun K hK => ?_)
  simp only [go_sem, Nat.reduceBEq, Nat.reduceAdd]
  refine hK _ _ (OpsW.nil ?_)
  refine AW.cond rfl (fun h => ?_) (fun h => ?_)
  · have hlt : k < l.length := by simpa using h
    clear h
    have hst := mkC_step (encExpr true) [.int .i64 0, .int .i64 0, .string ⟨([] : List UInt8).toArray⟩, .bool false, .int .i64 0, .slice none 0 0, .slice none 0 0] 7 (fun x => by first | rfl | simp only [go_sem]) rfl l k hlt
    refine AW.skip (AW.seq (AW.block (AW.reg [] fun K hK => ?_)))
    simp only [go_sem, Nat.reduceBEq, Nat.reduceAdd, hlt]
    refine ⟨_, CallOK.pure en180 rfl (by have := hx l[k] (List.getElem_mem hlt); simpa only [go_sem] using this), ?_⟩
    try simp only [go_sem, Nat.reduceBEq, Nat.reduceAdd, hlt]
    refine hK _ _ ?_
    refine OpsW.store rfl rfl rfl rfl rfl (by simp only [O, if_true]; rfl) ty_261 rfl (by rfl) (by rfl) (by rw [hC]; omega) fun K hK => ?_
    simp only [go_sem, Nat.reduceBEq, Nat.reduceAdd]
    refine hK _ _ (OpsW.nil ?_)
    simp only [blockQ, thenQ]
    refine AW.reg [] fun K hK => ?_
    simp only [go_sem, Nat.reduceBEq, Nat.reduceAdd]
    refine hK _ _ (OpsW.nil ⟨rfl, l.length - (k + 1), [(b, some (mkC (encExpr true) [.int .i64 0, .int .i64 0, .string ⟨([] : List UInt8).toArray⟩, .bool false, .int .i64 0, .slice none 0 0, .slice none 0 0] l (k + 1)))], by omega, ⟨k + 1, b, ?_, rfl, rfl, hlt⟩, ?_⟩)
    · simp only [go_sem, Nat.reduceBEq, Nat.reduceAdd]
      rw [wrap_i64 (by omega) (by omega)]; rfl
    · intro q cs hq
      simp only [O] at hq ⊢
      split at hq
      · rename_i e; rw [if_pos e, ← hq, ← hst]; first | rfl | (simp only [go_sem]; done) | simp only [go_sem, hlt]
      · cases hq
  · have hge : k = l.length := by have := h; simp at this; omega
    subst hge
    refine AW.exit ?_
    simp only [blockQ, thenQ, if_true]
    refine AW.sreg [] fun K hK => ?_
    simp only [go_sem, Nat.reduceBEq, Nat.reduceAdd]
    refine hK _ _ (OpsW.nil (AW.ret ?_))
    refine Ends.res rfl (ResOK.pack rfl (by simp only [O, if_true]; rfl) (by simp) ?_ ?_)
    · rw [mkC_end, List.drop_zero, List.take_of_length_le (by rw [mkC_end] at hC; omega)]
    · intro z hz
      obtain ⟨y, _, rfl⟩ := List.mem_map.1 hz
      first | rfl | simp only [go_sem]

theorem toExpr_c {L : Nat → Nat} (x : Dt.GExpr) (h3 : PureC L Try.prog 186 [encPath false x.fPath] (encPath true x.fPath)) (h4 : PureC L Try.prog 171 [.sl false 7 (x.fKids.map (encExpr false))] (.sl true 7 (x.fKids.map (encExpr true)))) : PureC L Try.prog 180 [encExpr false x] (encExpr true x) := by
  refine PureC.of_body Try.func180 rfl rfl ?_
  rw [Try.ntmps180]
  refine AW.sreg [] fun K hK => ?_
  simp only [go_sem, Nat.reduceBEq, Nat.reduceAdd]
  refine hK _ _ (OpsW.alloc rfl rfl rfl rfl zer_261 fun K hK b2 hb2 => ?_)
  simp only [go_sem, Nat.reduceBEq, Nat.reduceAdd]
  refine hK _ _ (OpsW.nil ?_)
  refine AW.sreg [] fun K hK => ?_
  simp only [go_sem, Nat.reduceBEq, Nat.reduceAdd]
  refine hK _ _ (OpsW.alloc rfl rfl rfl rfl zer_261 fun K hK b3 hb3 => ?_)
  have hne : b2 ≠ b3 := hb3 b2 _ (by simp only [O, if_true]; rfl)
  have hne' : b3 ≠ b2 := fun e => hne e.symm
  simp only [go_sem, Nat.reduceBEq, Nat.reduceAdd]
  refine hK _ _ (OpsW.nil ?_)
  refine AW.sreg [] fun K hK => ?_
  simp only [go_sem, Nat.reduceBEq, Nat.reduceAdd, hne, hne']
  refine hK _ _ (OpsW.store rfl rfl rfl rfl rfl (by simp only [O, if_true]; rfl) ty_3 rfl (by rfl) (by rfl) (by simp) fun K hK => ?_)
  simp only [go_sem, Nat.reduceBEq, Nat.reduceAdd]
  refine hK _ _ (OpsW.nil ?_)
  refine AW.sreg [] fun K hK => ?_
  simp only [go_sem, Nat.reduceBEq, Nat.reduceAdd, hne, hne']
  refine hK _ _ (OpsW.store rfl rfl rfl rfl rfl (by simp only [O, if_true]; rfl) ty_3 rfl (by rfl) (by rfl) (by simp) fun K hK => ?_)
  simp only [go_sem, Nat.reduceBEq, Nat.reduceAdd]
  refine hK _ _ (OpsW.nil ?_)
  refine AW.sreg [] fun K hK => ?_
  simp only [go_sem, Nat.reduceBEq, Nat.reduceAdd, hne, hne']
  refine hK _ _ (OpsW.store rfl rfl rfl rfl rfl (by simp only [O, if_true]; rfl) ty_9 rfl (by rfl) (by rfl) (by simp) fun K hK => ?_)
  simp only [go_sem, Nat.reduceBEq, Nat.reduceAdd]
  refine hK _ _ (OpsW.nil ?_)
  refine AW.sreg [] fun K hK => ?_
  simp only [go_sem, Nat.reduceBEq, Nat.reduceAdd, hne, hne']
  refine ⟨_, CallOK.pure en186 rfl h3, ?_⟩
  try simp only [go_sem, Nat.reduceBEq, Nat.reduceAdd, hne, hne']
  refine hK _ _ (OpsW.store rfl rfl rfl rfl rfl (by simp only [O, if_true]; rfl) ty_259 rfl (by rfl) (by rfl) (by simp) fun K hK => ?_)
  simp only [go_sem, Nat.reduceBEq, Nat.reduceAdd]
  refine hK _ _ (OpsW.nil ?_)
  refine AW.sreg [] fun K hK => ?_
  simp only [go_sem, Nat.reduceBEq, Nat.reduceAdd, hne, hne']
  refine ⟨_, CallOK.pure en171 rfl h4, ?_⟩
  try simp only [go_sem, Nat.reduceBEq, Nat.reduceAdd, hne, hne']
  refine hK _ _ (OpsW.store rfl rfl rfl rfl rfl (by simp only [O, if_true]; rfl) ty_224 rfl (by rfl) (by rfl) (by simp) fun K hK => ?_)
  simp only [go_sem, Nat.reduceBEq, Nat.reduceAdd]
  refine hK _ _ (OpsW.nil ?_)
  refine AW.sreg [21] fun K hK => ?_
  simp only [go_sem, Nat.reduceBEq, Nat.reduceAdd]
  refine hK _ _ (OpsW.take rfl rfl rfl rfl rfl (by simp only [O, if_true]; rfl) ty_261 rfl fun K hK => ?_)
  simp only [go_sem, Nat.reduceBEq, Nat.reduceAdd]
  refine hK _ _ (OpsW.store rfl rfl rfl rfl rfl (by simp only [O, hne', if_false, if_true]; rfl) ty_261 rfl (by rfl) (by rfl) (by simp) fun K hK => ?_)
  simp only [go_sem, Nat.reduceBEq, Nat.reduceAdd]
  refine hK _ _ (OpsW.nil (AW.ret ?_))
  simp only [go_sem]
  exact Ends.res rfl (ResOK.cell rfl (by simp only [O, if_true]; rfl) ty_261 rfl)

theorem toExprS_a (l : List Dt.GExpr) : PureC lim Try.prog 171 [.sl false 7 (l.map (encExpr false))] (.sl true 7 (l.map (encExpr true))) := by
  induction h : SizeOf.sizeOf l using Nat.strongRecOn generalizing l with
  | _ n ih =>
    refine toExprS_c l (fun x hx => toExpr_c x (toPath_a x.fPath) (ih (SizeOf.sizeOf x.fKids) ?_ x.fKids rfl))
    have := List.sizeOf_lt_of_mem hx
    cases x; simp [Dt.GExpr.fKids] at *; omega
theorem toExpr_a (x : Dt.GExpr) : PureC lim Try.prog 180 [encExpr false x] (encExpr true x) := toExpr_c x (toPath_a x.fPath) (toExprS_a x.fKids)
theorem toExpr_v (x : Dt.GExpr) : PureC lim Try.prog 180 [encExpr false x] (encExpr false x) := by
  have := (toExpr_a x).frz
  rwa [encExpr_frz] at this
theorem toExprS_v (l : List Dt.GExpr) : PureC lim Try.prog 171 [.sl false 7 (l.map (encExpr false))] (.sl false 7 (l.map (encExpr false))) := by
  have := (toExprS_a l).frz
  rwa [show (AV.sl true 7 (l.map (encExpr true))).frz = AV.sl false 7 (l.map (encExpr false)) by simp only [AV.frz, cond_true, encExprM_frz]] at this
theorem eqSchemaS_c {L : Nat → Nat} (hL : ∀ z, L z ≤ 4611686018427387904) (l : List Dt.GSchema) (hx : ∀ x, x ∈ l → PureC L Try.prog 163 [encSchema false x, encSchema false x] (.v (.bool true))) : PureC L Try.prog 145 [.sl false 19 (l.map (encSchema false)), .sl false 19 (l.map (encSchema false))] (.v (.bool true)) := by
  refine PureC.of_body Try.func145 rfl rfl ?_
  rw [Try.ntmps145]
  refine AW.len 0 rfl fun hlen => ?_
  have hlen' := Nat.le_trans hlen (hL 19)
  rw [List.length_map] at hlen'
  clear hlen
  refine AW.sreg [] fun K hK => ?_
  simp only [go_sem, Nat.reduceBEq, Nat.reduceAdd]
  refine hK _ _ (OpsW.nil ?_)
  refine AW.seq (AW.sreg [] fun K hK => ?_)
  simp only [go_sem, Nat.reduceBEq, Nat.reduceAdd]
  refine hK _ _ (OpsW.nil ?_)
  refine AW.cond rfl (fun h => absurd h (by simp)) (fun _ => AW.skip ?_)
  refine AW.seq (AW.sreg [] fun K hK => ?_)
  simp only [go_sem, Nat.reduceBEq, Nat.reduceAdd]
  refine hK _ _ (OpsW.nil ?_)
  refine AW.block (AW.loopK [0, 1, 5] (fun m t => ∃ k : Nat, t = [(0, .sl false 19 (l.map (encSchema false))), (1, .sl false 19 (l.map (encSchema false))), (5, .v (.int .i64 k))] ∧ m = l.length - k ∧ k ≤ l.length) l.length ⟨0, rfl, by simp, by simp⟩ ?_)
  rintro m t ⟨k, rfl, rfl, hk⟩
  refine AW.seq (AW.sreg [] fun K hK => ?_)
  simp only [go_sem, Nat.reduceBEq, Nat.reduceAdd]
  refine hK _ _ (OpsW.nil ?_)
  refine AW.cond rfl (fun h => ?_) (fun h => ?_)
  · have hlt : k < l.length := by simpa using h
    clear h
    refine AW.skip (AW.seq (AW.block (AW.sdrw [] fun K hK => ?_)))
    simp only [go_sem, Nat.reduceBEq, Nat.reduceAdd, hlt]
    refine ⟨_, CallOK.pure en163 rfl (by have := hx l[k] (List.getElem_mem hlt); simpa only [go_sem] using this), ?_⟩
    simp only [go_sem, Nat.reduceBEq, Nat.reduceAdd]
    refine hK _ _ ?_ ?_
    · kernel_rfl
    refine OpsW.nil ?_
    refine AW.cond rfl (fun h => absurd h (by simp)) (fun _ => ?_)
    refine AW.skip (AW.reg [] fun K hK => ?_)
    simp only [go_sem, Nat.reduceBEq, Nat.reduceAdd]
    refine hK _ _ (OpsW.nil ⟨rfl, l.length - (k + 1), by omega, k + 1, ?_, rfl, hlt⟩)
    simp only [go_sem, Nat.reduceBEq, Nat.reduceAdd]
    rw [wrap_i64 (by omega) (by omega)]; rfl
  · refine AW.exit ?_
    simp only [blockQ, thenQ, if_true]
    refine AW.sreg [] fun K hK => ?_
    simp only [go_sem, Nat.reduceBEq, Nat.reduceAdd]
    exact hK _ _ (OpsW.nil (AW.ret (Ends.one' rfl rfl)))

theorem eqSchema_c {L : Nat → Nat} (x : Dt.GSchema) (h2 : PureC L Try.prog 158 [encType false x.fType, encType false x.fType] (.v (.bool true))) (h3 : PureC L Try.prog 11 [.sl false 1 (x.fKeys.map AV.str), .sl false 1 (x.fKeys.map AV.str)] (.v (.bool true))) (h4 : PureC L Try.prog 11 [.sl false 1 (x.fUnique.map AV.str), .sl false 1 (x.fUnique.map AV.str)] (.v (.bool true))) (h12 : PureC L Try.prog 172 [.sl false 7 (x.fWhen.map (encExpr false)), .sl false 7 (x.fWhen.map (encExpr false))] (.v (.bool true))) (h13 : PureC L Try.prog 172 [.sl false 7 (x.fMust.map (encExpr false)), .sl false 7 (x.fMust.map (encExpr false))] (.v (.bool true))) (h14 : PureC L Try.prog 145 [.sl false 19 (x.fKids.map (encSchema false)), .sl false 19 (x.fKids.map (encSchema false))] (.v (.bool true))) : PureC L Try.prog 163 [encSchema false x, encSchema false x] (.v (.bool true)) := by
  refine PureC.of_body Try.func163 rfl rfl ?_
  rw [Try.ntmps163]
  refine AW.sreg [] fun K hK => ?_
  simp only [go_sem, Nat.reduceBEq, Nat.reduceAdd]
  refine hK _ _ (OpsW.nil ?_)
  refine AW.seq (AW.sreg [] fun K hK => ?_)
  simp only [go_sem, Nat.reduceBEq, Nat.reduceAdd]
  refine hK _ _ (OpsW.nil ?_)
  refine AW.cond rfl (fun h => absurd h (by simp)) (fun _ => AW.skip ?_)
  refine AW.seq (AW.sreg [] fun K hK => ?_)
  simp only [go_sem, Nat.reduceBEq, Nat.reduceAdd]
  refine hK _ _ (OpsW.nil ?_)
  refine AW.cond rfl (fun h => absurd h (by simp)) (fun _ => AW.skip ?_)
  refine AW.seq (AW.sreg [] fun K hK => ?_)
  simp only [go_sem, Nat.reduceBEq, Nat.reduceAdd]
  refine ⟨_, CallOK.pure en158 rfl h2, ?_⟩
  simp only [go_sem, Nat.reduceBEq, Nat.reduceAdd]
  refine hK _ _ (OpsW.nil ?_)
  refine AW.cond rfl (fun h => absurd h (by simp)) (fun _ => AW.skip ?_)
  refine AW.seq (AW.sreg [] fun K hK => ?_)
  simp only [go_sem, Nat.reduceBEq, Nat.reduceAdd]
  refine ⟨_, CallOK.pure en11 rfl h3, ?_⟩
  simp only [go_sem, Nat.reduceBEq, Nat.reduceAdd]
  refine hK _ _ (OpsW.nil ?_)
  refine AW.cond rfl (fun h => absurd h (by simp)) (fun _ => AW.skip ?_)
  refine AW.seq (AW.sreg [] fun K hK => ?_)
  simp only [go_sem, Nat.reduceBEq, Nat.reduceAdd]
  refine ⟨_, CallOK.pure en11 rfl h4, ?_⟩
  simp only [go_sem, Nat.reduceBEq, Nat.reduceAdd]
  refine hK _ _ (OpsW.nil ?_)
  refine AW.cond rfl (fun h => absurd h (by simp)) (fun _ => AW.skip ?_)
  refine AW.seq (AW.sreg [] fun K hK => ?_)
  simp only [go_sem, Nat.reduceBEq, Nat.reduceAdd]
  refine hK _ _ (OpsW.nil ?_)
  refine AW.cond rfl (fun h => absurd h (by simp)) (fun _ => AW.skip ?_)
  refine AW.seq (AW.sreg [] fun K hK => ?_)
  simp only [go_sem, Nat.reduceBEq, Nat.reduceAdd]
  refine hK _ _ (OpsW.nil ?_)
  refine AW.cond rfl (fun h => absurd h (by simp)) (fun _ => AW.skip ?_)
  refine AW.seq (AW.sreg [] fun K hK => ?_)
  simp only [go_sem, Nat.reduceBEq, Nat.reduceAdd]
  refine hK _ _ (OpsW.nil ?_)
  refine AW.cond rfl (fun h => absurd h (by simp)) (fun _ => AW.skip ?_)
  refine AW.seq (AW.sreg [] fun K hK => ?_)
  simp only [go_sem, Nat.reduceBEq, Nat.reduceAdd]
  refine hK _ _ (OpsW.nil ?_)
  refine AW.cond rfl (fun h => absurd h (by simp)) (fun _ => AW.skip ?_)
  refine AW.seq (AW.sreg [] fun K hK => ?_)
  simp only [go_sem, Nat.reduceBEq, Nat.reduceAdd]
  refine hK _ _ (OpsW.nil ?_)
  refine AW.cond rfl (fun h => absurd h (by simp)) (fun _ => AW.skip ?_)
  refine AW.seq (AW.sreg [] fun K hK => ?_)
  simp only [go_sem, Nat.reduceBEq, Nat.reduceAdd]
  refine hK _ _ (OpsW.nil ?_)
  refine AW.cond rfl (fun h => absurd h (by simp)) (fun _ => AW.skip ?_)
  refine AW.seq (AW.sreg [] fun K hK => ?_)
  simp only [go_sem, Nat.reduceBEq, Nat.reduceAdd]
  refine hK _ _ (OpsW.nil ?_)
  refine AW.cond rfl (fun h => absurd h (by simp)) (fun _ => AW.skip ?_)
  refine AW.seq (AW.sreg [] fun K hK => ?_)
  simp only [go_sem, Nat.reduceBEq, Nat.reduceAdd]
  refine ⟨_, CallOK.pure en172 rfl h12, ?_⟩
  simp only [go_sem, Nat.reduceBEq, Nat.reduceAdd]
  refine hK _ _ (OpsW.nil ?_)
  refine AW.cond rfl (fun h => absurd h (by simp)) (fun _ => AW.skip ?_)
  refine AW.seq (AW.sreg [] fun K hK => ?_)
  simp only [go_sem, Nat.reduceBEq, Nat.reduceAdd]
  refine ⟨_, CallOK.pure en172 rfl h13, ?_⟩
  simp only [go_sem, Nat.reduceBEq, Nat.reduceAdd]
  refine hK _ _ (OpsW.nil ?_)
  refine AW.cond rfl (fun h => absurd h (by simp)) (fun _ => AW.skip ?_)
  refine AW.seq (AW.sreg [] fun K hK => ?_)
  simp only [go_sem, Nat.reduceBEq, Nat.reduceAdd]
  refine ⟨_, CallOK.pure en145 rfl h14, ?_⟩
  simp only [go_sem, Nat.reduceBEq, Nat.reduceAdd]
  refine hK _ _ (OpsW.nil ?_)
  refine AW.cond rfl (fun h => absurd h (by simp)) (fun _ => AW.skip ?_)
  refine AW.sreg [] fun K hK => ?_
  simp only [go_sem, Nat.reduceBEq, Nat.reduceAdd]
  exact hK _ _ (OpsW.nil (AW.ret (Ends.one' rfl rfl)))

theorem eqSchemaS_a {L : Nat → Nat} (hL : ∀ z, L z ≤ 4611686018427387904) (l : List Dt.GSchema) : PureC L Try.prog 145 [.sl false 19 (l.map (encSchema false)), .sl false 19 (l.map (encSchema false))] (.v (.bool true)) := by
  induction h : SizeOf.sizeOf l using Nat.strongRecOn generalizing l with
  | _ n ih =>
    refine eqSchemaS_c hL l (fun x hx => eqSchema_c x (eqType_a hL x.fType) (eqstringS_a hL x.fKeys) (eqstringS_a hL x.fUnique) (eqExprS_a hL x.fWhen) (eqExprS_a hL x.fMust) (ih (SizeOf.sizeOf x.fKids) ?_ x.fKids rfl))
    have := List.sizeOf_lt_of_mem hx
    cases x; simp [Dt.GSchema.fKids] at *; omega
theorem eqSchema_a {L : Nat → Nat} (hL : ∀ z, L z ≤ 4611686018427387904) (x : Dt.GSchema) : PureC L Try.prog 163 [encSchema false x, encSchema false x] (.v (.bool true)) := eqSchema_c x (eqType_a hL x.fType) (eqstringS_a hL x.fKeys) (eqstringS_a hL x.fUnique) (eqExprS_a hL x.fWhen) (eqExprS_a hL x.fMust) (eqSchemaS_a hL x.fKids)
theorem szSchemaS_c {L : Nat → Nat} (hL : ∀ z, L z ≤ 4611686018427387904) (l : List Dt.GSchema) (hx : ∀ x, x ∈ l → ∀ r : Int, 0 ≤ r → r ≤ 1048576 → PureC L Try.prog 159 [encSchema false x, .v (.int .i64 r)] (.v (.int .i64 (szSchema x r))))
    (left : Int) (h0 : 0 ≤ left) (h1 : left ≤ 1048576) : PureC L Try.prog 139 [.sl false 19 (l.map (encSchema false)), .v (.int .i64 left)] (.v (.int .i64 (szSl szSchema l left))) := by
  refine PureC.of_body Try.func139 rfl rfl ?_
  rw [Try.ntmps139]
  refine AW.len 0 rfl fun hlen => ?_
  have hlen' := Nat.le_trans hlen (hL 19)
  rw [List.length_map] at hlen'
  clear hlen
  refine AW.sreg [] fun K hK => ?_
  simp only [go_sem, Nat.reduceBEq, Nat.reduceAdd]
  refine hK _ _ (OpsW.nil ?_)
  refine AW.sreg [] fun K hK => ?_
  simp only [go_sem, Nat.reduceBEq, Nat.reduceAdd]
  rw [wrap_i64 (by omega) (by omega)]
  refine hK _ _ (OpsW.nil ?_)
  refine AW.seq (AW.sreg [] fun K hK => ?_)
  simp only [go_sem, Nat.reduceBEq, Nat.reduceAdd]
  refine hK _ _ (OpsW.nil ?_)
  refine AW.cond rfl (fun h => ?_) (fun h => ?_)
  · have h2 : left - (l.length : Int) < 0 := by simpa using h
    refine AW.sreg [] fun K hK => ?_
    simp only [go_sem, Nat.reduceBEq, Nat.reduceAdd]
    refine hK _ _ (OpsW.nil (AW.ret (Ends.one' rfl ?_)))
    rw [szSl, thn, if_pos h2]; rfl
  have h2 : ¬ (left - (l.length : Int) < 0) := by simpa using h
  clear h
  refine AW.skip (AW.seq (AW.sreg [] fun K hK => ?_))
  simp only [go_sem, Nat.reduceBEq, Nat.reduceAdd]
  refine hK _ _ (OpsW.nil ?_)
  refine AW.block (AW.loopK [0, 1, 5] (fun m t => ∃ (k : Nat) (r : Int), t = [(0, .sl false 19 (l.map (encSchema false))), (1, .v (.int .i64 r)), (5, .v (.int .i64 k))] ∧ m = l.length - k ∧ k ≤ l.length ∧ r = szGo szSchema (l.take k) (left - l.length) ∧ 0 ≤ r ∧ r ≤ 1048576) l.length ⟨0, _, rfl, by simp, by simp, by simp [szGo], by omega, by omega⟩ ?_)
  rintro m t ⟨k, r, rfl, rfl, hk, hr, hr0, hr1⟩
  refine AW.seq (AW.sreg [] fun K hK => ?_)
  simp only [go_sem, Nat.reduceBEq, Nat.reduceAdd]
  refine hK _ _ (OpsW.nil ?_)
  refine AW.cond rfl (fun h => ?_) (fun h => ?_)
  · have hlt : k < l.length := by simpa using h
    clear h
    have hsn : szGo szSchema (l.take (k + 1)) (left - l.length) = thn (szSchema l[k] r) id := by
      rw [List.take_succ_eq_append_getElem hlt, szGo_snoc _ _ _ _ (by rw [← hr]; exact hr0), ← hr]
    have hle := szSchema_le l[k] r hr0
    refine AW.skip (AW.seq (AW.block (AW.sreg [] fun K hK => ?_)))
    simp only [go_sem, Nat.reduceBEq, Nat.reduceAdd, hlt]
    refine ⟨_, CallOK.pure en159 rfl (by have := hx l[k] (List.getElem_mem hlt) r hr0 hr1; simpa only [go_sem] using this), ?_⟩
    simp only [go_sem, Nat.reduceBEq, Nat.reduceAdd]
    refine hK _ _ (OpsW.nil ?_)
    refine AW.sreg [] fun K hK => ?_
    simp only [go_sem, Nat.reduceBEq, Nat.reduceAdd]
    refine hK _ _ (OpsW.nil ?_)
    refine AW.cond rfl (fun h => ?_) (fun h => ?_)
    · have h3 : szSchema l[k] r < 0 := by simpa using h
      refine AW.sreg [] fun K hK => ?_
      simp only [go_sem, Nat.reduceBEq, Nat.reduceAdd]
      refine hK _ _ (OpsW.nil (AW.ret (Ends.one' rfl ?_)))
      rw [thn, if_pos h3] at hsn
      have := szGo_neg szSchema (l.take (k + 1)) (l.drop (k + 1)) _ hsn (List.ne_nil_of_length_pos (by rw [List.length_take]; omega))
      rw [List.take_append_drop] at this
      rw [szSl, thn, if_neg h2, this]; rfl
    · have h3 : ¬ (szSchema l[k] r < 0) := by simpa using h
      clear h
      rw [thn, if_neg h3] at hsn
      refine AW.skip (AW.reg [] fun K hK => ?_)
      simp only [go_sem, Nat.reduceBEq, Nat.reduceAdd]
      refine hK _ _ (OpsW.nil ⟨rfl, l.length - (k + 1), by omega, k + 1, _, ?_, rfl, hlt, hsn.symm, by simp only [id]; omega, by simp only [id]; omega⟩)
      simp only [go_sem, Nat.reduceBEq, Nat.reduceAdd]
      rw [wrap_i64 (by omega) (by omega)]; rfl
  · have hge : k = l.length := by have := h; simp at this; omega
    subst hge
    refine AW.exit ?_
    simp only [blockQ, thenQ, if_true]
    refine AW.sreg [] fun K hK => ?_
    simp only [go_sem, Nat.reduceBEq, Nat.reduceAdd]
    refine hK _ _ (OpsW.nil (AW.ret (Ends.one' rfl ?_)))
    rw [List.take_of_length_le (Nat.le_refl _)] at hr
    rw [szSl, thn, if_neg h2, ← hr]; rfl

theorem szSchema_c {L : Nat → Nat} (x : Dt.GSchema) (h2 : ∀ r : Int, 0 ≤ r → r ≤ 1048576 → PureC L Try.prog 152 [encType false x.fType, .v (.int .i64 r)] (.v (.int .i64 (szType x.fType r)))) (h3 : ∀ r : Int, 0 ≤ r → r ≤ 1048576 → PureC L Try.prog 148 [.sl false 1 (x.fKeys.map AV.str), .v (.int .i64 r)] (.v (.int .i64 (szSl szStr x.fKeys r)))) (h4 : ∀ r : Int, 0 ≤ r → r ≤ 1048576 → PureC L Try.prog 148 [.sl false 1 (x.fUnique.map AV.str), .v (.int .i64 r)] (.v (.int .i64 (szSl szStr x.fUnique r)))) (h12 : ∀ r : Int, 0 ≤ r → r ≤ 1048576 → PureC L Try.prog 170 [.sl false 7 (x.fWhen.map (encExpr false)), .v (.int .i64 r)] (.v (.int .i64 (szSl szExpr x.fWhen r)))) (h13 : ∀ r : Int, 0 ≤ r → r ≤ 1048576 → PureC L Try.prog 170 [.sl false 7 (x.fMust.map (encExpr false)), .v (.int .i64 r)] (.v (.int .i64 (szSl szExpr x.fMust r)))) (h14 : ∀ r : Int, 0 ≤ r → r ≤ 1048576 → PureC L Try.prog 139 [.sl false 19 (x.fKids.map (encSchema false)), .v (.int .i64 r)] (.v (.int .i64 (szSl szSchema x.fKids r)))) (left : Int) (g0 : 0 ≤ left) (g1 : left ≤ 1048576) : PureC L Try.prog 159 [encSchema false x, .v (.int .i64 left)] (.v (.int .i64 (szSchema x left))) := by
  refine PureC.of_body Try.func159 rfl rfl ?_
  rw [Try.ntmps159]
  simp only [go_sem]
  refine AW.aggStr 0 rfl (s := x.fName) (by simp) fun b1 => ?_
  refine AW.aggStr 0 rfl (s := x.fDefault) (by simp) fun b5 => ?_
  refine AW.sreg [] fun K hK => ?_
  simp only [go_sem, Nat.reduceBEq, Nat.reduceAdd]
  refine hK _ _ (OpsW.nil ?_)
  refine AW.sreg [] fun K hK => ?_
  simp only [go_sem, Nat.reduceBEq, Nat.reduceAdd]
  rw [wrap_i64 (by omega) (by omega)]
  refine hK _ _ (OpsW.nil ?_)
  refine AW.seq (AW.sreg [] fun K hK => ?_)
  simp only [go_sem, Nat.reduceBEq, Nat.reduceAdd]
  refine hK _ _ (OpsW.nil ?_)
  refine AW.cond rfl (fun h => ?_) (fun h => ?_)
  · have q1 : (left - (x.fName.length : Int)) < 0 := by simpa using h
    refine AW.sreg [] fun K hK => ?_
    simp only [go_sem, Nat.reduceBEq, Nat.reduceAdd]
    refine hK _ _ (OpsW.nil (AW.ret (Ends.one' rfl ?_)))
    have p1 : (szStr x.fName left) < 0 := q1
    rw [szSchema_eq, thn_neg p1]; rfl
  have q1 : ¬ ((left - (x.fName.length : Int)) < 0) := by simpa using h
  have p1 : ¬ ((szStr x.fName left) < 0) := q1
  clear h
  refine AW.skip ?_
  refine AW.sreg [] fun K hK => ?_
  simp only [go_sem, Nat.reduceBEq, Nat.reduceAdd]
  refine ⟨_, CallOK.pure en152 rfl (h2 (left - (x.fName.length : Int)) (by omega) (by omega)), ?_⟩
  simp only [go_sem, Nat.reduceBEq, Nat.reduceAdd]
  have e2 := szType_le x.fType (left - (x.fName.length : Int)) (by omega)
  refine hK _ _ (OpsW.nil ?_)
  refine AW.seq (AW.sreg [] fun K hK => ?_)
  simp only [go_sem, Nat.reduceBEq, Nat.reduceAdd]
  refine hK _ _ (OpsW.nil ?_)
  refine AW.cond rfl (fun h => ?_) (fun h => ?_)
  · have q2 : (szType x.fType (left - (x.fName.length : Int))) < 0 := by simpa using h
    refine AW.sreg [] fun K hK => ?_
    simp only [go_sem, Nat.reduceBEq, Nat.reduceAdd]
    refine hK _ _ (OpsW.nil (AW.ret (Ends.one' rfl ?_)))
    have p2 : (szType x.fType (szStr x.fName left)) < 0 := q2
    rw [szSchema_eq, thn_pos p1, thn_neg p2]; rfl
  have q2 : ¬ ((szType x.fType (left - (x.fName.length : Int))) < 0) := by simpa using h
  have p2 : ¬ ((szType x.fType (szStr x.fName left)) < 0) := q2
  clear h
  refine AW.skip ?_
  refine AW.sreg [] fun K hK => ?_
  simp only [go_sem, Nat.reduceBEq, Nat.reduceAdd]
  refine ⟨_, CallOK.pure en148 rfl (h3 (szType x.fType (left - (x.fName.length : Int))) (by omega) (by omega)), ?_⟩
  simp only [go_sem, Nat.reduceBEq, Nat.reduceAdd]
  have e3 := szSl_le szStr (fun y r hr => szStr_le y r hr) x.fKeys (szType x.fType (left - (x.fName.length : Int))) (by omega)
  refine hK _ _ (OpsW.nil ?_)
  refine AW.seq (AW.sreg [] fun K hK => ?_)
  simp only [go_sem, Nat.reduceBEq, Nat.reduceAdd]
  refine hK _ _ (OpsW.nil ?_)
  refine AW.cond rfl (fun h => ?_) (fun h => ?_)
  · have q3 : (szSl szStr x.fKeys (szType x.fType (left - (x.fName.length : Int)))) < 0 := by simpa using h
    refine AW.sreg [] fun K hK => ?_
    simp only [go_sem, Nat.reduceBEq, Nat.reduceAdd]
    refine hK _ _ (OpsW.nil (AW.ret (Ends.one' rfl ?_)))
    have p3 : (szSl szStr x.fKeys (szType x.fType (szStr x.fName left))) < 0 := q3
    rw [szSchema_eq, thn_pos p1, thn_pos p2, thn_neg p3]; rfl
  have q3 : ¬ ((szSl szStr x.fKeys (szType x.fType (left - (x.fName.length : Int)))) < 0) := by simpa using h
  have p3 : ¬ ((szSl szStr x.fKeys (szType x.fType (szStr x.fName left))) < 0) := q3
  clear h
  refine AW.skip ?_
  refine AW.sreg [] fun K hK => ?_
  simp only [go_sem, Nat.reduceBEq, Nat.reduceAdd]
  refine ⟨_, CallOK.pure en148 rfl (h4 (szSl szStr x.fKeys (szType x.fType (left - (x.fName.length : Int)))) (by omega) (by omega)), ?_⟩
  simp only [go_sem, Nat.reduceBEq, Nat.reduceAdd]
  have e4 := szSl_le szStr (fun y r hr => szStr_le y r hr) x.fUnique (szSl szStr x.fKeys (szType x.fType (left - (x.fName.length : Int)))) (by omega)
  refine hK _ _ (OpsW.nil ?_)
  refine AW.seq (AW.sreg [] fun K hK => ?_)
  simp only [go_sem, Nat.reduceBEq, Nat.reduceAdd]
  refine hK _ _ (OpsW.nil ?_)
  refine AW.cond rfl (fun h => ?_) (fun h => ?_)
  · have q4 : (szSl szStr x.fUnique (szSl szStr x.fKeys (szType x.fType (left - (x.fName.length : Int))))) < 0 := by simpa using h
    refine AW.sreg [] fun K hK => ?_
    simp only [go_sem, Nat.reduceBEq, Nat.reduceAdd]
    refine hK _ _ (OpsW.nil (AW.ret (Ends.one' rfl ?_)))
    have p4 : (szSl szStr x.fUnique (szSl szStr x.fKeys (szType x.fType (szStr x.fName left)))) < 0 := q4
    rw [szSchema_eq, thn_pos p1, thn_pos p2, thn_pos p3, thn_neg p4]; rfl
  have q4 : ¬ ((szSl szStr x.fUnique (szSl szStr x.fKeys (szType x.fType (left - (x.fName.length : Int))))) < 0) := by simpa using h
  have p4 : ¬ ((szSl szStr x.fUnique (szSl szStr x.fKeys (szType x.fType (szStr x.fName left)))) < 0) := q4
  clear h
  refine AW.skip ?_
  refine AW.sreg [] fun K hK => ?_
  simp only [go_sem, Nat.reduceBEq, Nat.reduceAdd]
  rw [wrap_i64 (by omega) (by omega)]
  refine hK _ _ (OpsW.nil ?_)
  refine AW.seq (AW.sreg [] fun K hK => ?_)
  simp only [go_sem, Nat.reduceBEq, Nat.reduceAdd]
  refine hK _ _ (OpsW.nil ?_)
  refine AW.cond rfl (fun h => ?_) (fun h => ?_)
  · have q5 : ((szSl szStr x.fUnique (szSl szStr x.fKeys (szType x.fType (left - (x.fName.length : Int))))) - (x.fDefault.length : Int)) < 0 := by simpa using h
    refine AW.sreg [] fun K hK => ?_
    simp only [go_sem, Nat.reduceBEq, Nat.reduceAdd]
    refine hK _ _ (OpsW.nil (AW.ret (Ends.one' rfl ?_)))
    have p5 : (szStr x.fDefault (szSl szStr x.fUnique (szSl szStr x.fKeys (szType x.fType (szStr x.fName left))))) < 0 := q5
    rw [szSchema_eq, thn_pos p1, thn_pos p2, thn_pos p3, thn_pos p4, thn_neg p5]; rfl
  have q5 : ¬ (((szSl szStr x.fUnique (szSl szStr x.fKeys (szType x.fType (left - (x.fName.length : Int))))) - (x.fDefault.length : Int)) < 0) := by simpa using h
  have p5 : ¬ ((szStr x.fDefault (szSl szStr x.fUnique (szSl szStr x.fKeys (szType x.fType (szStr x.fName left))))) < 0) := q5
  clear h
  refine AW.skip ?_
  refine AW.sreg [] fun K hK => ?_
  simp only [go_sem, Nat.reduceBEq, Nat.reduceAdd]
  refine ⟨_, CallOK.pure en170 rfl (h12 ((szSl szStr x.fUnique (szSl szStr x.fKeys (szType x.fType (left - (x.fName.length : Int))))) - (x.fDefault.length : Int)) (by omega) (by omega)), ?_⟩
  simp only [go_sem, Nat.reduceBEq, Nat.reduceAdd]
  have e12 := szSl_le szExpr (fun y r hr => szExpr_le y r hr) x.fWhen ((szSl szStr x.fUnique (szSl szStr x.fKeys (szType x.fType (left - (x.fName.length : Int))))) - (x.fDefault.length : Int)) (by omega)
  refine hK _ _ (OpsW.nil ?_)
  refine AW.seq (AW.sreg [] fun K hK => ?_)
  simp only [go_sem, Nat.reduceBEq, Nat.reduceAdd]
  refine hK _ _ (OpsW.nil ?_)
  refine AW.cond rfl (fun h => ?_) (fun h => ?_)
  · have q12 : (szSl szExpr x.fWhen ((szSl szStr x.fUnique (szSl szStr x.fKeys (szType x.fType (left - (x.fName.length : Int))))) - (x.fDefault.length : Int))) < 0 := by simpa using h
    refine AW.sreg [] fun K hK => ?_
    simp only [go_sem, Nat.reduceBEq, Nat.reduceAdd]
    refine hK _ _ (OpsW.nil (AW.ret (Ends.one' rfl ?_)))
    have p12 : (szSl szExpr x.fWhen (szStr x.fDefault (szSl szStr x.fUnique (szSl szStr x.fKeys (szType x.fType (szStr x.fName left)))))) < 0 := q12
    rw [szSchema_eq, thn_pos p1, thn_pos p2, thn_pos p3, thn_pos p4, thn_pos p5, thn_neg p12]; rfl
  have q12 : ¬ ((szSl szExpr x.fWhen ((szSl szStr x.fUnique (szSl szStr x.fKeys (szType x.fType (left - (x.fName.length : Int))))) - (x.fDefault.length : Int))) < 0) := by simpa using h
  have p12 : ¬ ((szSl szExpr x.fWhen (szStr x.fDefault (szSl szStr x.fUnique (szSl szStr x.fKeys (szType x.fType (szStr x.fName left)))))) < 0) := q12
  clear h
  refine AW.skip ?_
  refine AW.sreg [] fun K hK => ?_
  simp only [go_sem, Nat.reduceBEq, Nat.reduceAdd]
  refine ⟨_, CallOK.pure en170 rfl (h13 (szSl szExpr x.fWhen ((szSl szStr x.fUnique (szSl szStr x.fKeys (szType x.fType (left - (x.fName.length : Int))))) - (x.fDefault.length : Int))) (by omega) (by omega)), ?_⟩
  simp only [go_sem, Nat.reduceBEq, Nat.reduceAdd]
  have e13 := szSl_le szExpr (fun y r hr => szExpr_le y r hr) x.fMust (szSl szExpr x.fWhen ((szSl szStr x.fUnique (szSl szStr x.fKeys (szType x.fType (left - (x.fName.length : Int))))) - (x.fDefault.length : Int))) (by omega)
  refine hK _ _ (OpsW.nil ?_)
  refine AW.seq (AW.sreg [] fun K hK => ?_)
  simp only [go_sem, Nat.reduceBEq, Nat.reduceAdd]
  refine hK _ _ (OpsW.nil ?_)
  refine AW.cond rfl (fun h => ?_) (fun h => ?_)
  · have q13 : (szSl szExpr x.fMust (szSl szExpr x.fWhen ((szSl szStr x.fUnique (szSl szStr x.fKeys (szType x.fType (left - (x.fName.length : Int))))) - (x.fDefault.length : Int)))) < 0 := by simpa using h
    refine AW.sreg [] fun K hK => ?_
    simp only [go_sem, Nat.reduceBEq, Nat.reduceAdd]
    refine hK _ _ (OpsW.nil (AW.ret (Ends.one' rfl ?_)))
    have p13 : (szSl szExpr x.fMust (szSl szExpr x.fWhen (szStr x.fDefault (szSl szStr x.fUnique (szSl szStr x.fKeys (szType x.fType (szStr x.fName left))))))) < 0 := q13
    rw [szSchema_eq, thn_pos p1, thn_pos p2, thn_pos p3, thn_pos p4, thn_pos p5, thn_pos p12, thn_neg p13]; rfl
  have q13 : ¬ ((szSl szExpr x.fMust (szSl szExpr x.fWhen ((szSl szStr x.fUnique (szSl szStr x.fKeys (szType x.fType (left - (x.fName.length : Int))))) - (x.fDefault.length : Int)))) < 0) := by simpa using h
  have p13 : ¬ ((szSl szExpr x.fMust (szSl szExpr x.fWhen (szStr x.fDefault (szSl szStr x.fUnique (szSl szStr x.fKeys (szType x.fType (szStr x.fName left))))))) < 0) := q13
  clear h
  refine AW.skip ?_
  refine AW.sreg [] fun K hK => ?_
  simp only [go_sem, Nat.reduceBEq, Nat.reduceAdd]
  refine ⟨_, CallOK.pure en139 rfl (h14 (szSl szExpr x.fMust (szSl szExpr x.fWhen ((szSl szStr x.fUnique (szSl szStr x.fKeys (szType x.fType (left - (x.fName.length : Int))))) - (x.fDefault.length : Int)))) (by omega) (by omega)), ?_⟩
  simp only [go_sem, Nat.reduceBEq, Nat.reduceAdd]
  have e14 := szSl_le szSchema (fun y r hr => szSchema_le y r hr) x.fKids (szSl szExpr x.fMust (szSl szExpr x.fWhen ((szSl szStr x.fUnique (szSl szStr x.fKeys (szType x.fType (left - (x.fName.length : Int))))) - (x.fDefault.length : Int)))) (by omega)
  refine hK _ _ (OpsW.nil ?_)
  refine AW.seq (AW.sreg [] fun K hK => ?_)
  simp only [go_sem, Nat.reduceBEq, Nat.reduceAdd]
  refine hK _ _ (OpsW.nil ?_)
  refine AW.cond rfl (fun h => ?_) (fun h => ?_)
  · have q14 : (szSl szSchema x.fKids (szSl szExpr x.fMust (szSl szExpr x.fWhen ((szSl szStr x.fUnique (szSl szStr x.fKeys (szType x.fType (left - (x.fName.length : Int))))) - (x.fDefault.length : Int))))) < 0 := by simpa using h
    refine AW.sreg [] fun K hK => ?_
    simp only [go_sem, Nat.reduceBEq, Nat.reduceAdd]
    refine hK _ _ (OpsW.nil (AW.ret (Ends.one' rfl ?_)))
    have p14 : (szSl szSchema x.fKids (szSl szExpr x.fMust (szSl szExpr x.fWhen (szStr x.fDefault (szSl szStr x.fUnique (szSl szStr x.fKeys (szType x.fType (szStr x.fName left)))))))) < 0 := q14
    rw [szSchema_eq, thn_pos p1, thn_pos p2, thn_pos p3, thn_pos p4, thn_pos p5, thn_pos p12, thn_pos p13, thn_neg p14]; rfl
  have q14 : ¬ ((szSl szSchema x.fKids (szSl szExpr x.fMust (szSl szExpr x.fWhen ((szSl szStr x.fUnique (szSl szStr x.fKeys (szType x.fType (left - (x.fName.length : Int))))) - (x.fDefault.length : Int))))) < 0) := by simpa using h
  have p14 : ¬ ((szSl szSchema x.fKids (szSl szExpr x.fMust (szSl szExpr x.fWhen (szStr x.fDefault (szSl szStr x.fUnique (szSl szStr x.fKeys (szType x.fType (szStr x.fName left)))))))) < 0) := q14
  clear h
  refine AW.skip ?_
  refine AW.sreg [] fun K hK => ?_
  simp only [go_sem, Nat.reduceBEq, Nat.reduceAdd]
  refine hK _ _ (OpsW.nil (AW.ret (Ends.one' rfl ?_)))
  rw [szSchema_eq, thn_pos p1, thn_pos p2, thn_pos p3, thn_pos p4, thn_pos p5, thn_pos p12, thn_pos p13, thn_pos p14]; rfl

theorem szSchemaS_a {L : Nat → Nat} (hL : ∀ z, L z ≤ 4611686018427387904) (l : List Dt.GSchema) (left : Int) (h0 : 0 ≤ left) (h1 : left ≤ 1048576) : PureC L Try.prog 139 [.sl false 19 (l.map (encSchema false)), .v (.int .i64 left)] (.v (.int .i64 (szSl szSchema l left))) := by
  induction h : SizeOf.sizeOf l using Nat.strongRecOn generalizing l left with
  | _ n ih =>
    refine szSchemaS_c hL l (fun x hx r r0 r1 => szSchema_c x (szType_a hL x.fType) (szstringS_a hL x.fKeys) (szstringS_a hL x.fUnique) (szExprS_a hL x.fWhen) (szExprS_a hL x.fMust) (fun q q0 q1 => ih (SizeOf.sizeOf x.fKids) ?_ x.fKids q q0 q1 rfl) r r0 r1) left h0 h1
    have := List.sizeOf_lt_of_mem hx
    cases x; simp [Dt.GSchema.fKids] at *; omega
theorem szSchema_a {L : Nat → Nat} (hL : ∀ z, L z ≤ 4611686018427387904) (x : Dt.GSchema) (r : Int) (r0 : 0 ≤ r) (r1 : r ≤ 1048576) : PureC L Try.prog 159 [encSchema false x, .v (.int .i64 r)] (.v (.int .i64 (szSchema x r))) := szSchema_c x (szType_a hL x.fType) (szstringS_a hL x.fKeys) (szstringS_a hL x.fUnique) (szExprS_a hL x.fWhen) (szExprS_a hL x.fMust) (szSchemaS_a hL x.fKids) r r0 r1
theorem toSchemaS_c (l : List Dt.GSchema) (hx : ∀ x, x ∈ l → PureC lim Try.prog 161 [encSchema false x] (encSchema true x)) : PureC lim Try.prog 142 [.sl false 19 (l.map (encSchema false))] (.sl true 19 (l.map (encSchema true))) := by
  refine PureC.of_body Try.func142 rfl rfl ?_
  rw [Try.ntmps142]
  refine AW.len 0 rfl fun hlen => ?_
  rw [List.length_map] at hlen
  have hl : l.length ≤ 2147483648 := hlen
  refine AW.sreg [] fun K hK => ?_
  simp only [go_sem, Nat.reduceBEq, Nat.reduceAdd]
  refine hK _ _ (OpsW.nil ?_)
  refine AW.sreg [] fun K hK => ?_
  simp only [go_sem, Nat.reduceBEq, Nat.reduceAdd]
  refine hK _ _ (OpsW.mk rfl rfl rfl rfl elm_110 zer_226 rfl rfl rfl hlen (by omega) (fun K hK b hb => ?_) (by omega))
  simp only [go_sem, Nat.reduceBEq, Nat.reduceAdd]
  refine hK _ _ (OpsW.go [] fun K hK => ?_)
  simp only [go_sem, Nat.reduceBEq, Nat.reduceAdd]
  refine hK _ _ (OpsW.nil ?_)
  refine AW.seq (AW.sreg [] fun K hK => ?_)
  simp only [go_sem, Nat.reduceBEq, Nat.reduceAdd]
  refine hK _ _ (OpsW.nil ?_)
  refine AW.block (AW.loopO [0, 3, 4] (fun m t o => ∃ k b : Nat, t = [(0, .sl false 19 (l.map (encSchema false))), (3, .arr b 0 l.length 19), (4, .v (.int .i64 k))] ∧ o = [(b, some (mkC (encSchema true) [.int .i64 0, .string ⟨([] : List UInt8).toArray⟩, .int .i64 0, .slice none 0 0, .slice none 0 0, .string ⟨([] : List UInt8).toArray⟩, .string ⟨([] : List UInt8).toArray⟩, .slice none 0 0, .slice none 0 0, .string ⟨([] : List UInt8).toArray⟩, .bool false, .bool false, .bool false, .bool false, .int .i64 0, .int .i64 0, .slice none 0 0, .slice none 0 0, .slice none 0 0] l k))] ∧ m = l.length - k ∧ k ≤ l.length) l.length [(b, some (mkC (encSchema true) [.int .i64 0, .string ⟨([] : List UInt8).toArray⟩, .int .i64 0, .slice none 0 0, .slice none 0 0, .string ⟨([] : List UInt8).toArray⟩, .string ⟨([] : List UInt8).toArray⟩, .slice none 0 0, .slice none 0 0, .string ⟨([] : List UInt8).toArray⟩, .bool false, .bool false, .bool false, .bool false, .int .i64 0, .int .i64 0, .slice none 0 0, .slice none 0 0, .slice none 0 0] l 0))] (by rw [mkC_zero]; exact fun _ _ h => h) ⟨0, b, rfl, rfl, by simp, by simp⟩ ?_)
  rintro m t o ⟨k, b, rfl, rfl, rfl, hk⟩
  have hC := mkC_len (encSchema true) [.int .i64 0, .string ⟨([] : List UInt8).toArray⟩, .int .i64 0, .slice none 0 0, .slice none 0 0, .string ⟨([] : List UInt8).toArray⟩, .string ⟨([] : List UInt8).toArray⟩, .slice none 0 0, .slice none 0 0, .string ⟨([] : List UInt8).toArray⟩, .bool false, .bool false, .bool false, .bool false, .int .i64 0, .int .i64 0, .slice none 0 0, .slice none 0 0, .slice none 0 0] 19 (fun x => by first | rfl | simp only [go_sem]) rfl l k hk
  refine AW.seq (AW.sreg [] fun K hK => ?_)
  simp only [go_sem, Nat.reduceBEq, Nat.reduceAdd]
  refine hK _ _ (OpsW.nil ?_)
  refine AW.cond rfl (fun h => ?_) (fun h => ?_)
  · have hlt : k < l.length := by simpa using h
    clear h
    have hst := mkC_step (encSchema true) [.int .i64 0, .string ⟨([] : List UInt8).toArray⟩, .int .i64 0, .slice none 0 0, .slice none 0 0, .string ⟨([] : List UInt8).toArray⟩, .string ⟨([] : List UInt8).toArray⟩, .slice none 0 0, .slice none 0 0, .string ⟨([] : List UInt8).toArray⟩, .bool false, .bool false, .bool false, .bool false, .int .i64 0, .int .i64 0, .slice none 0 0, .slice none 0 0, .slice none 0 0] 19 (fun x => by first | rfl | simp only [go_sem]) rfl l k hlt
    refine AW.skip (AW.seq (AW.block (AW.reg [] fun K hK => ?_)))
    simp only [go_sem, Nat.reduceBEq, Nat.reduceAdd, hlt]
    refine ⟨_, CallOK.pure en161 rfl (by have := hx l[k] (List.getElem_mem hlt); simpa only [go_sem] using this), ?_⟩
    try simp only [go_sem, Nat.reduceBEq, Nat.reduceAdd, hlt]
    refine hK _ _ ?_
    refine OpsW.store rfl rfl rfl rfl rfl (by simp only [O, if_true]; rfl) ty_226 rfl (by rfl) (by rfl) (by rw [hC]; omega) fun K hK => ?_
    simp only [go_sem, Nat.reduceBEq, Nat.reduceAdd]
    refine hK _ _ (OpsW.nil ?_)
    simp only [blockQ, thenQ]
    refine AW.reg [] fun K hK => ?_
    simp only [go_sem, Nat.reduceBEq, Nat.reduceAdd]
    refine hK _ _ (OpsW.nil ⟨rfl, l.length - (k + 1), [(b, some (mkC (encSchema true) [.int .i64 0, .string ⟨([] : List UInt8).toArray⟩, .int .i64 0, .slice none 0 0, .slice none 0 0, .string ⟨([] : List UInt8).toArray⟩, .string ⟨([] : List UInt8).toArray⟩, .slice none 0 0, .slice none 0 0, .string ⟨([] : List UInt8).toArray⟩, .bool false, .bool false, .bool false, .bool false, .int .i64 0, .int .i64 0, .slice none 0 0, .slice none 0 0, .slice none 0 0] l (k + 1)))], by omega, ⟨k + 1, b, ?_, rfl, rfl, hlt⟩, ?_⟩)
    · simp only [go_sem, Nat.reduceBEq, Nat.reduceAdd]
      rw [wrap_i64 (by omega) (by omega)]; rfl
    · intro q cs hq
      simp only [O] at hq ⊢
      split at hq
      · rename_i e; rw [if_pos e, ← hq, ← hst]; first | rfl | (simp only [go_sem]; done) | simp only [go_sem, hlt]
      · cases hq
  · have hge : k = l.length := by have := h; simp at this; omega
    subst hge
    refine AW.exit ?_
    simp only [blockQ, thenQ, if_true]
    refine AW.sreg [] fun K hK => ?_
    simp only [go_sem, Nat.reduceBEq, Nat.reduceAdd]
    refine hK _ _ (OpsW.nil (AW.ret ?_))
    refine Ends.res rfl (ResOK.pack rfl (by simp only [O, if_true]; rfl) (by simp) ?_ ?_)
    · rw [mkC_end, List.drop_zero, List.take_of_length_le (by rw [mkC_end] at hC; omega)]
    · intro z hz
      obtain ⟨y, _, rfl⟩ := List.mem_map.1 hz
      first | rfl | simp only [go_sem]

end Go.Proofs.Ytkdchlggdcmkbaa
