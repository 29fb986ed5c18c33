/-
  The logic's steps: append, as steps of a state.
-/
import Derived.Test.YtkdchlggdcmkbaaAbApp
set_option linter.unusedSimpArgs false
set_option linter.unusedVariables false
namespace Go.Ab
open Go.RowKit (Below)

theorem zer_inv {P : Program} {t : TypeId} {zs : List Value} (h : zer P t = some zs) : ∃ i z, P.info? t = some i ∧ i.zero = some z ∧ z.cells.toList = zs := by
  unfold zer at h
  split at h
  · rename_i i hi
    split at h
    · rename_i z hz
      simp at h
      exact ⟨i, z, hi, hz, h⟩
    · cases h
  · cases h

section ops
variable {L : Nat → Nat} {P : Program} {s : AS} {o : Oper}

theorem opw_append_arr {c : Call} {x y : Operand} {t u e : TypeId} {b len sz bytes n : Nat} {cells ncells : List AV} {zs : List Value} (ho : o.op = .call c) (hc : c = ⟨.builtin .append, #[x, y], #[t, u]⟩)
    (hd : dstOK s.n o.dst = true) (hx : ev s.t x = .arr b 0 len sz) (hO : O s.o b = some cells) (hlen : cells.length = len * sz) (ht : elm P t = some (e, sz, bytes)) (hz : zer P e = some zs) (hzl : zs.length = sz)
    (hu : (∃ e', P.underlying u = some (.slice e')) ∨ P.underlying u = some .string) (hsrc : srcA s.o sz (ev s.t y) = some (n, ncells)) (hone : ncells.all AV.one = true)
    (hL : len + n ≤ L sz) (hby : (len + n) * bytes ≤ 140737488355328) (h63 : len + n ≤ 9223372036854775807) {K : AS → Prop}
    (hK : ∀ b', (∀ q cs, O (dropO s.o [b]) q = some cs → q ≠ b') → K ⟨s.n, put (killL s.t (kills s.t [y])) o.dst (.arr b' 0 (len + n) sz), (b', some (cells ++ ncells)) :: dropO s.o [b]⟩) : OpW L P o s K := by
  subst hc
  obtain ⟨inf, hut, hinf, rfl, rfl⟩ := elm_inv ht
  obtain ⟨inf', z, hinf', hzz, hzl'⟩ := zer_inv hz
  rw [hinf] at hinf'
  cases hinf'
  intro B F0 w0 a w next Q hden hnext
  obtain ⟨F, own, fp, fs, h⟩ := hden
  have hr := h.ev x
  rw [hx] at hr
  simp only [Rep] at hr
  obtain ⟨_, cap, hv, hlc, hlL, hblk⟩ := hr
  obtain ⟨hkey, hfsn, hfso, c, Ty, vals, rest, hc, hcl, hrep⟩ := h.obj b cells hO
  obtain ⟨news, f, hS, hnl, hnr, hfn, hfk⟩ := src_of h hsrc hu
  have hvl := hrep.len
  have hbB := h.ol b (by rw [hkey]; simp)
  have hcapc : cap * inf.size ≤ c.size := by
    obtain ⟨c', Ty', hc', hle⟩ := hblk
    rw [hc] at hc'; cases hc'; omega
  have hfnd : (fs b ++ f).Nodup := by
    rw [List.nodup_append]
    refine ⟨hfsn, hfn, fun k hk k' hk' e => ?_⟩
    subst e
    obtain ⟨i, _, hi⟩ := hfk k hk'
    have e1 := h.so i k hi
    rw [hfso k hk] at e1; cases e1
  have hfn' : ∀ k, k ∈ fs b ++ f → (∃ i, i ∈ kills s.t [y] ∧ k ∈ fp i) ∨ (∃ b', b' ∈ [b] ∧ own k = .obj b') := by
    intro k hk
    rcases List.mem_append.1 hk with hk | hk
    · exact .inr ⟨b, by simp, hfso k hk⟩
    · exact .inl (hfk k hk)
  have hFS : ∀ b', F b' → F b' ∧ (b' < w.heap.size ∧ b' ∉ [b]) := fun b' hb' => ⟨hb', (h.fl b' hb').2.1, fun hd' => by
    have e0 : b' = b := by simpa using hd'
    have e1 := (h.fl b' hb').1; rw [e0, hkey] at e1; cases e1⟩
  have hSk : ∀ k, k ∈ fs b ++ f → k < w.heap.size ∧ k ∉ [b] := by
    intro k hk
    have hne : own k ≠ .none ∧ own k ≠ .key := by
      rcases hfn' k hk with ⟨i, _, hi⟩ | ⟨b', _, e⟩
      · rw [h.so i k hi]; simp
      · rw [e]; simp
    refine ⟨(h.ol k hne.1).2, fun hd' => ?_⟩
    have e0 : k = b := by simpa using hd'
    rw [e0] at hne
    exact hne.2 hkey
  unfold Oper.wp
  by_cases hroom : len + n ≤ cap
  · have h2 : len * inf.size + news.length ≤ c.size := by
      rw [hnl, ← Nat.add_mul]; exact Nat.le_trans (Nat.mul_le_mul_right _ hroom) hcapc
    have hrun := app_room (tyr := o.type) hut hinf hS b len cap c Ty hc (hnr.ones hone) hroom h2
    have hex : (execOp a.eval o).run P w = .ok (.value (.slice (some ⟨b, 0, none⟩) (len + n) cap)) (w.setRow b (c.toList.take (len * inf.size) ++ news ++ c.toList.drop (len * inf.size + news.length)).toArray) := by
      simp only [execOp, ho, resolve, invoke, builtin, Sem.run_bind, Sem.run_pure, Result.andThen_ok, List.map_toArray, List.map_cons, List.map_nil, hv, hrun]
    rw [hex]
    have htk : c.toList.take (len * inf.size) = vals := by
      rw [hcl, ← hlen, ← hvl, List.take_left]
    have hsz : (c.toList.take (len * inf.size) ++ news ++ c.toList.drop (len * inf.size + news.length)).toArray.size = c.size := by
      have : c.toList.length = c.size := by simp
      simp only [List.size_toArray, List.length_append, List.length_take, List.length_drop, this]; omega
    have hext := Ext.setRow w b _ c Ty _ hc hsz
    refine hnext _ _ _ (hK b fun q cs hq e => by (subst e; rw [O_drop] at hq; simp at hq)) ?_
    refine h.renew (kills s.t [y]) [b] b (cells ++ ncells) (fs b ++ f) o.dst hd ⟨rfl, rfl, rfl⟩ hext (by simpa using hkey) (.inl (by simp)) ?_ hfnd hfn' ?_
    · refine ⟨_, Ty, vals ++ news, c.toList.drop (len * inf.size + news.length), heap_setRow_same w b _ c Ty _ hc, by rw [htk], ?_⟩
      exact RepL.join (RepL.ext hext hFS (fun k hk => hSk k (by simp [hk])) hrep) (RepL.ext hext hFS (fun k hk => hSk k (by simp [hk])) hnr)
    · simp only [Rep]
      exact ⟨trivial, cap, rfl, hroom, hL, hblk.ext hext⟩
  · have hrun := app_grow (tyr := o.type) hut hinf hzz hS ⟨b, 0, none⟩ len cap vals (by rw [hvl, hlen]) (fun j v hj => by
      have hrow : RowAt w b 0 vals := ⟨c, Ty, _, hc, fun i hi => by rw [Nat.zero_add, ← Array.getElem?_toList, hcl, List.getElem?_append_left hi]⟩
      rw [add_mk]; exact hrow.cell hj) (by omega) h63 hby
    have hex : (execOp a.eval o).run P w = .ok (.value (.slice (some ⟨w.heap.size, 0, none⟩) (len + n) (grownCap w (len + n) cap e)))
        (w.drew.alloc (.cells (vals.toArray ++ news.toArray ++ Builtin.zeroCells z.cells (grownCap w (len + n) cap e - (len + n))) e)) := by
      simp only [execOp, ho, resolve, invoke, builtin, Sem.run_bind, Sem.run_pure, Result.andThen_ok, List.map_toArray, List.map_cons, List.map_nil, hv, hrun]
    rw [hex]
    refine hnext _ _ _ (hK w.heap.size fun q cs hq e => by
      rw [O_drop] at hq
      split at hq
      · cases hq
      · have := (h.ol q (by rw [(h.obj q cs hq).1]; simp)).2
        omega) ?_
    have hext := Ext.drewAlloc w (.cells (vals.toArray ++ news.toArray ++ Builtin.zeroCells z.cells (grownCap w (len + n) cap e - (len + n))) e) [b]
    have hge := grownCap_ge w (len + n) cap e
    have hzsz : z.cells.size = inf.size := by rw [← hzl, ← hzl']; simp
    refine h.renew (kills s.t [y]) [b] w.heap.size (cells ++ ncells) (fs b ++ f) o.dst hd ⟨rfl, rfl, rfl⟩ hext (by simpa using hkey) (.inr ⟨Nat.le_refl _, by simp⟩) ?_ hfnd hfn' ?_
    · refine ⟨_, e, vals ++ news, (Builtin.zeroCells z.cells (grownCap w (len + n) cap e - (len + n))).toList, alloc_at w.drew _, by simp, ?_⟩
      exact RepL.join (RepL.ext hext hFS (fun k hk => hSk k (by simp [hk])) hrep) (RepL.ext hext hFS (fun k hk => hSk k (by simp [hk])) hnr)
    · simp only [Rep]
      refine ⟨trivial, _, rfl, hge, hL, _, e, alloc_at w.drew _, ?_⟩
      simp only [Array.size_append, List.size_toArray, size_zeroCells, hzsz, hvl, hlen, hnl, Nat.zero_add]
      rw [← Nat.add_mul, ← Nat.add_mul]
      exact Nat.mul_le_mul_right _ (by omega)

theorem opw_append_nil {c : Call} {x y : Operand} {t u e : TypeId} {sz bytes n : Nat} {ncells : List AV} {zs : List Value} (ho : o.op = .call c) (hc : c = ⟨.builtin .append, #[x, y], #[t, u]⟩)
    (hd : dstOK s.n o.dst = true) (hx : ev s.t x = .v (.slice none 0 0)) (ht : elm P t = some (e, sz, bytes)) (hz : zer P e = some zs) (hzl : zs.length = sz)
    (hu : (∃ e', P.underlying u = some (.slice e')) ∨ P.underlying u = some .string) (hsrc : srcA s.o sz (ev s.t y) = some (n, ncells)) (h0 : 0 < n)
    (hL : n ≤ L sz) (hby : n * bytes ≤ 140737488355328) (h63 : n ≤ 9223372036854775807) {K : AS → Prop}
    (hK : ∀ b', (∀ q cs, O s.o q = some cs → q ≠ b') → K ⟨s.n, put (killL s.t (kills s.t [y])) o.dst (.arr b' 0 n sz), (b', some ncells) :: s.o⟩) : OpW L P o s K := by
  subst hc
  obtain ⟨inf, hut, hinf, rfl, rfl⟩ := elm_inv ht
  obtain ⟨inf', z, hinf', hzz, hzl'⟩ := zer_inv hz
  rw [hinf] at hinf'
  cases hinf'
  intro B F0 w0 a w next Q hden hnext
  obtain ⟨F, own, fp, fs, h⟩ := hden
  have hv := h.val hx
  obtain ⟨news, f, hS, hnl, hnr, hfn, hfk⟩ := src_of h hsrc hu
  unfold Oper.wp
  have hrun := app_nil (tyr := o.type) hut hinf hzz hS h0 h63 hby
  have hex : (execOp a.eval o).run P w = .ok (.value (.slice (some ⟨w.heap.size, 0, none⟩) n (grownCap w n 0 e)))
      (w.drew.alloc (.cells (news.toArray ++ Builtin.zeroCells z.cells (grownCap w n 0 e - n)) e)) := by
    simp only [execOp, ho, resolve, invoke, builtin, Sem.run_bind, Sem.run_pure, Result.andThen_ok, List.map_toArray, List.map_cons, List.map_nil, hv, hrun]
  rw [hex]
  refine hnext _ _ _ (hK w.heap.size fun q cs hq e => by
    have := (h.ol q (by rw [(h.obj q cs hq).1]; simp)).2
    omega) ?_
  have hext := Ext.drewAlloc w (.cells (news.toArray ++ Builtin.zeroCells z.cells (grownCap w n 0 e - n)) e) []
  have hge := grownCap_ge w n 0 e
  have hzsz : z.cells.size = inf.size := by rw [← hzl, ← hzl']; simp
  have hFS : ∀ b', F b' → F b' ∧ (b' < w.heap.size ∧ b' ∉ ([] : List Nat)) := fun b' hb' => ⟨hb', (h.fl b' hb').2.1, by simp⟩
  refine h.renew (kills s.t [y]) [] w.heap.size ncells f o.dst hd ⟨rfl, rfl, rfl⟩ hext (by simp) (.inr ⟨Nat.le_refl _, by simp⟩) ?_ hfn (fun k hk => .inl (hfk k hk)) ?_
  · refine ⟨_, e, news, (Builtin.zeroCells z.cells (grownCap w n 0 e - n)).toList, alloc_at w.drew _, by simp, ?_⟩
    exact RepL.ext hext hFS (fun k hk => ⟨by obtain ⟨i, _, hi⟩ := hfk k hk; exact (h.fp_lt hi).2, by simp⟩) hnr
  · simp only [Rep]
    refine ⟨trivial, _, rfl, hge, hL, _, e, alloc_at w.drew _, ?_⟩
    simp only [Array.size_append, List.size_toArray, size_zeroCells, hzsz, hnl, Nat.zero_add]
    rw [← Nat.add_mul]
    exact Nat.mul_le_mul_right _ (by omega)

theorem RepL.splice {F : Nat → Prop} {w : World} {l m : List AV} {vs us : List Value} {f g : List Nat} (r : RepL L F w l vs f) (q : RepL L F w m us g) (off n : Nat) (hn : m.length = n) (hle : off + n ≤ l.length) :
    ∃ f', RepL L F w (l.take off ++ m ++ l.drop (off + n)) (vs.take off ++ us ++ vs.drop (off + n)) f' ∧ ((f ++ g).Nodup → f'.Nodup) ∧ ∀ b, b ∈ f' → b ∈ f ∨ b ∈ g := by
  have hl := r.len
  have e1 : l = l.take off ++ ((l.drop off).take n ++ l.drop (off + n)) := by
    rw [← List.drop_drop, List.take_append_drop, List.take_append_drop]
  rw [e1] at r
  obtain ⟨v1, v23, f1, f23, rfl, rfl, r1, r23⟩ := r.split
  obtain ⟨v2, v3, f2, f3, rfl, rfl, r2, r3⟩ := r23.split
  have h1 := r1.len
  have h2 := r2.len
  simp only [List.length_take, List.length_drop] at h1 h2
  have hv1 : v1.length = off := by omega
  have hv2 : v2.length = n := by omega
  have e2 : (v1 ++ (v2 ++ v3)).take off = v1 := by rw [← hv1, List.take_left]
  have e3 : (v1 ++ (v2 ++ v3)).drop (off + n) = v3 := by
    rw [← List.append_assoc, ← hv1, ← hv2, ← List.length_append, List.drop_left]
  rw [e2, e3]
  refine ⟨f1 ++ g ++ f3, (r1.join q).join r3, fun hnd => ?_, fun b hb => ?_⟩
  · have hsub : (f1 ++ f3 ++ g).Sublist (f1 ++ (f2 ++ f3) ++ g) := (List.Sublist.append (List.Sublist.append (List.Sublist.refl _) (List.sublist_append_right _ _)) (List.Sublist.refl _))
    have h3 := hsub.nodup hnd
    have hp : (f1 ++ g ++ f3).Perm (f1 ++ f3 ++ g) := by
      rw [List.append_assoc, List.append_assoc]
      exact List.Perm.append_left _ List.perm_append_comm
    exact hp.nodup_iff.2 h3
  · simp only [List.mem_append] at hb ⊢
    rcases hb with (hb | hb) | hb
    · exact .inl (.inl hb)
    · exact .inr hb
    · exact .inl (.inr (.inr hb))

theorem opw_store {t : TypeId} {ad x : Operand} {b off n : Nat} {g : Bool} {cells : List AV} (ho : o.op = .store t ad x) (hd : o.dst = none) (ha : ev s.t ad = .ptr b off) (hO : O s.o b = some cells)
    (ht : ty P t = some (g, n)) (hx : (ev s.t x).elem n = true) (hone : (ev s.t x).cells.all AV.one = true) (hle : off + n ≤ cells.length) {K : AS → Prop}
    (hK : K ⟨s.n, killL s.t (kills s.t [x]), (b, some (cells.take off ++ (ev s.t x).cells ++ cells.drop (off + n))) :: dropO s.o [b]⟩) : OpW L P o s K := by
  intro B F0 w0 a w next Q hden hnext
  obtain ⟨F, own, fp, fs, h⟩ := hden
  have hr := h.ev ad
  rw [ha] at hr
  simp only [Rep] at hr
  have hrx := h.ev x
  obtain ⟨hxl, hxs⟩ := cells_rep hx hrx
  obtain ⟨hkey, hfsn, hfso, c, Ty, vals, rest, hc, hcl, hrep⟩ := h.obj b cells hO
  have hvl := hrep.len
  have hbB := h.ol b (by rw [hkey]; simp)
  obtain ⟨hag, hszr⟩ := ty_run ht w
  have hclen : c.size = vals.length + rest.length := by rw [← Array.length_toList, hcl]; simp
  have hst := run_storeCells_at P b off Ty (a.eval x).cells.toList 0 c w hc (by simp only [Nat.add_zero, Array.length_toList, hxs]; omega) (hxl.ones hone)
  simp only [Nat.add_zero] at hst
  have hln : (a.eval x).cells.toList.length = n := by simp [hxs]
  rw [hln] at hst
  have hex : (execOp a.eval o).run P w = .ok .skip (w.setRow b (c.toList.take off ++ (a.eval x).cells.toList ++ c.toList.drop (off + n)).toArray) := by
    simp [execOp, ho, Instr.storeAt, hr.1, Instr.sureAddr, storeVar, hszr, hxs, hst]
  unfold Oper.wp
  rw [hex]
  have hfnd : (fs b ++ fpo fp x).Nodup := by
    rw [List.nodup_append]
    refine ⟨hfsn, fpo_nodup h x, fun k hk k' hk' e => ?_⟩
    subst e
    obtain ⟨i, _, hi⟩ := fpo_kills h (xs := [x]) (by simp) k hk'
    have e1 := h.so i k hi
    rw [hfso k hk] at e1; cases e1
  obtain ⟨f', hf', hnd, hmem⟩ := hrep.splice hxl off n (by rw [← hxl.len, hln]) hle
  have hsz : (c.toList.take off ++ (a.eval x).cells.toList ++ c.toList.drop (off + n)).toArray.size = c.size := by
    have : c.toList.length = c.size := by simp
    simp only [List.size_toArray, List.length_append, List.length_take, List.length_drop, this, hln]; omega
  have hext := Ext.setRow w b _ c Ty _ hc hsz
  have hFS : ∀ b', F b' → F b' ∧ (b' < w.heap.size ∧ b' ∉ [b]) := fun b' hb' => ⟨hb', (h.fl b' hb').2.1, fun hd' => by
    have e0 : b' = b := by simpa using hd'
    have e1 := (h.fl b' hb').1; rw [e0, hkey] at e1; cases e1⟩
  have hfn' : ∀ k, k ∈ f' → (∃ i, i ∈ kills s.t [x] ∧ k ∈ fp i) ∨ (∃ b', b' ∈ [b] ∧ own k = .obj b') := by
    intro k hk
    rcases hmem k hk with hk | hk
    · exact .inr ⟨b, by simp, hfso k hk⟩
    · exact .inl (fpo_kills h (by simp) k hk)
  have hSk : ∀ k, k ∈ f' → k < w.heap.size ∧ k ∉ [b] := by
    intro k hk
    have hne : own k ≠ .none ∧ own k ≠ .key := by
      rcases hfn' k hk with ⟨i, _, hi⟩ | ⟨b', _, e⟩
      · rw [h.so i k hi]; simp
      · rw [e]; simp
    refine ⟨(h.ol k hne.1).2, fun hd' => ?_⟩
    have e0 : k = b := by simpa using hd'
    rw [e0] at hne
    exact hne.2 hkey
  have := h.renew (w' := w.setRow b (c.toList.take off ++ (a.eval x).cells.toList ++ c.toList.drop (off + n)).toArray) (x := .dead) (v := undef) (kills s.t [x]) [b] b _ f' o.dst (by rw [hd]; rfl) ⟨rfl, rfl, rfl⟩ hext (by simpa using hkey) (.inl (by simp))
    ⟨_, Ty, _, rest.drop 0, heap_setRow_same w b _ c Ty _ hc, by
      simp only [List.drop_zero]
      rw [hcl, List.take_append_of_le_length (by omega), List.drop_append_of_le_length (by omega)]
      simp only [List.append_assoc], RepL.ext hext hFS hSk hf'⟩ (hnd hfnd) hfn' (by simp [Rep])
  rw [hd] at this
  exact hnext _ _ _ hK (by rw [hd]; exact this)
end ops
end Go.Ab
