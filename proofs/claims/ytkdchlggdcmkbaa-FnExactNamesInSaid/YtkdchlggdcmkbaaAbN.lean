/-
  The logic's steps: parts taken out of objects and tuples.
-/
import Derived.Test.YtkdchlggdcmkbaaAbRes
set_option linter.unusedSimpArgs false
set_option linter.unusedVariables false
namespace Go.Ab
open Go.RowKit (Below)

section
variable {L : Nat → Nat} {P : Program} {o : Oper} {s : AS} {K : AS → Prop}
theorem OpW.imp (h : Imp L s (fun s' => OpW L P o s' K)) : OpW L P o s K := by
  intro B F0 w0 a w next Q hd hn
  obtain ⟨s', h1, h2⟩ := h B F0 w0 a w hd
  exact h1 B F0 w0 a w next Q h2 hn

theorem OpW.post (h : OpW L P o s (fun s' => Imp L s' K)) : OpW L P o s K := by
  intro B F0 w0 a w next Q hd hn
  refine h B F0 w0 a w next Q hd fun s' a' w' h1 h2 => ?_
  obtain ⟨s2, h3, h4⟩ := h1 B F0 w0 a' w' h2
  exact hn s2 a' w' h3 h4

theorem OpW.mono {K' : AS → Prop} (h : OpW L P o s K) (hk : ∀ s, K s → K' s) : OpW L P o s K' :=
  fun B F0 w0 a w next Q hd hn => h B F0 w0 a w next Q hd fun s' a' w' h1 h2 => hn s' a' w' (hk _ h1) h2
end

section
variable {L : Nat → Nat} {n : Nat} {t : List (Nat × AV)} {o : Sto} {Q : AS → Prop}

theorem Imp.weak {t' : List (Nat × AV)} {o' : Sto} (h : Q ⟨n, t', o'⟩) (ht : ∀ i, T t' i = T t i ∨ T t' i = .dead) (ho : ∀ b cells, O o' b = some cells → O o b = some cells) : Imp L ⟨n, t, o⟩ Q :=
  fun _ _ _ _ _ hd => ⟨_, h, hd.weaken rfl ht ho⟩

/-- an owned slice in a slot, as an object, or nil -/
theorem Imp.unfold2 (i : Nat) {sz : Nat} {l : List AV} (hT : T t i = .sl true sz l) (hel : ∀ x, x ∈ l → x.elem sz = true)
    (h : ∀ b, Fresh o b → Q ⟨n, (i, .arr b 0 l.length sz) :: t, (b, some (l.flatMap AV.cells)) :: o⟩)
    (hnil : l = [] → Q ⟨n, (i, .v (.slice none 0 0)) :: t, o⟩) : Imp L ⟨n, t, o⟩ Q := by
  intro B F0 w0 a w hd
  obtain ⟨F, own, fp, fs, hd⟩ := hd
  have hr := hd.slots i
  simp only at hr
  rw [hT] at hr
  simp only [Rep] at hr
  rcases hr with ⟨e1 | ⟨e0, _⟩, e, e3⟩ | ⟨b, off, cap, vals, fp', hy, h1, h2, hrow, he, ho⟩
  · refine ⟨_, hnil e, F, own, fp, fs, { hd with slots := ?_ }⟩
    intro j
    rw [T_cons]
    by_cases ej : i = j
    · subst ej
      simp only [if_true, Rep]
      exact ⟨e1, e3⟩
    · simp only [if_neg ej]; exact hd.slots j
  · cases e0
  obtain ⟨hfp, rfl, hblk⟩ : fp i = b :: fp' ∧ off = 0 ∧ OwnBlk w b (off + cap * sz) := by
    rcases ho with ⟨_, h⟩ | ⟨e, _⟩
    · exact h
    · cases e
  have hsb : own b = .slot i := hd.so i b (by rw [hfp]; simp)
  have hnd := hd.sn i
  rw [hfp, List.nodup_cons] at hnd
  have hfr : Fresh o b := by
    intro b' cells hO e
    have := (hd.obj b' cells hO).1
    rw [e, hsb] at this; cases this
  refine ⟨_, h b hfr, ?_⟩
  obtain ⟨c, Ty, rest, hc, hcl⟩ := row_list hrow hblk
  classical
  let own' : Nat → Own := fun k => if k = b then .key else if k ∈ fp' then .obj b else own k
  have hnot : ∀ k, own k ≠ .slot i → own' k = own k := fun k hk => by
    have n1 : k ≠ b := fun e => hk (by rw [e]; exact hsb)
    have n2 : k ∉ fp' := fun hm => hk (hd.so i k (by rw [hfp]; simp [hm]))
    simp only [own', if_neg n1, if_neg n2]
  refine ⟨F, own', fun j => if j = i then [] else fp j, fun k => if k = b then fp' else fs k, { below := hd.below, hB := hd.hB, f0 := hd.f0, fl := ?_, ol := ?_, defers := hd.defers, size := hd.size, slots := ?_, sn := ?_, so := ?_, obj := ?_ }⟩
  · intro k hk
    have := hd.fl k hk
    exact ⟨by rw [hnot k (by rw [this.1]; simp)]; exact this.1, this.2⟩
  · intro k hk
    by_cases e1 : k = b
    · subst e1; exact hd.ol k (by rw [hsb]; simp)
    · by_cases e2 : k ∈ fp'
      · exact hd.fp_lt (i := i) (by rw [hfp]; simp [e2])
      · simp only [own', if_neg e1, if_neg e2] at hk; exact hd.ol k hk
  · intro j
    rw [T_cons]
    by_cases e : i = j
    · subst e
      simp only [if_true, Rep]
      exact ⟨trivial, cap, hy, h1, h2, hblk⟩
    · have e' : ¬ j = i := fun h => e h.symm
      simp only [if_neg e, if_neg e']; exact hd.slots j
  · intro j
    split
    · simp
    · exact hd.sn j
  · intro j k hk
    split at hk
    · simp at hk
    · rename_i e
      have := hd.so j k hk
      rw [hnot k (by rw [this]; simpa using e)]; exact this
  · intro q cells hO
    simp only [O] at hO
    by_cases e : b = q
    · subst e
      rw [if_pos rfl] at hO; cases hO
      refine ⟨by simp [own'], by simpa using hnd.2, fun k hk => ?_, c, Ty, vals, rest, hc, hcl, by simpa using RepE.flat hel he⟩
      simp only [if_true] at hk
      have n1 : k ≠ b := fun e => hnd.1 (by rw [← e]; exact hk)
      simp only [own', if_neg n1, if_pos hk]
    · rw [if_neg e] at hO
      have e' : ¬ q = b := fun h => e h.symm
      obtain ⟨g1, g2, g3, g4⟩ := hd.obj q cells hO
      simp only [if_neg e']
      exact ⟨by rw [hnot q (by rw [g1]; simp)]; exact g1, g2, fun k hk => by rw [hnot k (by rw [g3 k hk]; simp)]; exact g3 k hk, g4⟩

end

section
variable {L : Nat → Nat} {F : Nat → Prop} {w : World}
/-- a part taken out of a row -/
theorem RepL.hole {l : List AV} {vs : List Value} {fp : List Nat} (r : RepL L F w l vs fp) (i n : Nat) (hle : i + n ≤ l.length) :
    ∃ f1 fx f3, fp = f1 ++ (fx ++ f3) ∧ RepL L F w ((l.drop i).take n) ((vs.drop i).take n) fx ∧ RepL L F w (l.take i ++ List.replicate n .dead ++ l.drop (i + n)) vs (f1 ++ f3) := by
  have hl := r.len
  have e1 : l = l.take i ++ ((l.drop i).take n ++ l.drop (i + n)) := by
    rw [← List.drop_drop, List.take_append_drop, List.take_append_drop]
  have r0 := r
  rw [e1] at r
  obtain ⟨v1, v23, f1, f23, rfl, rfl, r1, r23⟩ := r.split
  obtain ⟨v2, v3, f2, f3, rfl, rfl, r2, r3⟩ := r23.split
  have h1 := r1.len
  have h2 := r2.len
  simp only [List.length_take, List.length_drop] at h1 h2
  have hv1 : v1.length = i := by omega
  have hv2 : v2.length = n := by omega
  have e2 : ((v1 ++ (v2 ++ v3)).drop i).take n = v2 := by
    rw [← hv1, List.drop_left, ← hv2, List.take_left]
  refine ⟨f1, f2, f3, rfl, by rw [e2]; exact r2, ?_⟩
  have hd := RepL.deads (L := L) (F := F) (w := w) v2
  rw [hv2] at hd
  have := (r1.join hd).join r3
  simpa using this
end

section
variable {L : Nat → Nat} {P : Program} {s : AS} {o : Oper}

/-- a load that takes over what an object's cells hold -/
theorem opw_takeD {t : TypeId} {x : Operand} {n b off : Nat} {g : Bool} {cells : List AV} {y : AV} (ho : o.op = .load t x) (hd : dstOK s.n o.dst = true) (hx : ev s.t x = .ptr b off)
    (hb : O s.o b = some cells) (ht : ty P t = some (g, n)) (hy : val g n (cells.drop off) = some y) (hn1 : g = false → n = 1) (hle : off + n ≤ cells.length) {K : AS → Prop} (hK : K ⟨s.n, put s.t o.dst y, (b, some (cells.take off ++ List.replicate n .dead ++ cells.drop (off + n))) :: s.o⟩) : OpW L P o s K := by
  intro B F0 w0 a w next Q hden hnext
  obtain ⟨F, own, fp, fs, h⟩ := hden
  have hr := h.ev x
  rw [hx] at hr
  simp only [Rep] at hr
  obtain ⟨hkey, hfsn, hfso, c, Ty, vals, rest, hc, hcl, hrep⟩ := h.obj b cells hb
  have hrow0 : RowAt w b 0 vals := ⟨c, Ty, _, hc, fun i hi => by rw [Nat.zero_add, ← Array.getElem?_toList, hcl, List.getElem?_append_left hi]⟩
  have hrow : RowAt w b off (vals.drop off) := by
    have := hrow0.cut off vals.length
    rw [List.take_of_length_le (by simp), Nat.zero_add] at this
    exact this
  have hvl := hrep.len
  obtain ⟨l1, l2⟩ := load_run (P := P) ht hrow
  obtain ⟨f1, fx, f3, hfs, hmid, hhole⟩ := hrep.hole off n hle
  obtain ⟨v, hrun, hrepv⟩ : ∃ v, (loadVar t ⟨b, off, none⟩).run P w = .ok v w ∧ Rep L F w y v fx := by
    unfold val at hy
    cases g with
    | true =>
      cases hn : Nat.ble n (cells.drop off).length with
      | false => simp only [cond_true, hn, cond_false] at hy; cases hy
      | true =>
        simp only [cond_true, hn] at hy
        cases hy
        exact ⟨_, l1 rfl (by simp only [List.length_drop]; omega), by simp only [Rep]; exact ⟨_, rfl, hmid⟩⟩
    | false =>
      simp at hy
      have hn := hn1 rfl
      subst hn
      have hlt : off < cells.length := by omega
      have e1 : (cells.drop off).take 1 = [y] := by
        rw [List.drop_eq_getElem_cons hlt]
        rw [List.getElem?_eq_getElem hlt] at hy
        cases hy; rfl
      rw [e1] at hmid
      simp only [RepL] at hmid
      obtain ⟨y', vs', g1, g2, hv, hfx, hy', rfl, rfl⟩ := hmid
      have hv0 : (vals.drop off)[0]? = some y' := by
        cases hd : vals.drop off with
        | nil => rw [hd] at hv; simp at hv
        | cons z zs => rw [hd] at hv; simp at hv; simp [hv]
      exact ⟨y', l2 rfl y' hv0, by rw [hfx]; simpa using hy'⟩
  have hex : (execOp a.eval o).run P w = .ok (.value v) w := by
    simp [execOp, ho, hr.1, Instr.loadAt, Instr.sureAddr, hrun]
  unfold Oper.wp
  rw [hex]
  refine hnext _ _ _ hK ?_
  have hnd := hfsn
  rw [hfs, List.nodup_append] at hnd
  obtain ⟨hn1', hn2', hn3'⟩ := hnd
  rw [List.nodup_append] at hn2'
  obtain ⟨hnx, hn4, hn5⟩ := hn2'
  have h6 : ∀ k, k ∈ fx → own k = .obj b := fun k hk => hfso k (by rw [hfs]; simp [hk])
  classical
  let own' : Nat → Own := fun k => if k ∈ fx then (match o.dst with | some d => .slot d | none => .none) else own k
  have hnot : ∀ k, own k ≠ .obj b → own' k = own k := fun k hk => by
    have : k ∉ fx := fun hm => hk (h6 k hm)
    simp only [own', if_neg this]
  refine ⟨F, own', fun i => if o.dst = some i then fx else fp i, fun q => if q = b then f1 ++ f3 else fs q, { below := h.below, hB := h.hB, f0 := h.f0, fl := ?_, ol := ?_, defers := ?_, size := ?_, slots := ?_, sn := ?_, so := ?_, obj := ?_ }⟩
  · intro k hk
    have e := h.fl k hk
    exact ⟨by rw [hnot k (by rw [e.1]; simp)]; exact e.1, e.2⟩
  · intro k hk
    by_cases n1 : k ∈ fx
    · exact h.ol k (by rw [h6 k n1]; simp)
    · simp only [own', if_neg n1] at hk; exact h.ol k hk
  · have := h.defers; cases o.dst <;> simpa [Act.put] using this
  · have := h.size; cases o.dst <;> simpa [Act.put] using this
  · intro i
    simp only [T_put]
    rw [getD_put a o.dst v i (by rw [h.size]; exact hd)]
    by_cases e : o.dst = some i
    · simp only [e, if_true]; exact hrepv
    · simp only [if_neg e]; exact h.slots i
  · intro i
    split
    · exact hnx
    · exact h.sn i
  · intro i k hk
    by_cases e : o.dst = some i
    · simp only [e, if_true] at hk
      simp only [own', if_pos hk, e]
    · rw [if_neg e] at hk
      have := h.so i k hk
      rw [hnot k (by rw [this]; simp)]; exact this
  · intro q cs hO
    simp only [O] at hO
    by_cases e : b = q
    · subst e
      rw [if_pos rfl] at hO; cases hO
      simp only [if_true]
      refine ⟨by rw [hnot b (by rw [hkey]; simp)]; exact hkey, ?_, fun k hk => ?_, c, Ty, vals, rest, hc, hcl, hhole⟩
      · rw [List.nodup_append]
        exact ⟨hn1', hn4, fun a ha b hb => hn3' a ha b (by simp [hb])⟩
      · have hk' : k ∈ fs b := by rw [hfs]; rcases List.mem_append.1 hk with h | h <;> simp [h]
        have : k ∉ fx := fun hm => by
          rcases List.mem_append.1 hk with h | h
          · exact hn3' k h k (by simp [hm]) rfl
          · exact hn5 k hm k h rfl
        simp only [own', if_neg this]; exact hfso k hk'
    · rw [if_neg e] at hO
      have e' : ¬ q = b := fun h => e h.symm
      obtain ⟨g1, g2, g3, g4⟩ := h.obj q cs hO
      simp only [if_neg e']
      exact ⟨by rw [hnot q (by rw [g1]; simp)]; exact g1, g2, fun k hk => by rw [hnot k (by rw [g3 k hk]; simpa using e')]; exact g3 k hk, g4⟩

/-- a part of a tuple that owns something is taken out of it -/
theorem opw_extractD {i k : Nat} {l : List AV} {y : AV} (ho : o.op = .extract (.tmp i) k) (hd : dstOK s.n o.dst = true) (hx : T s.t i = .tup l) (hy : l[k]? = some y) {K : AS → Prop}
    (hK : K ⟨s.n, put ((i, .tup (l.set k .dead)) :: s.t) o.dst y, s.o⟩) : OpW L P o s K := by
  intro B F0 w0 a w next Q hden hnext
  obtain ⟨F, own, fp, fs, h⟩ := hden
  have hr := h.slots i
  rw [hx] at hr
  simp only [Rep] at hr
  obtain ⟨vs, hv, hl⟩ := hr
  obtain ⟨v, f1, fx, f2, hvk, hfp, hrv, hset⟩ := hl.put hy
  have hset' := hset .dead [] (by simp [Rep])
  rw [List.nil_append] at hset'
  have hex : (execOp a.eval o).run P w = .ok (.value v) w := by
    have hv' : a.tmps[i]?.getD undef = .tuple vs.toArray := by rw [← hv, Array.getD_eq_getD_getElem?]
    simp [execOp, ho, Act.eval, hv', hvk, Instr.extract]
  unfold Oper.wp
  rw [hex]
  refine hnext _ _ _ hK ?_
  have hnd := h.sn i
  rw [hfp, List.nodup_append] at hnd
  obtain ⟨hn1, hn2, hn3⟩ := hnd
  rw [List.nodup_append] at hn2
  obtain ⟨hnx, hn4, hn5⟩ := hn2
  have h6 : ∀ k, k ∈ fx → own k = .slot i := fun k hk => h.so i k (by rw [hfp]; simp [hk])
  classical
  let own' : Nat → Own := fun k => if k ∈ fx then (match o.dst with | some d => .slot d | none => .none) else own k
  have hnot : ∀ k, own k ≠ .slot i → own' k = own k := fun k hk => by
    have : k ∉ fx := fun hm => hk (h6 k hm)
    simp only [own', if_neg this]
  refine ⟨F, own', fun j => if o.dst = some j then fx else if j = i then f1 ++ f2 else fp j, fs, { below := h.below, hB := h.hB, f0 := h.f0, fl := ?_, ol := ?_, defers := ?_, size := ?_, slots := ?_, sn := ?_, so := ?_, obj := ?_ }⟩
  · intro k hk
    have e := h.fl k hk
    exact ⟨by rw [hnot k (by rw [e.1]; simp)]; exact e.1, e.2⟩
  · intro k hk
    by_cases n1 : k ∈ fx
    · exact h.ol k (by rw [h6 k n1]; simp)
    · simp only [own', if_neg n1] at hk; exact h.ol k hk
  · have := h.defers; cases o.dst <;> simpa [Act.put] using this
  · have := h.size; cases o.dst <;> simpa [Act.put] using this
  · intro j
    simp only [T_put, T_cons]
    rw [getD_put a o.dst v j (by rw [h.size]; exact hd)]
    by_cases e : o.dst = some j
    · simp only [e, if_true]; exact hrv
    · simp only [if_neg e]
      by_cases e2 : i = j
      · subst e2
        simp only [if_true, Rep]
        exact ⟨vs, hv, hset'⟩
      · have e2' : ¬ j = i := fun h => e2 h.symm
        simp only [if_neg e2, if_neg e2']; exact h.slots j
  · intro j
    split
    · exact hnx
    · split
      · rw [List.nodup_append]
        exact ⟨hn1, hn4, fun a ha b hb => hn3 a ha b (by simp [hb])⟩
      · exact h.sn j
  · intro j q hq
    by_cases e : o.dst = some j
    · simp only [e, if_true] at hq
      simp only [own', if_pos hq, e]
    · rw [if_neg e] at hq
      by_cases e2 : j = i
      · subst e2
        rw [if_pos rfl] at hq
        have hq' : q ∈ fp j := by rw [hfp]; rcases List.mem_append.1 hq with h | h <;> simp [h]
        have : q ∉ fx := fun hm => by
          rcases List.mem_append.1 hq with h | h
          · exact hn3 q h q (by simp [hm]) rfl
          · exact hn5 q hm q h rfl
        simp only [own', if_neg this]; exact h.so j q hq'
      · rw [if_neg e2] at hq
        have := h.so j q hq
        rw [hnot q (by rw [this]; simpa using e2)]; exact this
  · intro q cs hO
    obtain ⟨g1, g2, g3, g4⟩ := h.obj q cs hO
    exact ⟨by rw [hnot q (by rw [g1]; simp)]; exact g1, g2, fun k hk => by rw [hnot k (by rw [g3 k hk]; simp)]; exact g3 k hk, g4⟩
end
end Go.Ab
