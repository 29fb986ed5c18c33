/-
  The logic: owned values seen as objects, and back.
-/
import Derived.Test.YtkdchlggdcmkbaaAbFx
set_option linter.unusedSimpArgs false
set_option linter.unusedVariables false
namespace Go.Ab
open Go.RowKit (Below)

abbrev Sto := List (Nat × Option (List AV))

theorem T_cons (t : List (Nat × AV)) (i : Nat) (x : AV) (j : Nat) : T ((i, x) :: t) j = if i = j then x else T t j := by
  by_cases h : i = j
  · simp [T, h]
  · have : (i == j) = false := by simpa using h
    simp [T, h, this]

section
variable {L : Nat → Nat} {F : Nat → Prop} {w : World}

/-- one of a list replaced -/
theorem RepL.put : ∀ {l : List AV} {vs : List Value} {fp : List Nat} {k : Nat} {x : AV}, RepL L F w l vs fp → l[k]? = some x →
    ∃ y f1 fx f2, vs[k]? = some y ∧ fp = f1 ++ (fx ++ f2) ∧ Rep L F w x y fx ∧ ∀ x' fx', Rep L F w x' y fx' → RepL L F w (l.set k x') vs (f1 ++ (fx' ++ f2))
  | [], _, _, _, _, _, h => by simp at h
  | z :: l, vs, fp, 0, x, r, h => by
    simp at h; subst h
    simp only [RepL] at r
    obtain ⟨y, vs', f1, f2, rfl, rfl, hx, hxs⟩ := r
    exact ⟨y, [], f1, f2, by simp, by simp, hx, fun x' fx' h' => by simp only [List.set_cons_zero, RepL]; exact ⟨y, vs', fx', f2, rfl, by simp, h', hxs⟩⟩
  | z :: l, vs, fp, k + 1, x, r, h => by
    simp only [RepL] at r
    obtain ⟨y, vs', f1, f2, rfl, rfl, hx, hxs⟩ := r
    obtain ⟨y', g1, gx, g2, h1, rfl, h2, h3⟩ := RepL.put hxs (k := k) (by simpa using h)
    exact ⟨y', f1 ++ g1, gx, g2, by simpa using h1, by simp, h2, fun x' fx' h' => by simp only [List.set_cons_succ, RepL]; exact ⟨y, vs', f1, g1 ++ (fx' ++ g2), rfl, by simp, hx, h3 x' fx' h'⟩⟩
end

/-- a state that may be seen as another -/
def Imp (L : Nat → Nat) (s : AS) (Q : AS → Prop) : Prop := ∀ B F0 w0 a w, Den L B F0 w0 s a w → ∃ s', Q s' ∧ Den L B F0 w0 s' a w

section
variable {L : Nat → Nat} {P : Program} {s : AS}

theorem AW.imp {c : Code} {Q : Exit → AS → Prop} (h : Imp L s (fun s' => AW L P c s' Q)) : AW L P c s Q := by
  intro B F0 w0 a w hd
  obtain ⟨s', h1, h2⟩ := h B F0 w0 a w hd
  exact h1 B F0 w0 a w h2

theorem OpsW.imp {ops : Array Oper} {l : List Nat} {K : AS → Prop} (h : Imp L s (fun s' => OpsW L P ops l s' K)) : OpsW L P ops l s K := by
  intro B F0 w0 a w Q hd hQ
  obtain ⟨s', h1, h2⟩ := h B F0 w0 a w hd
  exact h1 B F0 w0 a w Q h2 hQ

theorem Imp.id {Q : AS → Prop} (h : Q s) : Imp L s Q := fun _ _ _ _ _ hd => ⟨s, h, hd⟩
theorem Imp.mono {Q R : AS → Prop} (h : Imp L s Q) (hq : ∀ s, Q s → R s) : Imp L s R := fun B F0 w0 a w hd => by
  obtain ⟨s', h1, h2⟩ := h B F0 w0 a w hd
  exact ⟨s', hq _ h1, h2⟩
theorem Imp.bind {Q R : AS → Prop} (h : Imp L s Q) (hq : ∀ s, Q s → Imp L s R) : Imp L s R := fun B F0 w0 a w hd => by
  obtain ⟨s', h1, h2⟩ := h B F0 w0 a w hd
  exact hq _ h1 B F0 w0 a w h2
end

section
variable {L : Nat → Nat} {n : Nat} {t : List (Nat × AV)} {o : Sto} {Q : AS → Prop}

/-- what a slot owns is only read from now on -/
theorem Imp.frz (i : Nat) (h : Q ⟨n, (i, (T t i).frz) :: t, o⟩) : Imp L ⟨n, t, o⟩ Q := by
  intro B F0 w0 a w hd
  refine ⟨_, h, ?_⟩
  obtain ⟨F, own, fp, fs, hd⟩ := hd
  classical
  let F' : Nat → Prop := fun b => F b ∨ b ∈ fp i
  let own' : Nat → Own := fun b => if b ∈ fp i then .none else own b
  have hid : Ext (fun _ => True) w w := ⟨Nat.le_refl _, fun _ _ => rfl, fun b c T z hc => ⟨c, hc, rfl⟩⟩
  have hnot : ∀ b, own b ≠ .slot i → own' b = own b := fun b hb => by
    have : b ∉ fp i := fun hm => hb (hd.so i b hm)
    simp only [own', if_neg this]
  refine ⟨F', own', fun j => if j = i then [] else fp j, fs, { below := hd.below, hB := hd.hB, f0 := fun b hb => .inl (hd.f0 b hb), fl := ?_, ol := ?_, defers := hd.defers, size := hd.size, slots := ?_, sn := ?_, so := ?_, obj := ?_ }⟩
  · rintro b (hb | hb)
    · have := hd.fl b hb
      exact ⟨by simp only [own']; split <;> simp [this.1], this.2⟩
    · have := hd.fp_lt hb
      exact ⟨by simp only [own', if_pos hb], this.2, .inr this.1⟩
  · intro b hb
    simp only [own'] at hb
    split at hb
    · exact absurd rfl hb
    · exact hd.ol b hb
  · intro j
    rw [T_cons]
    by_cases e : i = j
    · subst e
      simp only [if_true]
      exact Rep.frz (fun b hb => .inl hb) (fun b hb => .inr hb) (hd.slots i)
    · have e' : ¬ j = i := fun h => e h.symm
      simp only [if_neg e, if_neg e']
      exact Rep.ext hid (fun b hb => ⟨.inl hb, trivial⟩) (fun _ _ => trivial) (hd.slots j)
  · intro j
    split
    · simp
    · exact hd.sn j
  · intro j b hb
    split at hb
    · simp at hb
    · rename_i e
      have := hd.so j b hb
      rw [hnot b (by rw [this]; simpa using e)]; exact this
  · intro b cells hO
    obtain ⟨h1, h2, h3, c, Ty, vals, rest, h4, h5, h6⟩ := hd.obj b cells hO
    refine ⟨by rw [hnot b (by rw [h1]; simp)]; exact h1, h2, fun k hk => by rw [hnot k (by rw [h3 k hk]; simp)]; exact h3 k hk, c, Ty, vals, rest, h4, h5, ?_⟩
    exact RepL.ext hid (fun b hb => ⟨.inl hb, trivial⟩) (fun _ _ => trivial) h6

theorem row_list {w : World} {b : Nat} {vals : List Value} (h : RowAt w b 0 vals) {m : Nat} (ho : OwnBlk w b m) : ∃ c Ty rest, w.heap[b]? = some (.cells c Ty (0, 0)) ∧ c.toList = vals ++ rest := by
  obtain ⟨c, T, z, h1, h2⟩ := h
  obtain ⟨c', T', h3, _⟩ := ho
  rw [h1] at h3
  cases h3
  refine ⟨c, T, c.toList.drop vals.length, h1, ?_⟩
  have : c.toList.take vals.length = vals := by
    apply List.ext_getElem?
    intro i
    rw [List.getElem?_take]
    split
    · rename_i hi
      have := h2 i hi
      rw [Nat.zero_add] at this
      rw [Array.getElem?_toList]; exact this
    · rw [List.getElem?_eq_none (by omega)]
  conv => lhs; rw [← List.take_append_drop vals.length c.toList, this]

/-- an owned slice in a slot, as an object -/
theorem Imp.unfold (i : Nat) {sz : Nat} {l : List AV} (hT : T t i = .sl true sz l) (hl : l ≠ []) (hel : ∀ x, x ∈ l → x.elem sz = true)
    (h : ∀ b, Fresh o b → Q ⟨n, (i, .arr b 0 l.length sz) :: t, (b, some (l.flatMap AV.cells)) :: o⟩) : Imp L ⟨n, t, o⟩ Q := by
  intro B F0 w0 a w hd
  obtain ⟨F, own, fp, fs, hd⟩ := hd
  have hr := hd.slots i
  simp only at hr
  rw [hT] at hr
  simp only [Rep] at hr
  rcases hr with ⟨_, e, _⟩ | ⟨b, off, cap, vals, fp', hy, h1, h2, hrow, he, ho⟩
  · exact absurd e hl
  obtain ⟨hfp, rfl, hblk⟩ : fp i = b :: fp' ∧ off = 0 ∧ OwnBlk w b (off + cap * sz) := by
    rcases ho with ⟨_, h⟩ | ⟨e, _⟩
    · exact h
    · cases e
  have hsb : own b = .slot i := hd.so i b (by rw [hfp]; simp)
  have hnd := hd.sn i
  rw [hfp, List.nodup_cons] at hnd
  have hfr : Fresh o b := by
    intro b' cells hO e
    have := (hd.obj b' cells hO).1
    rw [e, hsb] at this; cases this
  refine ⟨_, h b hfr, ?_⟩
  obtain ⟨c, Ty, rest, hc, hcl⟩ := row_list hrow hblk
  classical
  let own' : Nat → Own := fun k => if k = b then .key else if k ∈ fp' then .obj b else own k
  have hnot : ∀ k, own k ≠ .slot i → own' k = own k := fun k hk => by
    have n1 : k ≠ b := fun e => hk (by rw [e]; exact hsb)
    have n2 : k ∉ fp' := fun hm => hk (hd.so i k (by rw [hfp]; simp [hm]))
    simp only [own', if_neg n1, if_neg n2]
  refine ⟨F, own', fun j => if j = i then [] else fp j, fun k => if k = b then fp' else fs k, { below := hd.below, hB := hd.hB, f0 := hd.f0, fl := ?_, ol := ?_, defers := hd.defers, size := hd.size, slots := ?_, sn := ?_, so := ?_, obj := ?_ }⟩
  · intro k hk
    have := hd.fl k hk
    exact ⟨by rw [hnot k (by rw [this.1]; simp)]; exact this.1, this.2⟩
  · intro k hk
    by_cases e1 : k = b
    · subst e1; exact hd.ol k (by rw [hsb]; simp)
    · by_cases e2 : k ∈ fp'
      · exact hd.fp_lt (i := i) (by rw [hfp]; simp [e2])
      · simp only [own', if_neg e1, if_neg e2] at hk; exact hd.ol k hk
  · intro j
    rw [T_cons]
    by_cases e : i = j
    · subst e
      simp only [if_true, Rep]
      exact ⟨trivial, cap, hy, h1, h2, hblk⟩
    · have e' : ¬ j = i := fun h => e h.symm
      simp only [if_neg e, if_neg e']; exact hd.slots j
  · intro j
    split
    · simp
    · exact hd.sn j
  · intro j k hk
    split at hk
    · simp at hk
    · rename_i e
      have := hd.so j k hk
      rw [hnot k (by rw [this]; simpa using e)]; exact this
  · intro q cells hO
    simp only [O] at hO
    by_cases e : b = q
    · subst e
      rw [if_pos rfl] at hO; cases hO
      refine ⟨by simp [own'], by simpa using hnd.2, fun k hk => ?_, c, Ty, vals, rest, hc, hcl, by simpa using RepE.flat hel he⟩
      simp only [if_true] at hk
      have n1 : k ≠ b := fun e => hnd.1 (by rw [← e]; exact hk)
      simp only [own', if_neg n1, if_pos hk]
    · rw [if_neg e] at hO
      have e' : ¬ q = b := fun h => e h.symm
      obtain ⟨g1, g2, g3, g4⟩ := hd.obj q cells hO
      simp only [if_neg e']
      exact ⟨by rw [hnot q (by rw [g1]; simp)]; exact g1, g2, fun k hk => by rw [hnot k (by rw [g3 k hk]; simp)]; exact g3 k hk, g4⟩

/-- an object that only a slot leads to, as an owned slice -/
theorem Imp.fold (i : Nat) {b len sz : Nat} {cells l : List AV} (hT : T t i = .arr b 0 len sz) (hO : O o b = some cells) (hlen : l.length = len) (hfl : l.flatMap AV.cells = cells.take (len * sz)) (hel : ∀ x, x ∈ l → x.elem sz = true)
    (h : Q ⟨n, (i, .sl true sz l) :: t, (b, none) :: o⟩) : Imp L ⟨n, t, o⟩ Q := by
  intro B F0 w0 a w hd
  refine ⟨_, h, ?_⟩
  obtain ⟨F, own, fp, fs, hd⟩ := hd
  have hr := hd.slots i
  simp only at hr
  rw [hT] at hr
  simp only [Rep] at hr
  obtain ⟨hfp, cap, hv, hlc, hlL, hblk⟩ := hr
  obtain ⟨hkey, hfsn, hfso, c, Ty, vals, rest, hc, hcl, hrep⟩ := hd.obj b cells hO
  obtain ⟨f, hl2, hsub⟩ := hrep.cutS 0 (len * sz)
  have hrow : RowAt w b 0 vals := ⟨c, Ty, _, hc, fun i hi => by rw [Nat.zero_add, ← Array.getElem?_toList, hcl, List.getElem?_append_left hi]⟩
  classical
  let own' : Nat → Own := fun k => if k = b then .slot i else if k ∈ f then .slot i else own k
  have hnot : ∀ k, own k ≠ .key → own k ≠ .obj b → own' k = own k := fun k h1 h2 => by
    have n1 : k ≠ b := fun e => h1 (by rw [e]; exact hkey)
    have n2 : k ∉ f := fun hm => h2 (hfso k (hsub.subset hm))
    simp only [own', if_neg n1, if_neg n2]
  refine ⟨F, own', fun j => if j = i then b :: f else fp j, fs, { below := hd.below, hB := hd.hB, f0 := hd.f0, fl := ?_, ol := ?_, defers := hd.defers, size := hd.size, slots := ?_, sn := ?_, so := ?_, obj := ?_ }⟩
  · intro k hk
    have := hd.fl k hk
    exact ⟨by rw [hnot k (by rw [this.1]; simp) (by rw [this.1]; simp)]; exact this.1, this.2⟩
  · intro k hk
    by_cases e1 : k = b
    · subst e1; exact hd.ol k (by rw [hkey]; simp)
    · by_cases e2 : k ∈ f
      · exact hd.ol k (by rw [hfso k (hsub.subset e2)]; simp)
      · simp only [own', if_neg e1, if_neg e2] at hk; exact hd.ol k hk
  · intro j
    rw [T_cons]
    by_cases e : i = j
    · subst e
      simp only [if_true, Rep]
      refine .inr ⟨b, 0, cap, (vals.drop 0).take (len * sz), f, by rw [hlen]; exact hv, by omega, by omega, ?_, ?_, .inl ⟨by trivial, rfl, rfl, hblk⟩⟩
      · have := hrow.cut 0 (len * sz); simpa using this
      · refine RepL.unflat hel ?_
        rw [hfl]; simpa using hl2
    · have e' : ¬ j = i := fun h => e h.symm
      simp only [if_neg e, if_neg e']; exact hd.slots j
  · intro j
    split
    · rw [List.nodup_cons]
      refine ⟨fun hm => ?_, hsub.nodup hfsn⟩
      have e := hfso b (hsub.subset hm)
      rw [hkey] at e; cases e
    · exact hd.sn j
  · intro j k hk
    split at hk
    · rename_i e
      subst e
      rcases List.mem_cons.1 hk with rfl | hk
      · simp [own']
      · simp only [own']; split <;> simp [hk]
    · have := hd.so j k hk
      rw [hnot k (by rw [this]; simp) (by rw [this]; simp)]; exact this
  · intro q cs hq
    simp only [O] at hq
    by_cases e : b = q
    · rw [if_pos e] at hq; cases hq
    · rw [if_neg e] at hq
      obtain ⟨g1, g2, g3, g4⟩ := hd.obj q cs hq
      have n1 : q ≠ b := fun h => e h.symm
      have n2 : q ∉ f := fun hm => by have := hfso q (hsub.subset hm); rw [g1] at this; cases this
      refine ⟨by simp only [own', if_neg n1, if_neg n2]; exact g1, g2, fun k hk => ?_, g4⟩
      rw [hnot k (by rw [g3 k hk]; simp) (by rw [g3 k hk]; simpa using n1)]; exact g3 k hk

/-- an owned slice in an object's cell, as an object -/
theorem Imp.unfoldO {b0 k sz : Nat} {cells0 l : List AV} (hO0 : O o b0 = some cells0) (hk : cells0[k]? = some (.sl true sz l)) (hl : l ≠ []) (hel : ∀ x, x ∈ l → x.elem sz = true)
    (h : ∀ b, Fresh o b → Q ⟨n, t, (b, some (l.flatMap AV.cells)) :: (b0, some (cells0.set k (.arr b 0 l.length sz))) :: o⟩) : Imp L ⟨n, t, o⟩ Q := by
  intro B F0 w0 a w hd
  obtain ⟨F, own, fp, fs, hd⟩ := hd
  obtain ⟨hkey0, hfsn0, hfso0, c0, Ty0, vals0, rest0, hc0, hcl0, hrep0⟩ := hd.obj b0 cells0 hO0
  obtain ⟨y, f1, fx, f2, hvk, hfs0, hr, hset⟩ := hrep0.put hk
  simp only [Rep] at hr
  rcases hr with ⟨_, e, _⟩ | ⟨b, off, cap, vals, fp', hy, h1, h2, hrow, he, ho⟩
  · exact absurd e hl
  obtain ⟨hfp, rfl, hblk⟩ : fx = b :: fp' ∧ off = 0 ∧ OwnBlk w b (off + cap * sz) := by
    rcases ho with ⟨_, h⟩ | ⟨e, _⟩
    · exact h
    · cases e
  have hmem : ∀ q, q ∈ fx → own q = .obj b0 := fun q hq => hfso0 q (by rw [hfs0]; simp [hq])
  have hsb : own b = .obj b0 := hmem b (by rw [hfp]; simp)
  have hbne : b ≠ b0 := fun e => by rw [e, hkey0] at hsb; cases hsb
  have hnd0 := hfsn0
  rw [hfs0, List.nodup_append] at hnd0
  obtain ⟨hn1, hn2, hn3⟩ := hnd0
  rw [List.nodup_append] at hn2
  obtain ⟨hnx, hn4, hn5⟩ := hn2
  have hnd := hnx
  rw [hfp, List.nodup_cons] at hnd
  have hfr : Fresh o b := by
    intro b' cells hO e
    have := (hd.obj b' cells hO).1
    rw [e, hsb] at this; cases this
  refine ⟨_, h b hfr, ?_⟩
  obtain ⟨c, Ty, rest, hc, hcl⟩ := row_list hrow hblk
  classical
  let own' : Nat → Own := fun q => if q = b then .key else if q ∈ fp' then .obj b else own q
  have hnot' : ∀ q, q ∉ fx → own' q = own q := fun q hq => by
    have n1 : q ≠ b := fun e => hq (by rw [hfp, e]; simp)
    have n2 : q ∉ fp' := fun hm => hq (by rw [hfp]; simp [hm])
    simp only [own', if_neg n1, if_neg n2]
  have hnot : ∀ q, own q ≠ .obj b0 → own' q = own q := fun q hq => hnot' q fun hm => hq (hmem q hm)
  refine ⟨F, own', fp, fun q => if q = b then fp' else if q = b0 then f1 ++ f2 else fs q, { below := hd.below, hB := hd.hB, f0 := hd.f0, fl := ?_, ol := ?_, defers := hd.defers, size := hd.size, slots := hd.slots, sn := hd.sn, so := ?_, obj := ?_ }⟩
  · intro q hq
    have := hd.fl q hq
    exact ⟨by rw [hnot q (by rw [this.1]; simp)]; exact this.1, this.2⟩
  · intro q hq
    by_cases e1 : q ∈ fx
    · exact hd.ol q (by rw [hmem q e1]; simp)
    · rw [hnot' q e1] at hq; exact hd.ol q hq
  · intro j q hq
    have := hd.so j q hq
    rw [hnot q (by rw [this]; simp)]; exact this
  · intro q cells hO
    simp only [O] at hO
    by_cases e : b = q
    · subst e
      rw [if_pos rfl] at hO; cases hO
      refine ⟨by simp [own'], by simpa using hnd.2, fun q hq => ?_, c, Ty, vals, rest, hc, hcl, by simpa using RepE.flat hel he⟩
      simp only [if_true] at hq
      have n1 : q ≠ b := fun e => hnd.1 (by rw [← e]; exact hq)
      simp only [own', if_neg n1, if_pos hq]
    · rw [if_neg e] at hO
      have e' : ¬ q = b := fun h => e h.symm
      simp only [if_neg e']
      by_cases e2 : b0 = q
      · subst e2
        rw [if_pos rfl] at hO; cases hO
        simp only [if_true]
        refine ⟨by rw [hnot b0 (by rw [hkey0]; simp)]; exact hkey0, ?_, fun q hq => ?_, c0, Ty0, vals0, rest0, hc0, hcl0, ?_⟩
        · rw [List.nodup_append]
          exact ⟨hn1, hn4, fun a ha b hb => hn3 a ha b (by simp [hb])⟩
        · have hq' : q ∈ fs b0 := by rw [hfs0]; rcases List.mem_append.1 hq with h | h <;> simp [h]
          have : q ∉ fx := fun hm => by
            rcases List.mem_append.1 hq with h | h
            · exact hn3 q h q (by simp [hm]) rfl
            · exact hn5 q hm q h rfl
          rw [hnot' q this]; exact hfso0 q hq'
        · have := hset (.arr b 0 l.length sz) [] (by simp only [Rep]; exact ⟨trivial, cap, hy, h1, h2, hblk⟩)
          simpa using this
      · rw [if_neg e2] at hO
        have e2' : ¬ q = b0 := fun h => e2 h.symm
        obtain ⟨g1, g2, g3, g4⟩ := hd.obj q cells hO
        simp only [if_neg e2']
        exact ⟨by rw [hnot q (by rw [g1]; simp)]; exact g1, g2, fun k hk => by rw [hnot k (by rw [g3 k hk]; simpa using e2')]; exact g3 k hk, g4⟩

/-- an object that only an object's cell leads to, as an owned slice there -/
theorem Imp.foldO {b0 k b len sz : Nat} {cells0 cells l : List AV} (hO0 : O o b0 = some cells0) (hk : cells0[k]? = some (.arr b 0 len sz)) (hO : O o b = some cells) (hne : b ≠ b0) (hlen : l.length = len) (hfl : l.flatMap AV.cells = cells.take (len * sz)) (hel : ∀ x, x ∈ l → x.elem sz = true)
    (h : Q ⟨n, t, (b, none) :: (b0, some (cells0.set k (.sl true sz l))) :: o⟩) : Imp L ⟨n, t, o⟩ Q := by
  intro B F0 w0 a w hd
  refine ⟨_, h, ?_⟩
  obtain ⟨F, own, fp, fs, hd⟩ := hd
  obtain ⟨hkey0, hfsn0, hfso0, c0, Ty0, vals0, rest0, hc0, hcl0, hrep0⟩ := hd.obj b0 cells0 hO0
  obtain ⟨y, f1, fx, f2, hvk, hfs0, hr, hset⟩ := hrep0.put hk
  simp only [Rep] at hr
  obtain ⟨rfl, cap, hv, hlc, hlL, hblk⟩ := hr
  rw [List.nil_append] at hfs0
  obtain ⟨hkey, hfsn, hfso, c, Ty, vals, rest, hc, hcl, hrep⟩ := hd.obj b cells hO
  obtain ⟨f, hl2, hsub⟩ := hrep.cutS 0 (len * sz)
  have hrow : RowAt w b 0 vals := ⟨c, Ty, _, hc, fun i hi => by rw [Nat.zero_add, ← Array.getElem?_toList, hcl, List.getElem?_append_left hi]⟩
  classical
  let own' : Nat → Own := fun q => if q = b then .obj b0 else if q ∈ f then .obj b0 else own q
  have hnot : ∀ q, own q ≠ .key → own q ≠ .obj b → own' q = own q := fun q h1 h2 => by
    have n1 : q ≠ b := fun e => h1 (by rw [e]; exact hkey)
    have n2 : q ∉ f := fun hm => h2 (hfso q (hsub.subset hm))
    simp only [own', if_neg n1, if_neg n2]
  refine ⟨F, own', fp, fun q => if q = b0 then f1 ++ ((b :: f) ++ f2) else fs q, { below := hd.below, hB := hd.hB, f0 := hd.f0, fl := ?_, ol := ?_, defers := hd.defers, size := hd.size, slots := hd.slots, sn := hd.sn, so := ?_, obj := ?_ }⟩
  · intro k hk
    have := hd.fl k hk
    exact ⟨by rw [hnot k (by rw [this.1]; simp) (by rw [this.1]; simp)]; exact this.1, this.2⟩
  · intro k hk
    by_cases e1 : k = b
    · subst e1; exact hd.ol k (by rw [hkey]; simp)
    · by_cases e2 : k ∈ f
      · exact hd.ol k (by rw [hfso k (hsub.subset e2)]; simp)
      · simp only [own', if_neg e1, if_neg e2] at hk; exact hd.ol k hk
  · intro j k hk
    have := hd.so j k hk
    rw [hnot k (by rw [this]; simp) (by rw [this]; simp)]; exact this
  · intro q cs hq
    simp only [O] at hq
    by_cases e : b = q
    · rw [if_pos e] at hq; cases hq
    · rw [if_neg e] at hq
      have n1 : q ≠ b := fun h => e h.symm
      by_cases e2 : b0 = q
      · subst e2
        rw [if_pos rfl] at hq; cases hq
        simp only [if_true]
        have n2 : b0 ∉ f := fun hm => by have := hfso b0 (hsub.subset hm); rw [hkey0] at this; cases this
        have hfb : ∀ q, q ∈ f1 ∨ q ∈ f2 → q ≠ b ∧ q ∉ f := by
          intro q hq
          have e1 := hfso0 q (by rw [hfs0]; rcases hq with h | h <;> simp [h])
          refine ⟨fun e => by (rw [e, hkey] at e1; cases e1), fun hm => ?_⟩
          have := hfso q (hsub.subset hm)
          rw [e1] at this; cases this; exact hne rfl
        refine ⟨by simp only [own', if_neg n1, if_neg n2]; exact hkey0, ?_, fun q hq => ?_, c0, Ty0, vals0, rest0, hc0, hcl0, ?_⟩
        · have hnd := hfsn0
          rw [hfs0, List.nodup_append] at hnd
          obtain ⟨hn1, hn2, hn3⟩ := hnd
          rw [List.nodup_append]
          refine ⟨hn1, ?_, fun q hq q' hq' e => ?_⟩
          · rw [List.nodup_append]
            refine ⟨?_, hn2, fun q hq q' hq' e => ?_⟩
            · rw [List.nodup_cons]
              refine ⟨fun hm => ?_, hsub.nodup hfsn⟩
              have e := hfso b (hsub.subset hm)
              rw [hkey] at e; cases e
            · subst e
              have := hfb q (.inr hq')
              rcases List.mem_cons.1 hq with e | e
              · exact this.1 e
              · exact this.2 e
          · subst e
            have := hfb q (.inl hq)
            rcases List.mem_append.1 hq' with e | e
            · rcases List.mem_cons.1 e with e | e
              · exact this.1 e
              · exact this.2 e
            · exact hn3 q hq q e rfl
        · rcases List.mem_append.1 hq with hq | hq
          · have := hfb q (.inl hq)
            simp only [own', if_neg this.1, if_neg this.2]; exact hfso0 q (by rw [hfs0]; simp [hq])
          · rcases List.mem_append.1 hq with hq | hq
            · rcases List.mem_cons.1 hq with rfl | hq
              · simp [own']
              · simp only [own']; split <;> simp [hq]
            · have := hfb q (.inr hq)
              simp only [own', if_neg this.1, if_neg this.2]; exact hfso0 q (by rw [hfs0]; simp [hq])
        · refine hset (.sl true sz l) (b :: f) ?_
          simp only [Rep]
          refine .inr ⟨b, 0, cap, (vals.drop 0).take (len * sz), f, by rw [hlen]; exact hv, by omega, by omega, ?_, ?_, .inl ⟨by trivial, rfl, rfl, hblk⟩⟩
          · have := hrow.cut 0 (len * sz); simpa using this
          · refine RepL.unflat hel ?_
            rw [hfl]; simpa using hl2
      · rw [if_neg e2] at hq
        have e2' : ¬ q = b0 := fun h => e2 h.symm
        obtain ⟨g1, g2, g3, g4⟩ := hd.obj q cs hq
        simp only [if_neg e2']
        have n2 : q ∉ f := fun hm => by have := hfso q (hsub.subset hm); rw [g1] at this; cases this
        refine ⟨by simp only [own', if_neg n1, if_neg n2]; exact g1, g2, fun k hk => ?_, g4⟩
        rw [hnot k (by rw [g3 k hk]; simp) (by rw [g3 k hk]; simpa using n1)]; exact g3 k hk
end
end Go.Ab
