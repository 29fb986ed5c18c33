/-
  The logic's ends: what a function returns.
-/
import Derived.Test.YtkdchlggdcmkbaaAbSet
set_option linter.unusedSimpArgs false
set_option linter.unusedVariables false
namespace Go.Ab
open Go.RowKit (Below)

theorem PureC.frz {L : Nat → Nat} {P : Program} {f : FuncId} {args : List AV} {res : AV} (h : PureC L P f args res) : PureC L P f args res.frz := by
  intro w F vs hF hr
  refine (h w F vs hF hr).mono ?_
  rintro e w' ⟨v, F', fp, rfl, h1, h2, h3, h4, h5, h6⟩
  refine ⟨v, fun b => F' b ∨ b ∈ fp, [], rfl, h1, fun b hb => .inl (h2 b hb), ?_, Rep.frz (fun b hb => .inl hb) (fun b hb => .inr hb) h4, by simp, by simp⟩
  rintro b (hb | hb)
  · exact h3 b hb
  · exact .inr (h6 b hb).2

/-- one result variable -/
def resV (r : ResultVar) (tmps : Array Value) : Sem Value :=
  match r with
  | .tmp t => pure (tmps.getD t undef)
  | .cell a t => do loadVar t (← asAddr (tmps.getD a undef))

def ResOK (L : Nat → Nat) (P : Program) (s : AS) (r : ResultVar) (x : AV) : Prop :=
  ∀ B F0 w0 a w, Den L B F0 w0 s a w → ∃ v F' fp, (resV r a.tmps).run P w = .ok v w ∧ (∀ b, F0 b → F' b) ∧ (∀ b, F' b → F0 b ∨ (¬ B b ∧ b < w.heap.size)) ∧
    Rep L F' w x v fp ∧ fp.Nodup ∧ ∀ b, b ∈ fp → ¬ F' b ∧ ¬ B b ∧ b < w.heap.size

theorem andThen_assoc {α β γ : Type} (x : Result α) (f : α → World → Result β) (g : β → World → Result γ) : x.andThen (fun a w => (f a w).andThen g) = (x.andThen f).andThen g := by
  cases x <;> rfl

section
variable {L : Nat → Nat} {P : Program} {s : AS} {fn : Func} {r : ResultVar} {x : AV}

theorem Ends.res (hr : fn.results = #[r]) (h : ResOK L P s r x) : Ends L P fn s x := by
  intro B F0 w0 a w hd
  obtain ⟨v, F', fp, h1, h2, h3, h4, h5, h6⟩ := h B F0 w0 a w hd
  refine ⟨v, F', fp, ?_, h2, h3, h4, h5, h6⟩
  unfold results
  rw [hr]
  cases r with
  | tmp t => simpa [resV] using h1
  | cell ad t =>
    simp [resV] at h1 ⊢
    exact h1

theorem Ends.resv {u : Nat} {y : Value} (hr : fn.results = #[r, .tmp u]) (h : ResOK L P s r x) (hy : T s.t u = .v y) : Ends L P fn s (.tup [x, .v y]) := by
  intro B F0 w0 a w hd
  obtain ⟨v, F', fp, h1, h2, h3, h4, h5, h6⟩ := h B F0 w0 a w hd
  obtain ⟨F, own, fpp, fs, hden⟩ := hd
  have hyv : a.tmps.getD u undef = y := by
    have := hden.slots u
    rw [hy] at this
    simp only [Rep] at this
    exact this.1
  refine ⟨.tuple #[v, y], F', fp, ?_, h2, h3, ?_, h5, h6⟩
  · unfold results
    rw [hr]
    cases r with
    | tmp t =>
      simp [resV] at h1
      have hyv' : a.tmps[u]?.getD undef = y := by rw [← hyv, Array.getD_eq_getD_getElem?]
      simp [h1, hyv']
    | cell ad t =>
      simp [resV] at h1
      have hyv' : a.tmps[u]?.getD undef = y := by rw [← hyv, Array.getD_eq_getD_getElem?]
      simp [hyv']
      rw [andThen_assoc, h1]
      rfl
  · simp only [Rep]
    refine ⟨[v, y], rfl, ?_⟩
    simp only [RepL]
    exact ⟨v, [y], fp, [], rfl, by simp, h4, y, [], [], [], rfl, rfl, by simp [Rep], rfl, rfl⟩

theorem ResOK.slot {t : Nat} (hx : T s.t t = x) : ResOK L P s (.tmp t) x := by
  subst hx
  intro B F0 w0 a w hd
  obtain ⟨F, own, fp, fs, h⟩ := hd
  refine ⟨a.tmps.getD t undef, F, fp t, by simp [resV], h.f0, fun b hb => ?_, h.slots t, h.sn t, fun b hb => ⟨h.fp_F hb, h.fp_lt hb⟩⟩
  have := h.fl b hb
  rcases this.2.2 with e | e
  · exact .inl e
  · exact .inr ⟨e, this.2.1⟩

/-- contiguous parts keep what they own in order -/
theorem RepL.cutS {F : Nat → Prop} {w : World} {l : List AV} {vs : List Value} {fp : List Nat} (r : RepL L F w l vs fp) (i n : Nat) : ∃ f, RepL L F w ((l.drop i).take n) ((vs.drop i).take n) f ∧ f.Sublist fp := by
  have hl := r.len
  have e1 : l = l.take i ++ ((l.drop i).take n ++ (l.drop i).drop n) := by rw [List.take_append_drop, List.take_append_drop]
  have r0 := r
  rw [e1] at r
  obtain ⟨v1, v23, f1, f23, rfl, rfl, r1, r23⟩ := r.split
  obtain ⟨v2, v3, f2, f3, rfl, rfl, r2, r3⟩ := r23.split
  obtain ⟨f, hf, _⟩ := r0.cut i n
  have h1 := r1.len
  have h2 := r2.len
  have e2 : ((v1 ++ (v2 ++ v3)).drop i).take n = v2 := by
    simp only [List.length_take, List.length_drop] at h1 h2
    have h3 := r3.len
    simp only [List.length_drop] at h3
    by_cases hi : i ≤ l.length
    · have hv1 : v1.length = i := by omega
      rw [← hv1, List.drop_left]
      by_cases hn : n ≤ l.length - i
      · have hv2 : v2.length = n := by omega
        rw [← hv2, List.take_left]
      · have hv3 : v3 = [] := List.eq_nil_of_length_eq_zero (by omega)
        subst hv3
        rw [List.append_nil, List.take_of_length_le (by omega)]
    · have hv2 : v2 = [] := List.eq_nil_of_length_eq_zero (by omega)
      have hv3 : v3 = [] := List.eq_nil_of_length_eq_zero (by omega)
      subst hv2 hv3
      have : v1.drop i = [] := List.drop_eq_nil_of_le (by omega)
      simp [this]
  rw [e2]
  exact ⟨f2, r2, (List.sublist_append_left f2 f3).trans (List.sublist_append_right f1 _)⟩

/-- a slice that the function has made -/
theorem ResOK.pack {t b len sz : Nat} {cells l : List AV} (hx : T s.t t = .arr b 0 len sz) (hO : O s.o b = some cells) (hlen : l.length = len) (hfl : l.flatMap AV.cells = (cells.drop 0).take (len * sz)) (hel : ∀ z, z ∈ l → z.elem sz = true) :
    ResOK L P s (.tmp t) (.sl true sz l) := by
  intro B F0 w0 a w hd
  obtain ⟨F, own, fp, fs, h⟩ := hd
  have hr := h.slots t
  rw [hx] at hr
  simp only [Rep] at hr
  obtain ⟨_, cap, hv, hlc, hlL, hblk⟩ := hr
  obtain ⟨hkey, hfsn, hfso, c, Ty, vals, rest, hc, hcl, hrep⟩ := h.obj b cells hO
  obtain ⟨f, hl2, hsub⟩ := hrep.cutS 0 (len * sz)
  have hrow : RowAt w b 0 vals := ⟨c, Ty, _, hc, fun i hi => by rw [Nat.zero_add, ← Array.getElem?_toList, hcl, List.getElem?_append_left hi]⟩
  refine ⟨a.tmps.getD t undef, F, b :: f, by simp [resV], h.f0, fun k hk => ?_, ?_, ?_, ?_⟩
  · have := h.fl k hk
    rcases this.2.2 with e | e
    · exact .inl e
    · exact .inr ⟨e, this.2.1⟩
  · simp only [Rep]
    refine .inr ⟨b, 0, cap, (vals.drop 0).take (len * sz), f, by rw [hlen]; exact hv, by omega, by omega, ?_, ?_, .inl ⟨by trivial, rfl, rfl, hblk⟩⟩
    · have := hrow.cut 0 (len * sz); simpa using this
    · refine RepL.unflat hel ?_
      rw [hfl]; exact hl2
  · rw [List.nodup_cons]
    refine ⟨fun hm => ?_, hsub.nodup hfsn⟩
    have e := hfso b (hsub.subset hm)
    rw [hkey] at e; cases e
  · intro k hk
    have hne : own k ≠ .none := by
      rcases List.mem_cons.1 hk with rfl | hk
      · rw [hkey]; simp
      · rw [hfso k (hsub.subset hk)]; simp
    refine ⟨fun hF => hne (h.fl k hF).1, h.ol k hne⟩

/-- the same, as one that is only read from now on -/
theorem ResOK.packF {t b len sz : Nat} {cells l : List AV} (hx : T s.t t = .arr b 0 len sz) (hO : O s.o b = some cells) (hlen : l.length = len) (hfl : l.flatMap AV.cells = (cells.drop 0).take (len * sz)) (hel : ∀ z, z ∈ l → z.elem sz = true) :
    ResOK L P s (.tmp t) (AV.sl true sz l).frz := by
  intro B F0 w0 a w hd
  obtain ⟨v, F', fp, h1, h2, h3, h4, h5, h6⟩ := ResOK.pack hx hO hlen hfl hel B F0 w0 a w hd
  refine ⟨v, fun b => F' b ∨ b ∈ fp, [], h1, fun b hb => .inl (h2 b hb), ?_, Rep.frz (fun b hb => .inl hb) (fun b hb => .inr hb) h4, by simp, by simp⟩
  rintro k (hk | hk)
  · exact h3 k hk
  · exact .inr (h6 k hk).2

/-- a struct result, in a variable of its own -/
theorem ResOK.cell {ad b off n : Nat} {t : TypeId} {g : Bool} {cells : List AV} (ha : T s.t ad = .ptr b off) (hO : O s.o b = some cells) (ht : ty P t = some (g, n)) (hx : val g n (cells.drop off) = some x) : ResOK L P s (.cell ad t) x := by
  intro B F0 w0 a w hd
  obtain ⟨F, own, fp, fs, h⟩ := hd
  have hr := h.slots ad
  rw [ha] at hr
  simp only [Rep] at hr
  obtain ⟨hkey, hfsn, hfso, c, Ty, vals, rest, hc, hcl, hrep⟩ := h.obj b cells hO
  have hrow0 : RowAt w b 0 vals := ⟨c, Ty, _, hc, fun i hi => by rw [Nat.zero_add, ← Array.getElem?_toList, hcl, List.getElem?_append_left hi]⟩
  have hrow : RowAt w b off (vals.drop off) := by
    have := hrow0.cut off vals.length
    rw [List.take_of_length_le (by simp), Nat.zero_add] at this
    exact this
  have hvl := hrep.len
  have hend : ∀ (v : Value) (f : List Nat), (loadVar t ⟨b, off, none⟩).run P w = .ok v w → Rep L F w x v f → f.Sublist (fs b) → ∃ v F' fp, (resV (.cell ad t) a.tmps).run P w = .ok v w ∧ (∀ b, F0 b → F' b) ∧ (∀ b, F' b → F0 b ∨ (¬ B b ∧ b < w.heap.size)) ∧
      Rep L F' w x v fp ∧ fp.Nodup ∧ ∀ b, b ∈ fp → ¬ F' b ∧ ¬ B b ∧ b < w.heap.size := by
    intro v f hl hrx hsub
    have hr1 : a.tmps[ad]?.getD undef = .pointer (some ⟨b, off, none⟩) := by rw [← hr.1, Array.getD_eq_getD_getElem?]
    refine ⟨v, F, f, by simp [resV, hr1, asAddr, hl], h.f0, fun k hk => ?_, hrx, hsub.nodup hfsn, fun k hk => ?_⟩
    · have := h.fl k hk
      rcases this.2.2 with e | e
      · exact .inl e
      · exact .inr ⟨e, this.2.1⟩
    · have hne : own k ≠ .none := by rw [hfso k (hsub.subset hk)]; simp
      exact ⟨fun hF => hne (h.fl k hF).1, h.ol k hne⟩
  obtain ⟨l1, l2⟩ := load_run (P := P) ht hrow
  unfold val at hx
  cases g with
  | true =>
    cases hn : Nat.ble n (cells.drop off).length with
    | false => simp only [cond_true, hn, cond_false] at hx; cases hx
    | true =>
      simp only [cond_true, hn] at hx
      cases hx
      obtain ⟨f, hf, hsub⟩ := hrep.cutS off n
      have hle : n ≤ (vals.drop off).length := by
        have := Nat.le_of_ble_eq_true hn
        simp at this ⊢; omega
      exact hend _ f (l1 rfl hle) (by simp only [Rep]; exact ⟨_, rfl, hf⟩) hsub
  | false =>
    simp at hx
    obtain ⟨f, hf, hsub⟩ := hrep.cutS off 1
    have e1 : (cells.drop off).take 1 = [x] := by
      have e : cells[off]? = some x := by simpa using hx
      have hlt : off < cells.length := by
        rcases Nat.lt_or_ge off cells.length with h | h
        · exact h
        · rw [List.getElem?_eq_none h] at e; cases e
      rw [List.drop_eq_getElem_cons hlt]
      rw [List.getElem?_eq_getElem hlt] at e
      cases e; rfl
    rw [e1] at hf
    simp only [RepL] at hf
    obtain ⟨y, vs', f1, f2, hv, rfl, hy, rfl, rfl⟩ := hf
    have hv0 : (vals.drop off)[0]? = some y := by
      cases hd : vals.drop off with
      | nil => rw [hd] at hv; simp at hv
      | cons z zs => rw [hd] at hv; simp at hv; simp [hv]
    exact hend y f1 (l2 rfl y hv0) hy (by simpa using hsub)

/-- lengths are within the limits -/
theorem AW.len {c : Code} {n : Nat} {t : List (Nat × AV)} {o : List (Nat × Option (List AV))} {Q : Exit → AS → Prop} (i : Nat) {own : Bool} {sz : Nat} {l : List AV} (hi : T t i = .sl own sz l) (h : l.length ≤ L sz → AW L P c ⟨n, t, o⟩ Q) : AW L P c ⟨n, t, o⟩ Q := by
  intro B F0 w0 a w hd
  refine h ?_ B F0 w0 a w hd
  obtain ⟨F, ow, fp, fs, h⟩ := hd
  have hr := h.slots i
  simp only at hr
  rw [hi] at hr
  simp only [Rep] at hr
  rcases hr with ⟨_, rfl, _⟩ | ⟨b, off, cap, vals, fp', _, _, h2, _⟩
  · simp
  · exact h2
end

theorem AW.slen {L : Nat → Nat} {P : Program} {c : Code} {n : Nat} {t : List (Nat × AV)} {o : List (Nat × Option (List AV))} {Q : Exit → AS → Prop} (i : Nat) {l : List UInt8} (hi : T t i = .str l) (h : l.length ≤ 4611686018427387904 → AW L P c ⟨n, t, o⟩ Q) : AW L P c ⟨n, t, o⟩ Q := by
  intro B F0 w0 a w hd
  refine h ?_ B F0 w0 a w hd
  obtain ⟨F, ow, fp, fs, h⟩ := hd
  have hr := h.slots i
  simp only at hr
  rw [hi] at hr
  simp only [Rep] at hr
  exact hr.2.1

theorem RepL.strMem {L : Nat → Nat} {F : Nat → Prop} {w : World} : ∀ {l : List AV} {vs : List Value} {fp : List Nat} {s : List UInt8}, RepL L F w l vs fp → .str s ∈ l → s.length ≤ 4611686018427387904
  | [], _, _, _, _, h => by cases h
  | x :: xs, vs, fp, s, r, h => by
    simp only [RepL] at r
    obtain ⟨y, vs', f1, f2, _, _, hx, hxs⟩ := r
    rcases List.mem_cons.1 h with rfl | h
    · simp only [Rep] at hx; exact hx.2.1
    · exact RepL.strMem hxs h

theorem AW.aggStr {L : Nat → Nat} {P : Program} {c : Code} {n : Nat} {t : List (Nat × AV)} {o : List (Nat × Option (List AV))} {Q : Exit → AS → Prop} (i : Nat) {l : List AV} {s : List UInt8} (hi : T t i = .agg l) (hm : .str s ∈ l) (h : s.length ≤ 4611686018427387904 → AW L P c ⟨n, t, o⟩ Q) : AW L P c ⟨n, t, o⟩ Q := by
  intro B F0 w0 a w hd
  refine h ?_ B F0 w0 a w hd
  obtain ⟨F, ow, fp, fs, h⟩ := hd
  have hr := h.slots i
  simp only at hr
  rw [hi] at hr
  simp only [Rep] at hr
  obtain ⟨vs, _, hl⟩ := hr
  exact hl.strMem hm

/-- a load that takes over what an object holds -/
theorem opw_take {L : Nat → Nat} {P : Program} {s : AS} {o : Oper} {t : TypeId} {x : Operand} {n b off : Nat} {g : Bool} {cells : List AV} {y : AV} (ho : o.op = .load t x) (hd : dstOK s.n o.dst = true) (hx : ev s.t x = .ptr b off)
    (hb : O s.o b = some cells) (ht : ty P t = some (g, n)) (hy : val g n (cells.drop off) = some y) {K : AS → Prop} (hK : K ⟨s.n, put s.t o.dst y, (b, none) :: s.o⟩) : OpW L P o s K := by
  intro B F0 w0 a w next Q hden hnext
  obtain ⟨F, own, fp, fs, h⟩ := hden
  have hr := h.ev x
  rw [hx] at hr
  simp only [Rep] at hr
  obtain ⟨v, F', fx, h1, h2, h3, h4, h5, h6⟩ : ∃ v F' fx, (loadVar t ⟨b, off, none⟩).run P w = .ok v w ∧ F' = F ∧ True ∧ Rep L F w y v fx ∧ fx.Nodup ∧ ∀ k, k ∈ fx → own k = .obj b := by
    obtain ⟨hkey, hfsn, hfso, c, Ty, vals, rest, hc, hcl, hrep⟩ := h.obj b cells hb
    have hrow0 : RowAt w b 0 vals := ⟨c, Ty, _, hc, fun i hi => by rw [Nat.zero_add, ← Array.getElem?_toList, hcl, List.getElem?_append_left hi]⟩
    have hrow : RowAt w b off (vals.drop off) := by
      have := hrow0.cut off vals.length
      rw [List.take_of_length_le (by simp), Nat.zero_add] at this
      exact this
    have hvl := hrep.len
    obtain ⟨l1, l2⟩ := load_run (P := P) ht hrow
    unfold val at hy
    cases g with
    | true =>
      cases hn : Nat.ble n (cells.drop off).length with
      | false => simp only [cond_true, hn, cond_false] at hy; cases hy
      | true =>
        simp only [cond_true, hn] at hy
        cases hy
        obtain ⟨f, hf, hsub⟩ := hrep.cutS off n
        have hle : n ≤ (vals.drop off).length := by
          have := Nat.le_of_ble_eq_true hn
          simp at this ⊢; omega
        exact ⟨_, F, f, l1 rfl hle, rfl, trivial, by simp only [Rep]; exact ⟨_, rfl, hf⟩, hsub.nodup hfsn, fun k hk => hfso k (hsub.subset hk)⟩
    | false =>
      simp at hy
      obtain ⟨u, f, hu, hru, hsubm⟩ := hrep.get hy
      obtain ⟨f', hf, hsub⟩ := hrep.cutS off 1
      have e1 : (cells.drop off).take 1 = [y] := by
        have e : cells[off]? = some y := hy
        have hlt : off < cells.length := by
          rcases Nat.lt_or_ge off cells.length with h | h
          · exact h
          · rw [List.getElem?_eq_none h] at e; cases e
        rw [List.drop_eq_getElem_cons hlt]
        rw [List.getElem?_eq_getElem hlt] at e
        cases e; rfl
      rw [e1] at hf
      simp only [RepL] at hf
      obtain ⟨y', vs', f1, f2, hv, rfl, hy', rfl, rfl⟩ := hf
      have hv0 : (vals.drop off)[0]? = some y' := by
        cases hd : vals.drop off with
        | nil => rw [hd] at hv; simp at hv
        | cons z zs => rw [hd] at hv; simp at hv; simp [hv]
      exact ⟨y', F, f1, l2 rfl y' hv0, rfl, trivial, hy', by simpa using hsub.nodup hfsn, fun k hk => hfso k (hsub.subset (by simpa using hk))⟩
  have hex : (execOp a.eval o).run P w = .ok (.value v) w := by
    simp [execOp, ho, hr.1, Instr.loadAt, Instr.sureAddr, h1]
  unfold Oper.wp
  rw [hex]
  refine hnext _ _ _ hK ?_
  have hkey := (h.obj b cells hb).1
  classical
  let own' : Nat → Own := fun k => if k ∈ fx then (match o.dst with | some d => .slot d | none => .none) else if own k = .obj b ∨ k = b then .none else own k
  have hns : ∀ k i, own k = .slot i → own' k = .slot i := by
    intro k i e
    have n1 : k ∉ fx := fun hk => by have := h6 k hk; rw [e] at this; cases this
    have n2 : ¬ (own k = .obj b ∨ k = b) := by
      rintro (e' | e')
      · rw [e] at e'; cases e'
      · rw [e', hkey] at e; cases e
    simp only [own', if_neg n1, if_neg n2]; exact e
  refine ⟨F, own', fun i => if o.dst = some i then fx else fp i, fs, { below := h.below, hB := h.hB, f0 := h.f0, fl := ?_, ol := ?_, defers := ?_, size := ?_, slots := ?_, sn := ?_, so := ?_, obj := ?_ }⟩
  · intro k hk
    have e := h.fl k hk
    have n1 : k ∉ fx := fun hk' => by have := h6 k hk'; rw [e.1] at this; cases this
    have n2 : ¬ (own k = .obj b ∨ k = b) := by
      rintro (e' | e')
      · rw [e.1] at e'; cases e'
      · have := e.1; rw [e', hkey] at this; cases this
    exact ⟨by simp only [own', if_neg n1, if_neg n2]; exact e.1, e.2⟩
  · intro k hk
    simp only [own'] at hk
    by_cases n1 : k ∈ fx
    · exact h.ol k (by rw [h6 k n1]; simp)
    · rw [if_neg n1] at hk
      by_cases n2 : own k = .obj b ∨ k = b
      · rw [if_pos n2] at hk; exact absurd rfl hk
      · rw [if_neg n2] at hk; exact h.ol k hk
  · have := h.defers; cases o.dst <;> simpa [Act.put] using this
  · have := h.size; cases o.dst <;> simpa [Act.put] using this
  · intro i
    simp only [T_put]
    rw [getD_put a o.dst v i (by rw [h.size]; exact hd)]
    by_cases e : o.dst = some i
    · simp only [e, if_true]; exact h4
    · simp only [if_neg e]; exact h.slots i
  · intro i
    split
    · exact h5
    · exact h.sn i
  · intro i k hk
    by_cases e : o.dst = some i
    · simp only [e, if_true] at hk
      simp only [own', if_pos hk, e]
    · rw [if_neg e] at hk
      exact hns k i (h.so i k hk)
  · intro q cs hO
    simp only [O] at hO
    split at hO
    · cases hO
    · rename_i hne
      obtain ⟨g1, g2, g3, g4⟩ := h.obj q cs hO
      refine ⟨?_, g2, fun k hk => ?_, g4⟩
      · have n1 : q ∉ fx := fun hk => by have := h6 q hk; rw [g1] at this; cases this
        have n2 : ¬ (own q = .obj b ∨ q = b) := by
          rintro (e' | e')
          · rw [g1] at e'; cases e'
          · exact hne e'.symm
        simp only [own', if_neg n1, if_neg n2]; exact g1
      · have e := g3 k hk
        have n1 : k ∉ fx := fun hk' => by have := h6 k hk'; rw [e] at this; cases this; exact hne rfl
        have n2 : ¬ (own k = .obj b ∨ k = b) := by
          rintro (e' | e')
          · rw [e] at e'; cases e'; exact hne rfl
          · rw [e', hkey] at e; cases e
        simp only [own', if_neg n1, if_neg n2]; exact e
end Go.Ab
