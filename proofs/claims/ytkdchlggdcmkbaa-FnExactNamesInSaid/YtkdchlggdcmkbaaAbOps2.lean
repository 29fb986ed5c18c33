/-
  The logic's steps: lengths, elements, fields.
-/
import Derived.Test.YtkdchlggdcmkbaaAbOps
import Derived.Laws.Strings2
set_option linter.unusedSimpArgs false
set_option linter.unusedVariables false
namespace Go.Ab
open Go.RowKit (Below)

section lists
variable {L : Nat → Nat} {F : Nat → Prop} {w : World}
theorem RepL.len : ∀ {l : List AV} {vs : List Value} {fp : List Nat}, RepL L F w l vs fp → vs.length = l.length
  | [], _, _, r => by simp only [RepL] at r; simp [r.1]
  | x :: xs, vs, fp, r => by
    simp only [RepL] at r
    obtain ⟨y, vs', f1, f2, rfl, rfl, hx, hxs⟩ := r
    simp [RepL.len hxs]
theorem RepL.get : ∀ {l : List AV} {vs : List Value} {fp : List Nat} {i : Nat} {x : AV}, RepL L F w l vs fp → l[i]? = some x → ∃ y f, vs[i]? = some y ∧ Rep L F w x y f ∧ ∀ b, b ∈ f → b ∈ fp
  | [], _, _, _, _, _, h => by simp at h
  | x :: xs, vs, fp, i, z, r, h => by
    simp only [RepL] at r
    obtain ⟨y, vs', f1, f2, rfl, rfl, hx, hxs⟩ := r
    cases i with
    | zero => simp at h; subst h; exact ⟨y, f1, by simp, hx, fun b hb => by simp [hb]⟩
    | succ i =>
      obtain ⟨y', f, h1, h2, h3⟩ := RepL.get hxs (i := i) (by simpa using h)
      exact ⟨y', f, by simpa using h1, h2, fun b hb => by simp [h3 b hb]⟩
theorem RepL.split : ∀ {l1 l2 : List AV} {vs : List Value} {fp : List Nat}, RepL L F w (l1 ++ l2) vs fp → ∃ v1 v2 f1 f2, vs = v1 ++ v2 ∧ fp = f1 ++ f2 ∧ RepL L F w l1 v1 f1 ∧ RepL L F w l2 v2 f2
  | [], l2, vs, fp, r => ⟨[], vs, [], fp, rfl, rfl, by simp [RepL], r⟩
  | x :: xs, l2, vs, fp, r => by
    simp only [List.cons_append, RepL] at r
    obtain ⟨y, vs', f1, f2, rfl, rfl, hx, hxs⟩ := r
    obtain ⟨v1, v2, g1, g2, rfl, rfl, h1, h2⟩ := RepL.split hxs
    exact ⟨y :: v1, v2, f1 ++ g1, g2, rfl, by simp, by simp only [RepL]; exact ⟨y, v1, f1, g1, rfl, rfl, hx, h1⟩, h2⟩
theorem RepL.join : ∀ {l1 l2 : List AV} {v1 v2 : List Value} {f1 f2 : List Nat}, RepL L F w l1 v1 f1 → RepL L F w l2 v2 f2 → RepL L F w (l1 ++ l2) (v1 ++ v2) (f1 ++ f2)
  | [], l2, v1, v2, f1, f2, r1, r2 => by simp only [RepL] at r1; obtain ⟨rfl, rfl⟩ := r1; exact r2
  | x :: xs, l2, v1, v2, f1, f2, r1, r2 => by
    simp only [List.cons_append, RepL] at r1 ⊢
    obtain ⟨y, vs', g1, g2, rfl, rfl, hx, hxs⟩ := r1
    exact ⟨y, vs' ++ v2, g1, g2 ++ f2, rfl, by simp, hx, RepL.join hxs r2⟩
theorem RepL.cut {l : List AV} {vs : List Value} {fp : List Nat} (r : RepL L F w l vs fp) (i n : Nat) : ∃ f, RepL L F w ((l.drop i).take n) ((vs.drop i).take n) f ∧ ∀ b, b ∈ f → b ∈ fp := by
  have hl := r.len
  have e1 : l = l.take i ++ ((l.drop i).take n ++ (l.drop i).drop n) := by rw [List.take_append_drop, List.take_append_drop]
  rw [e1] at r
  obtain ⟨v1, v23, f1, f23, rfl, rfl, r1, r23⟩ := r.split
  obtain ⟨v2, v3, f2, f3, rfl, rfl, r2, r3⟩ := r23.split
  have h1 := r1.len
  have h2 := r2.len
  refine ⟨f2, ?_, fun b hb => by simp [hb]⟩
  have e2 : ((v1 ++ (v2 ++ v3)).drop i).take n = v2 := by
    simp only [List.length_take, List.length_drop] at h1 h2
    have h3 := r3.len
    simp only [List.length_drop] at h3
    by_cases hi : i ≤ l.length
    · have hv1 : v1.length = i := by omega
      rw [← hv1, List.drop_left]
      by_cases hn : n ≤ l.length - i
      · have hv2 : v2.length = n := by omega
        rw [← hv2, List.take_left]
      · have hv3 : v3 = [] := List.eq_nil_of_length_eq_zero (by omega)
        subst hv3
        rw [List.append_nil, List.take_of_length_le (by omega)]
    · have hv2 : v2 = [] := List.eq_nil_of_length_eq_zero (by omega)
      have hv3 : v3 = [] := List.eq_nil_of_length_eq_zero (by omega)
      subst hv2 hv3
      have : v1.drop i = [] := List.drop_eq_nil_of_le (by omega)
      simp [this]
  rw [e2]; exact r2
end lists

theorem add_mk (b off n : Nat) : (⟨b, off, none⟩ : Addr).add n = ⟨b, off + n, none⟩ := by
  unfold Addr.add; split <;> simp_all

theorem RowAt.cell {w : World} {b off : Nat} {vals : List Value} (h : RowAt w b off vals) {i : Nat} {v : Value} (hi : vals[i]? = some v) : w.cell? ⟨b, off + i, none⟩ = some v := by
  obtain ⟨c, T, z, hc, hr⟩ := h
  have hlt : i < vals.length := by
    rcases Nat.lt_or_ge i vals.length with h | h
    · exact h
    · rw [List.getElem?_eq_none h] at hi; cases hi
  simp [World.cell?, hc, hr i hlt, hi]

theorem RowAt.cut {w : World} {b off : Nat} {vals : List Value} (h : RowAt w b off vals) (i n : Nat) : RowAt w b (off + i) ((vals.drop i).take n) := by
  obtain ⟨c, T, z, hc, hr⟩ := h
  refine ⟨c, T, z, hc, fun j hj => ?_⟩
  simp only [List.length_take, List.length_drop] at hj
  have := hr (i + j) (by omega)
  rw [Nat.add_assoc, this, List.getElem?_take, if_pos (by omega), List.getElem?_drop]

theorem RowAt.load {P : Program} {w : World} {b off : Nat} {vals : List Value} (h : RowAt w b off vals) : (loadCells ⟨b, off, none⟩ vals.length).run P w = .ok vals.toArray w :=
  run_loadCells_list (P := P) w _ vals fun j v hj => by rw [add_mk]; exact h.cell hj

/-- is the type an aggregate; its cells -/
def ty (P : Program) (t : TypeId) : Option (Bool × Nat) :=
  match P.underlying t, P.info? t with
  | some d, some i => some ((match d with | .struct _ | .array _ _ => true | _ => false), i.size)
  | _, _ => none

theorem ty_run {P : Program} {t : TypeId} {g : Bool} {n : Nat} (h : ty P t = some (g, n)) (w : World) : (isAgg t).run P w = .ok g w ∧ (sizeOf t).run P w = .ok n w := by
  unfold ty at h
  cases hu : P.underlying t with
  | none => simp [hu] at h
  | some d =>
    cases hi : P.info? t with
    | none => simp [hu, hi] at h
    | some i =>
      simp [hu, hi] at h
      obtain ⟨rfl, rfl⟩ := h
      constructor
      · cases d <;> simp [isAgg, run_underlying hu]
      · simp [sizeOf, typeInfo, hi]

/-- a field: its offset, is it an aggregate, its cells -/
def fld (P : Program) (t : TypeId) (k : Nat) : Option (Nat × Bool × Nat) :=
  match P.underlying t with
  | some (.struct fs) => match fs[k]? with
    | some f => match ty P f.type with
      | some (g, n) => some (f.offset, g, n)
      | none => none
    | none => none
  | _ => none

theorem fld_inv {P : Program} {t : TypeId} {k off n : Nat} {g : Bool} (h : fld P t k = some (off, g, n)) :
    ∃ fs f, P.underlying t = some (.struct fs) ∧ fs[k]? = some f ∧ ty P f.type = some (g, n) ∧ f.offset = off := by
  unfold fld at h
  split at h
  · rename_i fs hfs
    split at h
    · rename_i f hf
      split at h
      · rename_i g' n' hty
        simp at h
        obtain ⟨rfl, rfl, rfl⟩ := h
        exact ⟨fs, f, hfs, hf, hty, rfl⟩
      · cases h
    · cases h
  · cases h

/-- cells as a value of a type -/
def val (g : Bool) (n : Nat) (cells : List AV) : Option AV :=
  bif g then (bif Nat.ble n cells.length then some (.agg (cells.take n)) else none) else cells.head?

section ops
variable {L : Nat → Nat} {P : Program} {s : AS} {o : Oper}

theorem val_rep {F : Nat → Prop} {w : World} {cells : List AV} {vals : List Value} {fp : List Nat} {g : Bool} {n : Nat} {y : AV} (r : RepL L F w cells vals fp) (h : val g n cells = some y) :
    (g = true ∧ n ≤ vals.length ∧ ∃ f, Rep L F w y (.agg (vals.take n).toArray) f ∧ ∀ b, b ∈ f → b ∈ fp) ∨ (g = false ∧ ∃ u f, vals[0]? = some u ∧ Rep L F w y u f ∧ ∀ b, b ∈ f → b ∈ fp) := by
  unfold val at h
  cases g with
  | true =>
    left
    cases hn : Nat.ble n cells.length with
    | false => simp [hn] at h
    | true =>
      simp [hn] at h
      subst h
      obtain ⟨f, hf, hsub⟩ := r.cut 0 n
      simp only [List.drop_zero] at hf
      exact ⟨rfl, by rw [r.len]; exact Nat.le_of_ble_eq_true hn, f, by simp only [Rep]; exact ⟨_, rfl, hf⟩, hsub⟩
  | false =>
    right
    simp at h
    obtain ⟨u, f, h1, h2, h3⟩ := r.get (i := 0) (x := y) (by rw [← List.head?_eq_getElem?]; exact h)
    exact ⟨rfl, u, f, h1, h2, h3⟩

theorem lop_field {xt : TypeId} {x : Operand} {k off n : Nat} {g : Bool} {cells : List AV} {y : AV} (ho : o.op = .field xt x k) (hx : ev s.t x = .agg cells)
    (hf : fld P xt k = some (off, g, n)) (hy : val g n (cells.drop off) = some y) (hown : y.nown = true) : LOp L P s o y [] := by
  obtain ⟨fs, f, hu, hk, ht, rfl⟩ := fld_inv hf
  refine LOp.of_run0 fun B F0 w0 F own fp fs' a w h => ?_
  have hr := h.ev x
  rw [hx] at hr
  simp only [Rep] at hr
  obtain ⟨vs, hv, hl⟩ := hr
  have hcut : ∃ f', RepL L F w (cells.drop f.offset) (vs.drop f.offset) f' := by
    obtain ⟨f', h1, _⟩ := hl.cut f.offset (cells.length + vs.length)
    rw [List.take_of_length_le (by simp; omega), List.take_of_length_le (by simp; omega)] at h1
    exact ⟨f', h1⟩
  obtain ⟨f', hcut⟩ := hcut
  obtain ⟨ha, hs⟩ := ty_run ht w
  rcases val_rep hcut hy with ⟨rfl, hn, f2, r2, _⟩ | ⟨rfl, u, f2, hu2, r2, _⟩
  · refine ⟨_, ?_, by rw [Rep.fp_nil hown r2] at r2; exact r2⟩
    simp only [execOp, ho, hv, Instr.field, Sem.run_bind, run_underlying hu, Result.andThen_ok, hk, asAgg, Sem.run_pure, part, ha, if_true, hs]
    simp [List.extract_eq_take_drop]
  · refine ⟨u, ?_, by rw [Rep.fp_nil hown r2] at r2; exact r2⟩
    have : vs[f.offset]? = some u := by simpa using hu2
    simp [execOp, ho, hv, Instr.field, run_underlying hu, hk, asAgg, part, ha, this]

theorem lop_fieldAddr_vp {xt : TypeId} {x : Operand} {k off n : Nat} {g : Bool} {cells : List AV} (ho : o.op = .fieldAddr xt x k) (hx : ev s.t x = .vp cells)
    (hf : fld P xt k = some (off, g, n)) (hn : Nat.blt 0 n = true) : LOp L P s o (.vp (cells.drop off)) [] := by
  obtain ⟨fs, f, hu, hk, ht, rfl⟩ := fld_inv hf
  have hn' : ¬ n = 0 := by simp at hn; omega
  refine LOp.of_run0 fun B F0 w0 F own fp fs' a w h => ?_
  have hr := h.ev x
  rw [hx] at hr
  simp only [Rep] at hr
  obtain ⟨_, b, o', vals, hv, hb, hrow, hl⟩ := hr
  obtain ⟨ha, hs⟩ := ty_run ht w
  refine ⟨.pointer (some ⟨b, o' + f.offset, none⟩), ?_, ?_⟩
  · simp [execOp, ho, hv, Instr.fieldAt, run_underlying hu, hk, Instr.sureAddr, fieldPlace, hs, hn', add_mk]
  · simp only [Rep]
    refine ⟨trivial, b, _, vals.drop f.offset, rfl, hb, ?_, ?_⟩
    · have := hrow.cut f.offset vals.length
      rw [List.take_of_length_le (by simp)] at this
      exact this
    · obtain ⟨f', h1, h2⟩ := hl.cut f.offset (cells.length + vals.length)
      rw [List.take_of_length_le (by simp; omega), List.take_of_length_le (by simp; omega)] at h1
      have : f' = [] := List.eq_nil_iff_forall_not_mem.2 fun b hb => by simpa using h2 b hb
      rw [this] at h1; exact h1

theorem lop_fieldAddr_ptr {xt : TypeId} {x : Operand} {k off n b o' : Nat} {g : Bool} (ho : o.op = .fieldAddr xt x k) (hx : ev s.t x = .ptr b o')
    (hf : fld P xt k = some (off, g, n)) (hn : Nat.blt 0 n = true) : LOp L P s o (.ptr b (o' + off)) [] := by
  obtain ⟨fs, f, hu, hk, ht, rfl⟩ := fld_inv hf
  have hn' : ¬ n = 0 := by simp at hn; omega
  refine LOp.of_run0 fun B F0 w0 F own fp fs' a w h => ?_
  have hr := h.ev x
  rw [hx] at hr
  simp only [Rep] at hr
  obtain ⟨ha, hs⟩ := ty_run ht w
  refine ⟨.pointer (some ⟨b, o' + f.offset, none⟩), ?_, by simp [Rep]⟩
  simp [execOp, ho, hr.1, Instr.fieldAt, run_underlying hu, hk, Instr.sureAddr, fieldPlace, hs, hn', add_mk]

theorem load_run {w : World} {t : TypeId} {g : Bool} {n b off : Nat} {vals : List Value} (ht : ty P t = some (g, n)) (hrow : RowAt w b off vals) :
    (g = true → n ≤ vals.length → (loadVar t ⟨b, off, none⟩).run P w = .ok (.agg (vals.take n).toArray) w) ∧
    (g = false → ∀ u, vals[0]? = some u → (loadVar t ⟨b, off, none⟩).run P w = .ok u w) := by
  obtain ⟨ha, hs⟩ := ty_run ht w
  constructor
  · rintro rfl hn
    have h1 := (hrow.cut 0 n).load (P := P)
    simp only [List.drop_zero, Nat.add_zero, List.length_take, Nat.min_eq_left hn] at h1
    simp [loadVar, ha, hs, h1]
  · rintro rfl u hu
    have := hrow.cell hu
    simp only [Nat.add_zero] at this
    simp [loadVar, ha, this]

theorem lop_load_vp {t : TypeId} {x : Operand} {n : Nat} {g : Bool} {cells : List AV} {y : AV} (ho : o.op = .load t x) (hx : ev s.t x = .vp cells)
    (ht : ty P t = some (g, n)) (hy : val g n cells = some y) : LOp L P s o y [] := by
  refine LOp.of_run fun B F0 w0 F own fp fs' a w h => ?_
  have hr := h.ev x
  rw [hx] at hr
  simp only [Rep] at hr
  obtain ⟨_, b, o', vals, hv, hb, hrow, hl⟩ := hr
  obtain ⟨l1, l2⟩ := load_run (P := P) ht hrow
  rcases val_rep hl hy with ⟨rfl, hn, f2, r2, h2⟩ | ⟨rfl, u, f2, hu2, r2, h2⟩
  · have : f2 = [] := List.eq_nil_iff_forall_not_mem.2 fun b hb => by simpa using h2 b hb
    subst this
    exact ⟨_, [], by simp [execOp, ho, hv, Instr.loadAt, Instr.sureAddr, l1 rfl hn], r2, by simp, by simp⟩
  · have : f2 = [] := List.eq_nil_iff_forall_not_mem.2 fun b hb => by simpa using h2 b hb
    subst this
    exact ⟨_, [], by simp [execOp, ho, hv, Instr.loadAt, Instr.sureAddr, l2 rfl u hu2], r2, by simp, by simp⟩

theorem DenAt.row {B : Nat → Prop} {F0 : Nat → Prop} {w0 : World} {F : Nat → Prop} {own : Nat → Own} {fp fs : Nat → List Nat} {a : Act} {w : World}
    (h : DenAt L B F0 w0 F own fp fs s a w) {b : Nat} {cells : List AV} (hb : O s.o b = some cells) (off : Nat) :
    ∃ vals f, RowAt w b off vals ∧ RepL L F w (cells.drop off) vals f ∧ ∀ k, k ∈ f → k ∈ fs b := by
  obtain ⟨_, _, _, c, Ty, vals, rest, h4, h5, h6⟩ := h.obj b cells hb
  have hrow : RowAt w b 0 vals := ⟨c, Ty, _, h4, fun i hi => by
    rw [Nat.zero_add, ← Array.getElem?_toList, h5, List.getElem?_append_left hi]⟩
  have hl := h6.len
  obtain ⟨f', h1, h2⟩ := h6.cut off (cells.length + vals.length)
  rw [List.take_of_length_le (by simp; omega), List.take_of_length_le (by simp; omega)] at h1
  refine ⟨vals.drop off, f', ?_, h1, h2⟩
  have := hrow.cut off vals.length
  rw [List.take_of_length_le (by simp), Nat.zero_add] at this
  exact this

theorem lop_load_ptr {t : TypeId} {x : Operand} {n b off : Nat} {g : Bool} {cells : List AV} {y : AV} (ho : o.op = .load t x) (hx : ev s.t x = .ptr b off)
    (hb : O s.o b = some cells) (ht : ty P t = some (g, n)) (hy : val g n (cells.drop off) = some y) (hown : y.nown = true) : LOp L P s o y [] := by
  refine LOp.of_run0 fun B F0 w0 F own fp fs' a w h => ?_
  have hr := h.ev x
  rw [hx] at hr
  simp only [Rep] at hr
  obtain ⟨vals, f, hrow, hl, _⟩ := h.row hb off
  obtain ⟨l1, l2⟩ := load_run (P := P) ht hrow
  rcases val_rep hl hy with ⟨rfl, hn, f2, r2, _⟩ | ⟨rfl, u, f2, hu2, r2, _⟩
  · exact ⟨.agg (vals.take n).toArray, by simp [execOp, ho, hr.1, Instr.loadAt, Instr.sureAddr, l1 rfl hn], by rw [Rep.fp_nil hown r2] at r2; exact r2⟩
  · exact ⟨u, by simp [execOp, ho, hr.1, Instr.loadAt, Instr.sureAddr, l2 rfl u hu2], by rw [Rep.fp_nil hown r2] at r2; exact r2⟩

theorem lop_nilCheck {x : Operand} {b off : Nat} (ho : o.op = .nilCheck x) (hx : ev s.t x = .ptr b off) : LOp L P s o (.ptr b off) [] := by
  refine LOp.of_run0 fun B F0 w0 F own fp fs' a w h => ?_
  have hr := h.ev x
  rw [hx] at hr
  simp only [Rep] at hr
  exact ⟨.pointer (some ⟨b, off, none⟩), by simp [execOp, ho, hr.1], by simp [Rep]⟩

theorem lop_nilCheck_vp {x : Operand} {cells : List AV} (ho : o.op = .nilCheck x) (hx : ev s.t x = .vp cells) : LOp L P s o (.vp cells) [] := by
  refine LOp.of_run0 fun B F0 w0 F own fp fs' a w h => ?_
  have hr := h.ev x
  rw [hx] at hr
  have hr' := hr
  rw [Rep.fp_nil rfl hr] at hr'
  simp only [Rep] at hr
  obtain ⟨_, b, o', vals, hv, hb, hrow, hl⟩ := hr
  exact ⟨a.eval x, by simp [execOp, ho, hv], hr'⟩

theorem lop_extract {x : Operand} {k : Nat} {l : List AV} {y : AV} (ho : o.op = .extract x k) (hx : ev s.t x = .tup l) (hy : l[k]? = some y) (hown : y.nown = true) : LOp L P s o y [] := by
  refine LOp.of_run0 fun B F0 w0 F own fp fs' a w h => ?_
  have hr := h.ev x
  rw [hx] at hr
  simp only [Rep] at hr
  obtain ⟨vs, hv, hl⟩ := hr
  obtain ⟨u, f, h1, h2, _⟩ := hl.get hy
  refine ⟨u, ?_, by rw [Rep.fp_nil hown h2] at h2; exact h2⟩
  simp [execOp, ho, hv, Instr.extract, h1]

/-- text -/
abbrev S (l : List UInt8) : AV := .str l

theorem lop_len_str {x : Operand} {c : Call} {t : TypeId} {l : List UInt8} (ho : o.op = .call c) (hc : c = ⟨.builtin .len, #[x], #[t]⟩) (hx : ev s.t x = S l) (ht : P.underlying t = some .string) :
    LOp L P s o (.v (.int .i64 l.length)) [] := by
  subst hc
  refine lop_val fun B F0 w0 F own fp fs a w h => ?_
  simp [execOp, ho, resolve, invoke, builtin, (h.sval hx).1, run_len_string w t o.type _ ht, goInt, ByteArray.size]

theorem elem_of {t e : TypeId} (h : P.underlying t = some (.slice e)) : P.underlying t = some (.slice (P.elem t)) := by
  simp [Program.elem, h]

theorem lop_len_sl {x : Operand} {c : Call} {t e : TypeId} {own : Bool} {sz : Nat} {l : List AV} (ho : o.op = .call c) (hc : c = ⟨.builtin .len, #[x], #[t]⟩) (hx : ev s.t x = .sl own sz l) (ht : P.underlying t = some (.slice e)) :
    LOp L P s o (.v (.int .i64 l.length)) [] := by
  subst hc
  refine lop_val fun B F0 w0 F own fp fs a w h => ?_
  have hr := h.ev x
  rw [hx] at hr
  simp only [Rep] at hr
  rcases hr with ⟨hv | ⟨_, _, hv⟩, rfl, _⟩ | ⟨b, off, cap, vals, fp', hv, _⟩
  · simp [execOp, ho, resolve, invoke, builtin, hv, run_len_slice w t o.type _ _ _ (elem_of ht), goInt]
  · simp [execOp, ho, resolve, invoke, builtin, hv, run_len_slice w t o.type _ _ _ (elem_of ht), goInt]
  · simp [execOp, ho, resolve, invoke, builtin, hv, run_len_slice w t o.type _ _ _ (elem_of ht), goInt]

theorem lop_len_nil {x : Operand} {c : Call} {t e : TypeId} (ho : o.op = .call c) (hc : c = ⟨.builtin .len, #[x], #[t]⟩) (hx : ev s.t x = .v (.slice none 0 0)) (ht : P.underlying t = some (.slice e)) :
    LOp L P s o (.v (.int .i64 0)) [] := by
  subst hc
  refine lop_val fun B F0 w0 F own fp fs a w h => ?_
  simp [execOp, ho, resolve, invoke, builtin, h.val hx, run_len_slice w t o.type _ _ _ (elem_of ht), goInt]

theorem lop_len_arr {x : Operand} {c : Call} {t e : TypeId} {b off len sz : Nat} (ho : o.op = .call c) (hc : c = ⟨.builtin .len, #[x], #[t]⟩) (hx : ev s.t x = .arr b off len sz) (ht : P.underlying t = some (.slice e)) :
    LOp L P s o (.v (.int .i64 len)) [] := by
  subst hc
  refine lop_val fun B F0 w0 F own fp fs a w h => ?_
  have hr := h.ev x
  rw [hx] at hr
  simp only [Rep] at hr
  obtain ⟨_, cap, hv, _⟩ := hr
  simp [execOp, ho, resolve, invoke, builtin, hv, run_len_slice w t o.type _ _ _ (elem_of ht), goInt]

theorem lop_index_str {x i : Operand} {t : TypeId} {l : List UInt8} {k : IntKind} {n : Int} {c : UInt8} (ho : o.op = .index t x i) (hx : ev s.t x = S l) (hi : ev s.t i = .v (.int k n))
    (ht : P.underlying t = some .string) (h0 : 0 ≤ n) (hc : l[n.toNat]? = some c) : LOp L P s o (.v (.int .u8 c.toNat)) [] := by
  refine lop_val fun B F0 w0 F own fp fs a w h => ?_
  have hlt : n.toNat < l.length := by
    rcases Nat.lt_or_ge n.toNat l.length with h | h
    · exact h
    · rw [List.getElem?_eq_none h] at hc; cases hc
  simp only [execOp, ho, (h.sval hx).1, h.val hi, Sem.run_bind, run_index_string w t _ k n ht]
  rw [dif_pos ⟨h0, by simp [ByteArray.size]; omega⟩]
  have : l[n.toNat] = c := by simpa [List.getElem?_eq_getElem hlt] using hc
  simp [← this]
  rfl

/-- the cells of an element -/
def AV.cells : AV → List AV
  | .agg l => l
  | x => [x]

/-- an element: an aggregate or a cell -/
def AV.elem (sz : Nat) : AV → Bool
  | .agg l => l.length == sz
  | .v x => x.oneCell' && sz == 1
  | .dead => false
  | .tup _ => false
  | .cnd _ _ => false
  | _ => sz == 1

theorem RepE.len {F : Nat → Prop} {w : World} {sz : Nat} : ∀ {l : List AV} {vs : List Value} {fp : List Nat}, RepE L F w sz l vs fp → vs.length = l.length * sz
  | [], _, _, r => by simp only [RepE] at r; simp [r.1]
  | x :: xs, vs, fp, r => by
    simp only [RepE] at r
    obtain ⟨y, vs', f1, f2, rfl, hsz, rfl, hx, hxs⟩ := r
    have := RepE.len hxs
    simp [this, hsz, Nat.add_mul]; omega

theorem RepE.get {F : Nat → Prop} {w : World} {sz : Nat} : ∀ {l : List AV} {vs : List Value} {fp : List Nat} {i : Nat} {x : AV}, RepE L F w sz l vs fp → l[i]? = some x →
    ∃ y f, (vs.drop (i * sz)).take sz = y.cells.toList ∧ y.cells.size = sz ∧ Rep L F w x y f ∧ ∀ b, b ∈ f → b ∈ fp
  | [], _, _, _, _, _, h => by simp at h
  | x :: xs, vs, fp, i, z, r, h => by
    simp only [RepE] at r
    obtain ⟨y, vs', f1, f2, rfl, hsz, rfl, hx, hxs⟩ := r
    cases i with
    | zero => simp at h; subst h; exact ⟨y, f1, by simp [← hsz], hsz, hx, fun b hb => by simp [hb]⟩
    | succ i =>
      obtain ⟨y', f, h1, h2, h3, h4⟩ := RepE.get hxs (i := i) (by simpa using h)
      refine ⟨y', f, ?_, h2, h3, fun b hb => by simp [h4 b hb]⟩
      rw [← h1, Nat.add_mul, Nat.one_mul, Nat.add_comm, ← List.drop_drop]
      congr 2
      have : y.cells.toList.length = sz := by simpa using hsz
      rw [← this, List.drop_left]

theorem cells_rep {F : Nat → Prop} {w : World} {sz : Nat} {x : AV} {y : Value} {f : List Nat} (h : x.elem sz = true) (r : Rep L F w x y f) : RepL L F w x.cells y.cells.toList f ∧ y.cells.size = sz := by
  cases x with
  | agg l =>
    have r' := r
    simp only [Rep] at r
    obtain ⟨vs, rfl, hl⟩ := r
    simp [AV.elem] at h
    exact ⟨by simpa [AV.cells, Value.cells] using hl, by simp [Value.cells, hl.len, h]⟩
  | dead => simp [AV.elem] at h
  | tup l => simp [AV.elem] at h
  | cnd _ _ => simp [AV.elem] at h
  | v x =>
    have r' := r
    simp only [Rep] at r'
    obtain ⟨rfl, rfl⟩ := r'
    simp [AV.elem] at h
    have : y.cells = #[y] := by cases y <;> simp_all [Value.cells, Value.oneCell']
    rw [this]
    exact ⟨by simp only [AV.cells, RepL]; exact ⟨y, [], [], [], rfl, rfl, r, rfl, rfl⟩, by simp [h.2]⟩
  | str l =>
    have r' := r
    simp only [Rep] at r'
    have : y.cells = #[y] := by rw [r'.1]; rfl
    rw [this]
    simp [AV.elem] at h
    exact ⟨by simp only [AV.cells, RepL]; exact ⟨y, [], f, [], rfl, by simp, r, rfl, rfl⟩, by simp [h]⟩
  | sl o' z l =>
    have r' := r
    simp only [Rep] at r'
    have : y.cells = #[y] := by rcases r' with ⟨rfl | ⟨_, _, rfl⟩, _⟩ | ⟨b, off, cap, vals, fp', rfl, _⟩ <;> rfl
    rw [this]
    simp [AV.elem] at h
    exact ⟨by simp only [AV.cells, RepL]; exact ⟨y, [], f, [], rfl, by simp, r, rfl, rfl⟩, by simp [h]⟩
  | vp l =>
    have r' := r
    simp only [Rep] at r'
    have : y.cells = #[y] := by obtain ⟨_, b, off, vals, rfl, _⟩ := r'; rfl
    rw [this]
    simp [AV.elem] at h
    exact ⟨by simp only [AV.cells, RepL]; exact ⟨y, [], f, [], rfl, by simp, r, rfl, rfl⟩, by simp [h]⟩
  | arr _ _ _ _ =>
    have r' := r
    simp only [Rep] at r'
    have : y.cells = #[y] := by obtain ⟨_, b, rfl, _⟩ := r'; rfl
    rw [this]
    simp [AV.elem] at h
    exact ⟨by simp only [AV.cells, RepL]; exact ⟨y, [], f, [], rfl, by simp, r, rfl, rfl⟩, by simp [h]⟩
  | ptr _ _ =>
    have r' := r
    simp only [Rep] at r'
    have : y.cells = #[y] := by obtain ⟨rfl, _⟩ := r'; rfl
    rw [this]
    simp [AV.elem] at h
    exact ⟨by simp only [AV.cells, RepL]; exact ⟨y, [], f, [], rfl, by simp, r, rfl, rfl⟩, by simp [h]⟩
  | fn _ _ =>
    have r' := r
    simp only [Rep] at r'
    have : y.cells = #[y] := by obtain ⟨_, rfl, _⟩ := r'; rfl
    rw [this]
    simp [AV.elem] at h
    exact ⟨by simp only [AV.cells, RepL]; exact ⟨y, [], f, [], rfl, by simp, r, rfl, rfl⟩, by simp [h]⟩

/-- the element type of a slice type: its cells, its bytes -/
def elm (P : Program) (t : TypeId) : Option (TypeId × Nat × Nat) :=
  match P.underlying t with
  | some (.slice e) => match P.info? e with
    | some i => some (e, i.size, i.bytes)
    | none => none
  | _ => none

theorem elm_inv {t e : TypeId} {sz by_ : Nat} (h : elm P t = some (e, sz, by_)) : ∃ i, P.underlying t = some (.slice e) ∧ P.info? e = some i ∧ i.size = sz ∧ i.bytes = by_ := by
  unfold elm at h
  split at h
  · rename_i e' he
    split at h
    · rename_i i hi
      simp at h
      obtain ⟨rfl, rfl, rfl⟩ := h
      exact ⟨i, he, hi, rfl, rfl⟩
    · cases h
  · cases h

theorem lop_indexAddr_sl {x i : Operand} {t e : TypeId} {sz by_ : Nat} {l : List AV} {k : IntKind} {n : Int} {y : AV} (ho : o.op = .indexAddr t x i) (hx : ev s.t x = .sl false sz l)
    (hi : ev s.t i = .v (.int k n)) (ht : elm P t = some (e, sz, by_)) (h0 : 0 ≤ n) (hy : l[n.toNat]? = some y) (he : y.elem sz = true) : LOp L P s o (.vp y.cells) [] := by
  obtain ⟨inf, hu, hinf, hsz, _⟩ := elm_inv ht
  refine LOp.of_run0 fun B F0 w0 F own fp fs a w h => ?_
  have hlt : n.toNat < l.length := by
    rcases Nat.lt_or_ge n.toNat l.length with h | h
    · exact h
    · rw [List.getElem?_eq_none h] at hy; cases hy
  have hr := h.ev x
  rw [hx] at hr
  simp only [Rep] at hr
  rcases hr with ⟨_, rfl, _⟩ | ⟨b, off, cap, vals, fp', hv, _, _, hrow, hl, hF⟩
  · simp at hlt
  · rcases hF with ⟨hF, _⟩ | ⟨_, hF, rfl, _⟩
    · cases hF
    · obtain ⟨y', f, h1, h2, h3, h4⟩ := hl.get hy
      have : f = [] := List.eq_nil_iff_forall_not_mem.2 fun b hb => by simpa using h4 b hb
      subst this
      have hP : P.elem t = e := by simp [Program.elem, hu]
      refine ⟨.pointer (some ⟨b, off + n.toNat * sz, none⟩), ?_, ?_⟩
      · simp only [execOp, ho, hv, h.val hi, Sem.run_bind, run_indexAt_slice w t _ _ _ k n (elem_of hu)]
        rw [if_pos ⟨h0, by omega⟩]
        simp [hP, sizeOf, typeInfo, hinf, hsz, add_mk]
      · simp only [Rep]
        refine ⟨trivial, b, _, y'.cells.toList, rfl, hF, ?_, (cells_rep he h3).1⟩
        rw [← h1]; exact hrow.cut _ _

theorem lop_indexAddr_arr {x i : Operand} {t e : TypeId} {sz by_ b off len : Nat} {k : IntKind} {n : Int} (ho : o.op = .indexAddr t x i) (hx : ev s.t x = .arr b off len sz)
    (hi : ev s.t i = .v (.int k n)) (ht : elm P t = some (e, sz, by_)) (h0 : 0 ≤ n) (hy : n < len) : LOp L P s o (.ptr b (off + n.toNat * sz)) [] := by
  obtain ⟨inf, hu, hinf, hsz, _⟩ := elm_inv ht
  refine LOp.of_run0 fun B F0 w0 F own fp fs a w h => ?_
  have hr := h.ev x
  rw [hx] at hr
  simp only [Rep] at hr
  obtain ⟨_, cap, hv, _⟩ := hr
  have hP : P.elem t = e := by simp [Program.elem, hu]
  refine ⟨.pointer (some ⟨b, off + n.toNat * sz, none⟩), ?_, by simp [Rep]⟩
  simp only [execOp, ho, hv, h.val hi, Sem.run_bind, run_indexAt_slice w t _ _ _ k n (elem_of hu)]
  rw [if_pos ⟨h0, hy⟩]
  simp [hP, sizeOf, typeInfo, hinf, hsz, add_mk]
end ops
end Go.Ab
