/-
  The logic's steps: comparisons, slices of slices.
-/
import Derived.Test.YtkdchlggdcmkbaaAbDraw3
import Derived.WalkLawsBesides
set_option linter.unusedSimpArgs false
set_option linter.unusedVariables false
namespace Go.Ab
open Go.RowKit (Below)

def binV (op : BinOp) : Value → Value → Option Value
  | .int k a, .int k' b => if k = k' then
      (match op with
      | .add => some (.int k (k.wrap (a + b)))
      | .sub => some (.int k (k.wrap (a - b)))
      | .mul => some (.int k (k.wrap (a * b)))
      | .eql => some (.bool (a == b))
      | .neq => some (.bool (a != b))
      | .lss => some (.bool (decide (a < b)))
      | .leq => some (.bool (decide (a ≤ b)))
      | .gtr => some (.bool (decide (b < a)))
      | .geq => some (.bool (decide (b ≤ a)))
      | .quo => if b = 0 then none else some (.int k (k.wrap (a.tdiv b)))
      | .rem => if b = 0 then none else some (.int k (a.tmod b))
      | _ => none) else none
  | _, _ => none

theorem run_binV {P : Program} {op : BinOp} {u v z : Value} {ty : TypeId} {x y : Operand} (h : binV op u v = some z) (w : World) : (do eqGuard op ty x y u v; binOp op ty u v : Sem Value).run P w = .ok z w := by
  unfold binV at h
  split at h
  · split at h
    · rename_i k a k' b hk
      subst hk
      have hg : (eqGuard op ty x y (.int k a) (.int k b)).run P w = .ok () w := by cases op <;> simp [eqGuard]
      rw [Sem.run_bind, hg]
      simp only [Result.andThen_ok]
      cases op <;> simp at h <;> first
        | (subst h; simp [binOp, Op.intArith, Op.intCmp]; done)
        | (obtain ⟨hb, h⟩ := h; subst h; simp [binOp, Op.intDiv, hb]; done)
    · cases h
  · cases h

/-- an operator on texts -/
def binS (op : BinOp) (a b : List UInt8) : Option Bool :=
  match op with
  | .eql => some (a == b)
  | .neq => some (!(a == b))
  | .lss => some (Op.bytesLess a b)
  | .leq => some (Op.bytesLess a b || a == b)
  | .gtr => some (!(Op.bytesLess a b || a == b))
  | .geq => some (!Op.bytesLess a b)
  | _ => none

theorem run_binS {P : Program} {op : BinOp} {a b : List UInt8} {z : Bool} {ty : TypeId} {x y : Operand} (h : binS op a b = some z) (w : World) : (do eqGuard op ty x y (.string ⟨a.toArray⟩) (.string ⟨b.toArray⟩); binOp op ty (.string ⟨a.toArray⟩) (.string ⟨b.toArray⟩) : Sem Value).run P w = .ok (.bool z) w := by
  have hg : (eqGuard op ty x y (.string ⟨a.toArray⟩) (.string ⟨b.toArray⟩)).run P w = .ok () w := by cases op <;> simp [eqGuard]
  rw [Sem.run_bind, hg]
  simp only [Result.andThen_ok]
  unfold binS at h
  cases op <;> simp only [Option.some.injEq, reduceCtorEq] at h <;> (subst h; simp [binOp, Op.stringOp])

def unV (op : UnOp) : Value → Option Value
  | .bool b => match op with | .not => some (.bool (!b)) | _ => none
  | .int k n => match op with | .neg => some (.int k (k.wrap (0 - n))) | _ => none
  | _ => none

theorem run_unV {P : Program} {op : UnOp} {u z : Value} (h : unV op u = some z) (w : World) : (Op.unary op u).run P w = .ok z w := by
  unfold unV at h
  split at h
  · cases op <;> simp at h; subst h; simp [Op.unary]
  · cases op <;> simp at h; subst h; simp [Op.unary, Op.intArith]
  · cases h

section ops
variable {L : Nat → Nat} {P : Program} {s : AS} {o : Oper}

theorem lop_binV {op : BinOp} {ty ty' : TypeId} {x y : Operand} {u v z : Value} (ho : o.op = .binOp op ty x y ty') (hx : ev s.t x = .v u) (hy : ev s.t y = .v v) (hz : binV op u v = some z) : LOp L P s o (.v z) [] :=
  lop_bin ho hx hy (run_binV hz)

theorem lop_binS {op : BinOp} {ty ty' : TypeId} {x y : Operand} {a b : List UInt8} {z : Bool} (ho : o.op = .binOp op ty x y ty') (hx : ev s.t x = .str a) (hy : ev s.t y = .str b) (hz : binS op a b = some z) : LOp L P s o (.v (.bool z)) [] := by
  refine lop_val fun B F0 w0 F own fp fs act w h => ?_
  have := run_binS (P := P) (ty := ty) (x := x) (y := y) hz w
  simp only [execOp, ho, (h.sval hx).1, (h.sval hy).1]
  rw [Sem.run_bind, this]
  rfl

theorem lop_cat {ty ty' : TypeId} {x y : Operand} {a b : List UInt8} (ho : o.op = .binOp .add ty x y ty') (hx : ev s.t x = S a) (hy : ev s.t y = S b) (hsz : a.length + b.length ≤ 4611686018427387904) : LOp L P s o (S (a ++ b)) [] := by
  refine lop_strv fun B F0 w0 F own fp fs act w h => ⟨?_, by simpa using hsz⟩
  have h1 : ¬ ((a.length : Int) + (b.length : Int) > IntKind.i64.max) := by simp [IntKind.max, IntKind.bits, IntKind.signed]; omega
  have hg : (eqGuard .add ty x y (.string ⟨a.toArray⟩) (.string ⟨b.toArray⟩)).run P w = .ok () w := by simp [eqGuard]
  have hs : ∀ l : List UInt8, (ByteArray.mk l.toArray).size = l.length := fun l => by simp [ByteArray.size]
  have hr : (do eqGuard .add ty x y (.string ⟨a.toArray⟩) (.string ⟨b.toArray⟩); binOp .add ty (.string ⟨a.toArray⟩) (.string ⟨b.toArray⟩) : Sem Value).run P w = .ok (.string ⟨(a ++ b).toArray⟩) w := by
    rw [Sem.run_bind, hg]
    simp only [Result.andThen_ok, binOp, Op.stringOp]
    rw [if_neg (by rw [hs, hs]; push_cast; exact h1)]
    simp only [Sem.run_pure]
    congr 2
  simp only [execOp, ho, (h.sval hx).1, (h.sval hy).1]
  rw [Sem.run_bind, hr]
  rfl

theorem lop_unV {op : UnOp} {ty : TypeId} {x : Operand} {u z : Value} (ho : o.op = .unOp op ty x) (hx : ev s.t x = .v u) (hz : unV op u = some z) : LOp L P s o (.v z) [] :=
  lop_un ho hx (run_unV hz)

theorem gval_rep {F : Nat → Prop} {w : World} {x : AV} {y : Value} {fp : List Nat} {G g : Bool} (h : gval x = some (G, g)) (r : Rep L F w x y fp) (hG : G = true) : y = .bool g := by
  unfold gval at h
  split at h
  · cases h; simp only [Rep] at r; exact r.1
  · cases h; simp only [Rep] at r; exact (r.1 hG).1
  · cases h

theorem lop_pick {c a b : Operand} {p Ga Gb u v : Bool} (ho : o.op = .pick c a b) (hc : ev s.t c = .v (.bool p)) (ha : gval (ev s.t a) = some (Ga, u)) (hb : gval (ev s.t b) = some (Gb, v))
    (h1 : p = true → Ga = true) (h2 : p = false → Gb = true) : LOp L P s o (.v (.bool (bif p then u else v))) [] := by
  refine lop_val fun B F0 w0 F own fp fs act w h => ?_
  simp only [execOp, ho, h.val hc, asBool, Sem.run_bind, Sem.run_pure, Result.andThen_ok]
  cases p with
  | true => simp [gval_rep ha (h.ev a) (h1 rfl)]
  | false => simp [gval_rep hb (h.ev b) (h2 rfl)]

def bnd (t : List (Nat × AV)) (o : Option Operand) (d : Int) : Option Int :=
  match o with
  | none => some d
  | some y => match ev t y with
    | .v (.int _ n) => some n
    | _ => none

theorem bnd_val {B : Nat → Prop} {F0 : Nat → Prop} {w0 : World} {F : Nat → Prop} {own : Nat → Own} {fp fs : Nat → List Nat} {a : Act} {w : World} (h : DenAt L B F0 w0 F own fp fs s a w) {y : Operand} {d n : Int} (hb : bnd s.t (some y) d = some n) : ∃ k, a.eval y = .int k n := by
  unfold bnd at hb
  simp only at hb
  split at hb
  · rename_i k m hm
    cases hb
    exact ⟨k, h.val hm⟩
  · cases hb

theorem lop_slice_str {t : TypeId} {x : Operand} {lo hi : Option Operand} {l : List UInt8} {i j : Int} (ho : o.op = .slice t x lo hi none) (ht : P.underlying t = some .string) (hx : ev s.t x = S l) (hlo : bnd s.t lo 0 = some i) (hhi : bnd s.t hi l.length = some j)
    (h0 : 0 ≤ i) (h1 : i ≤ j) (h2 : j ≤ l.length) : LOp L P s o (S ((l.take j.toNat).drop i.toNat)) [] := by
  refine lop_strv fun B F0 w0 F own fp fs a w h => ⟨?_, by have := (h.sval hx).2; simp; omega⟩
  have hsz : (ByteArray.mk l.toArray).size = l.length := by simp [ByteArray.size]
  have hext : (ByteArray.mk l.toArray).extract i.toNat j.toNat = ⟨((l.take j.toNat).drop i.toNat).toArray⟩ := by
    apply WideShapes.bytes_inj
    rw [ByteArray.data_extract]
    simp [List.extract_eq_take_drop, List.drop_take]
  have hv := (h.sval hx).1
  have ht' := run_underlying ht w
  have hr : (Instr.sliceAt t (.string ⟨l.toArray⟩) (lo.map a.eval) (hi.map a.eval) none).run P w = .ok (.string ⟨((l.take j.toNat).drop i.toNat).toArray⟩) w := by
    rw [← hext, run_sliceAt_string w t _ _ _ _ ht]
    have hjn : ((j.toNat : Nat) : Int) = j := by omega
    have e1 : 0 ≤ j ∧ j ≤ (l.length : Int) := by omega
    cases lo with
    | none =>
      simp [bnd] at hlo
      subst hlo
      cases hi with
      | none =>
        simp [bnd] at hhi
        subst hhi
        simp [Instr.slice, ht', Instr.sliceBounds]
        have h3 := hext
        simp at h3
        exact h3.symm
      | some y =>
        obtain ⟨k, hk⟩ := bnd_val h hhi
        simp [Instr.slice, ht', Instr.sliceBounds, Instr.sliceBound, hk, asIntOf, hsz, e1]
    | some z =>
      obtain ⟨k', hk'⟩ := bnd_val h hlo
      cases hi with
      | none => simp [bnd] at hhi; subst hhi; simp [Instr.slice, ht', Instr.sliceBounds, Instr.sliceBound, hk', asIntOf, hsz, h0, h1]
      | some y =>
        obtain ⟨k, hk⟩ := bnd_val h hhi
        simp [Instr.slice, ht', Instr.sliceBounds, Instr.sliceBound, hk, hk', asIntOf, hsz, h0, h1, e1, hjn]
  simp only [execOp, ho, hv, Sem.run_bind, Option.map_none]
  rw [hr]; rfl

theorem RepE.split {F : Nat → Prop} {w : World} {sz : Nat} : ∀ {l1 l2 : List AV} {vs : List Value} {fp : List Nat}, RepE L F w sz (l1 ++ l2) vs fp → ∃ v1 v2 f1 f2, vs = v1 ++ v2 ∧ fp = f1 ++ f2 ∧ RepE L F w sz l1 v1 f1 ∧ RepE L F w sz l2 v2 f2
  | [], l2, vs, fp, r => ⟨[], vs, [], fp, rfl, rfl, by simp [RepE], r⟩
  | x :: xs, l2, vs, fp, r => by
    simp only [List.cons_append, RepE] at r
    obtain ⟨y, vs', f1, f2, rfl, hsz, rfl, hx, hxs⟩ := r
    obtain ⟨v1, v2, g1, g2, rfl, rfl, h1, h2⟩ := RepE.split hxs
    exact ⟨y.cells.toList ++ v1, v2, f1 ++ g1, g2, by simp, by simp, by simp only [RepE]; exact ⟨y, v1, f1, g1, rfl, hsz, rfl, hx, h1⟩, h2⟩

theorem lop_slice_sl {t e : TypeId} {x : Operand} {lo hi : Option Operand} {sz bytes : Nat} {l : List AV} {i j : Int} (ho : o.op = .slice t x lo hi none) (ht : elm P t = some (e, sz, bytes)) (hx : ev s.t x = .sl false sz l) (hlo : bnd s.t lo 0 = some i) (hhi : bnd s.t hi l.length = some j)
    (h0 : 0 ≤ i) (h1 : i ≤ j) (h2 : j ≤ l.length) : LOp L P s o (.sl false sz ((l.take j.toNat).drop i.toNat)) [] := by
  obtain ⟨inf, hut, hinf, rfl, rfl⟩ := elm_inv ht
  refine LOp.of_run0 fun B F0 w0 F own fp fs a w h => ?_
  have hr := h.ev x
  rw [hx] at hr
  have hP : P.elem t = e := by simp [Program.elem, hut]
  have hsz : (sizeOf (P.elem t)).run P w = .ok inf.size w := by rw [hP]; simp [sizeOf, typeInfo, hinf]
  have hjn : ((j.toNat : Nat) : Int) = j := by omega
  -- the run, for whatever slice of that length
  have run : ∀ (q : Option Addr) (cap : Nat), l.length ≤ cap → (Instr.sliceAt t (.slice q l.length cap) (lo.map a.eval) (hi.map a.eval) none).run P w = .ok (sliced q i.toNat j.toNat cap inf.size) w := by
    intro q cap hc
    have e1 : 0 ≤ j ∧ j ≤ (cap : Int) := by omega
    rw [run_sliceAt_slice w t _ _ _ _ (elem_of hut), run_slice_any w t q l.length cap (elem_of hut)]
    cases lo with
    | none =>
      simp [bnd] at hlo
      subst hlo
      cases hi with
      | none => simp [bnd] at hhi; subst hhi; simp [Instr.sliceBounds, hsz]
      | some y =>
        obtain ⟨k, hk⟩ := bnd_val h hhi
        simp [Instr.sliceBounds, Instr.sliceBound, hk, asIntOf, e1, hsz]
    | some z =>
      obtain ⟨k', hk'⟩ := bnd_val h hlo
      cases hi with
      | none => simp [bnd] at hhi; subst hhi; simp [Instr.sliceBounds, Instr.sliceBound, hk', asIntOf, h0, h1, hsz]
      | some y =>
        obtain ⟨k, hk⟩ := bnd_val h hhi
        simp [Instr.sliceBounds, Instr.sliceBound, hk, hk', asIntOf, h0, h1, e1, hjn, hsz]
  have hlen : ((l.take j.toNat).drop i.toNat).length = j.toNat - i.toNat := by simp; omega
  simp only [Rep] at hr
  rcases hr with ⟨hv | ⟨_, aa, hv⟩, rfl, _⟩ | ⟨b, off, cap, vals, fp', hv, hlc, hlL, hrow, hE, hF⟩
  · have hi0 : i = 0 := by simp at h2; omega
    have hj0 : j = 0 := by simp at h2; omega
    subst hi0 hj0
    refine ⟨.slice none 0 0, ?_, by simp [Rep]⟩
    have := run none 0 (by simp)
    simp only [List.length_nil] at this
    simp only [execOp, ho, hv, Sem.run_bind, Option.map_none]
    rw [this]; simp [sliced]
  · have hi0 : i = 0 := by simp at h2; omega
    have hj0 : j = 0 := by simp at h2; omega
    subst hi0 hj0
    refine ⟨sliced (some aa) 0 0 0 inf.size, ?_, by simp [Rep, sliced]⟩
    have := run (some aa) 0 (by simp)
    simp only [List.length_nil] at this
    simp only [execOp, ho, hv, Sem.run_bind, Option.map_none]
    rw [this]; rfl
  · rcases hF with ⟨hF, _⟩ | ⟨_, hF, rfl, _⟩
    · cases hF
    · refine ⟨sliced (some ⟨b, off, none⟩) i.toNat j.toNat cap inf.size, ?_, ?_⟩
      · simp only [execOp, ho, hv, Sem.run_bind, Option.map_none]
        rw [run _ cap hlc]; rfl
      · have e1 : l = l.take i.toNat ++ ((l.take j.toNat).drop i.toNat ++ l.drop j.toNat) := by
          have h3 : l.take j.toNat = l.take i.toNat ++ (l.take j.toNat).drop i.toNat := by
            have := List.take_append_drop i.toNat (l.take j.toNat)
            rw [List.take_take, Nat.min_eq_left (by omega)] at this
            exact this.symm
          rw [← List.append_assoc, ← h3, List.take_append_drop]
        rw [e1] at hE
        obtain ⟨v1, v23, f1, f23, rfl, hf, r1, r23⟩ := hE.split
        obtain ⟨v2, v3, f2, f3, rfl, hf2, r2, r3⟩ := r23.split
        have hnil : f1 ++ f23 = [] := hf.symm
        simp only [List.append_eq_nil_iff] at hnil
        obtain ⟨rfl, rfl⟩ := hnil
        have hnil2 : f2 ++ f3 = [] := hf2.symm
        simp only [List.append_eq_nil_iff] at hnil2
        obtain ⟨rfl, rfl⟩ := hnil2
        have hl1 := r1.len
        have hl2 := r2.len
        simp only [List.length_take] at hl1
        rw [Nat.min_eq_left (by omega)] at hl1
        simp only [Rep]
        by_cases hc : cap = i.toNat
        · refine .inr ⟨b, off, 0, [], [], ?_, by omega, by omega, ?_, ?_, .inr ⟨by trivial, hF, rfl, by trivial⟩⟩
          · simp only [sliced, hc, if_true, hlen]; congr 1; omega
          · obtain ⟨c, Ty, z, hc', _⟩ := hrow
            exact ⟨c, Ty, z, hc', by simp⟩
          · have : (l.take j.toNat).drop i.toNat = [] := List.eq_nil_of_length_eq_zero (by omega)
            rw [this]; simp [RepE]
        · refine .inr ⟨b, off + i.toNat * inf.size, cap - i.toNat, v2, [], ?_, by omega, by omega, ?_, r2, .inr ⟨by trivial, hF, rfl, by trivial⟩⟩
          · simp only [sliced, if_neg hc, Option.map_some, add_mk, hlen]
          · have := hrow.cut (i.toNat * inf.size) v2.length
            rw [← hl1, List.drop_left, List.take_left] at this
            rw [← hl1]; exact this

/-- bytes as values -/
def bytesA (l : List UInt8) : List AV := l.map fun c => .v (.int .u8 c.toNat)

theorem bytes_vals {F : Nat → Prop} {w : World} : ∀ {l : List UInt8} {vals : List Value} {f : List Nat}, RepL L F w (bytesA l) vals f → vals = l.map fun c => Value.int .u8 c.toNat
  | [], vals, f, hl => by simp [bytesA, RepL] at hl; simp [hl.1]
  | c :: l, vals, f, hl => by
    simp only [bytesA, List.map_cons, RepL] at hl
    obtain ⟨y, vs', f1, f2, rfl, rfl, hy, hl'⟩ := hl
    simp only [Rep] at hy
    rw [hy.1, bytes_vals hl']; simp

theorem lop_str_of_arr {src dst e : TypeId} {x : Operand} {b : Nat} {l : List UInt8} (ho : o.op = .convert src dst x) (hs : P.underlying src = some (.slice e)) (he : P.underlying e = some (.int .u8)) (hd : P.underlying dst = some .string)
    (hx : ev s.t x = .arr b 0 l.length 1) (hO : O s.o b = some (bytesA l)) (hlen : l.length ≤ 4611686018427387904) : LOp L P s o (S l) [] := by
  refine lop_strv fun B F0 w0 F own fp fs a w h => ⟨?_, hlen⟩
  have hr := h.ev x
  rw [hx] at hr
  simp only [Rep] at hr
  obtain ⟨_, cap, hv, _⟩ := hr
  obtain ⟨vals, f, hrow, hl, _⟩ := h.row hO 0
  simp only [List.drop_zero] at hl
  have hvals := bytes_vals hl
  subst hvals
  have hrun := run_convert_bytes_back (P := P) w src dst e ⟨b, 0, none⟩ cap l hs he hd (fun j hj => by
    rw [add_mk]; exact hrow.cell (by simp [List.getElem?_eq_getElem hj]))
  simp only [execOp, ho, hv, Sem.run_bind, hrun]; rfl

/-- bytes back from values -/
def unb : List AV → Option (List UInt8)
  | [] => some []
  | .v (.int .u8 n) :: l => if 0 ≤ n ∧ n ≤ 255 then (unb l).map (UInt8.ofNat n.toNat :: ·) else none
  | _ => none

theorem unb_bytes : ∀ l : List UInt8, unb (bytesA l) = some l
  | [] => rfl
  | c :: l => by
    have h1 : c.toNat < 256 := c.toNat_lt
    have ih := unb_bytes l
    simp only [bytesA] at ih
    simp only [bytesA, List.map_cons, unb, Int.toNat_natCast, ih, Option.map_some, UInt8.ofNat_toNat]
    rw [if_pos (by omega)]

theorem unb_inv : ∀ {l : List AV} {bs : List UInt8}, unb l = some bs → l = bytesA bs
  | [], bs, h => by simp [unb] at h; subst h; rfl
  | x :: l, bs, h => by
    unfold unb at h
    split at h
    · rename_i e; cases e
    · rename_i n l' e
      cases e
      split at h
      · rename_i hn
        cases hl : unb l with
        | none => rw [hl] at h; cases h
        | some bs' =>
          rw [hl] at h
          simp at h
          subst h
          rw [unb_inv hl]
          have : ((UInt8.ofNat n.toNat).toNat : Int) = n := by
            rw [UInt8.toNat_ofNat']; omega
          simp only [bytesA, List.map_cons, this]
      · cases h
    · cases h

theorem lop_str_of_sl {src dst e : TypeId} {x : Operand} {own' : Bool} {l : List UInt8} (ho : o.op = .convert src dst x) (hs : P.underlying src = some (.slice e)) (he : P.underlying e = some (.int .u8)) (hd : P.underlying dst = some .string)
    (hx : ev s.t x = .sl own' 1 (bytesA l)) (hlen : l.length ≤ 4611686018427387904) : LOp L P s o (S l) [] := by
  refine lop_strv fun B F0 w0 F own fp fs a w h => ⟨?_, hlen⟩
  have hr := h.ev x
  rw [hx] at hr
  simp only [Rep] at hr
  have hfl : (bytesA l).flatMap AV.cells = bytesA l := by
    clear hx hr hlen
    induction l with
    | nil => rfl
    | cons c l ih =>
      simp only [bytesA, List.map_cons, List.flatMap_cons] at ih ⊢
      rw [ih]; rfl
  have hel : ∀ z, z ∈ bytesA l → z.elem 1 = true := by
    intro z hz
    simp only [bytesA, List.mem_map] at hz
    obtain ⟨c, _, rfl⟩ := hz
    rfl
  rcases hr with ⟨hv, hl, _⟩ | ⟨b, off, cap, vals, fp', hv, _, _, hrow, hE, _⟩
  · have : l = [] := by cases l with | nil => rfl | cons c l => simp [bytesA] at hl
    subst this
    rcases hv with hv | ⟨_, aa, hv⟩
    · have hrun := run_convert_bytes_string (P := P) w src dst e none 0 0 hs he hd
      have h0 : (Conv.bytesToString (.slice none 0 0)).run P w = .ok (.string ⟨#[]⟩) w := by
        unfold Conv.bytesToString
        rfl
      rw [h0] at hrun
      simp only [execOp, ho, hv, Sem.run_bind, hrun]; rfl
    · have hrun := run_convert_bytes_back (P := P) w src dst e aa 0 [] hs he hd (fun j hj => by simp at hj)
      simp only [List.length_nil] at hrun
      simp only [execOp, ho, hv, Sem.run_bind, hrun]; rfl
  · have hl := hE.flat hel
    rw [hfl] at hl
    have hvals := bytes_vals hl
    subst hvals
    have hrun := run_convert_bytes_back (P := P) w src dst e ⟨b, off, none⟩ cap l hs he hd (fun j hj => by
      rw [add_mk]; exact hrow.cell (by simp [List.getElem?_eq_getElem hj]))
    have hll : (bytesA l).length = l.length := by simp [bytesA]
    rw [hll] at hv
    simp only [execOp, ho, hv, Sem.run_bind, hrun]; rfl

theorem lop_conv_int {src dst : TypeId} {x : Operand} {k k' : IntKind} {n : Int} {d : TypeDesc} (ho : o.op = .convert src dst x) (hs : P.underlying src = some d) (hd : P.underlying dst = some (.int k)) (hx : ev s.t x = .v (.int k' n)) : LOp L P s o (.v (.int k (k.wrap n))) [] := by
  refine lop_val fun B F0 w0 F own fp fs a w h => ?_
  simp only [execOp, ho, h.val hx, Sem.run_bind, convert, run_underlying hs, run_underlying hd, Result.andThen_ok]
  simp [Conv.intToInt]

theorem lop_makeFunc {f : FuncId} {cap : Array Operand} (ho : o.op = .makeFunc (.func f) #[] cap) (hn : AV.nownL (cap.toList.map (ev s.t)) = true) : LOp L P s o (.fn f (cap.toList.map (ev s.t))) [] := by
  refine LOp.of_run0 fun B F0 w0 F own fp fs a w h => ?_
  refine ⟨.func (.func f) #[] (cap.toList.map a.eval).toArray, ?_, ?_⟩
  · have e : cap.map a.eval = (cap.toList.map a.eval).toArray := by apply Array.ext'; simp
    rw [← e]
    simp [execOp, ho, Instr.makeFunc]
  · simp only [Rep]
    exact ⟨_, rfl, RepL.of_evs h _ hn⟩

theorem lop_min {c : Call} {x y : Operand} {ts : Array TypeId} {k : IntKind} {m n : Int} (ho : o.op = .call c) (hc : c = ⟨.builtin .min, #[x, y], ts⟩) (hx : ev s.t x = .v (.int k m)) (hy : ev s.t y = .v (.int k n)) : LOp L P s o (.v (.int k (if n < m then n else m))) [] := by
  subst hc
  refine lop_val fun B F0 w0 F own fp fs a w h => ?_
  simp [execOp, ho, resolve, invoke, builtin, h.val hx, h.val hy, Builtin.min_, Builtin.min2]

theorem lop_max {c : Call} {x y : Operand} {ts : Array TypeId} {k : IntKind} {m n : Int} (ho : o.op = .call c) (hc : c = ⟨.builtin .max, #[x, y], ts⟩) (hx : ev s.t x = .v (.int k m)) (hy : ev s.t y = .v (.int k n)) : LOp L P s o (.v (.int k (if n > m then n else m))) [] := by
  subst hc
  refine lop_val fun B F0 w0 F own fp fs a w h => ?_
  simp [execOp, ho, resolve, invoke, builtin, h.val hx, h.val hy, Builtin.max_, Builtin.max2]
end ops
end Go.Ab
