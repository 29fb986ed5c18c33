/-
  The logic's steps: plain operations.
-/
import Derived.Test.YtkdchlggdcmkbaaAbDen
import Derived.WalkKit
import Derived.Laws.CopyRow
set_option linter.unusedSimpArgs false
set_option linter.unusedVariables false
namespace Go.Ab
open Go.RowKit (Below)

mutual
def AV.nown : AV → Bool
  | .sl o _ _ => !o
  | .agg l => AV.nownL l
  | .tup l => AV.nownL l
  | .fn _ l => AV.nownL l
  | .cnd _ x => x.nown
  | _ => true
def AV.nownL : List AV → Bool
  | [] => true
  | x :: xs => x.nown && AV.nownL xs
end

mutual
theorem Rep.fp_nil {L : Nat → Nat} {F : Nat → Prop} {w : World} : ∀ {x : AV} {y : Value} {fp : List Nat}, x.nown = true → Rep L F w x y fp → fp = []
  | .dead, _, _, _, r => by simpa [Rep] using r
  | .v _, _, _, _, r => by simp only [Rep] at r; exact r.2
  | .str _, _, _, _, r => by simp only [Rep] at r; exact r.2.2
  | .sl own sz l, y, fp, h, r => by
    simp only [Rep] at r
    simp [AV.nown] at h
    subst h
    rcases r with ⟨_, _, e⟩ | ⟨b, off, cap, vals, fp', _, _, _, _, _, ho⟩
    · exact e
    · rcases ho with ⟨e, _⟩ | ⟨_, _, _, e⟩
      · cases e
      · exact e
  | .vp l, _, _, _, r => by simp only [Rep] at r; exact r.1
  | .arr .., _, _, _, r => by simp only [Rep] at r; exact r.1
  | .ptr .., _, _, _, r => by simp only [Rep] at r; exact r.2
  | .agg l, y, fp, h, r => by
    simp only [Rep] at r
    obtain ⟨vs, _, hl⟩ := r
    exact RepL.fp_nil (by simpa [AV.nown] using h) hl
  | .tup l, y, fp, h, r => by
    simp only [Rep] at r
    obtain ⟨vs, _, hl⟩ := r
    exact RepL.fp_nil (by simpa [AV.nown] using h) hl
  | .fn f l, y, fp, h, r => by
    simp only [Rep] at r
    obtain ⟨vs, _, hl⟩ := r
    exact RepL.fp_nil (by simpa [AV.nown] using h) hl
  | .cnd g x, y, fp, h, r => by
    simp only [Rep] at r
    cases g with
    | true => exact Rep.fp_nil (by simpa [AV.nown] using h) (r.1 rfl)
    | false => exact (r.2 rfl).2
theorem RepL.fp_nil {L : Nat → Nat} {F : Nat → Prop} {w : World} : ∀ {l : List AV} {vs : List Value} {fp : List Nat}, AV.nownL l = true → RepL L F w l vs fp → fp = []
  | [], _, _, _, r => by simp only [RepL] at r; exact r.2
  | x :: xs, vs, fp, h, r => by
    simp only [RepL] at r
    obtain ⟨y, vs', f1, f2, _, rfl, hx, hxs⟩ := r
    simp [AV.nownL] at h
    rw [Rep.fp_nil h.1 hx, RepL.fp_nil h.2 hxs]; rfl
end

/-- the slots among the operands that own something -/
def kills (t : List (Nat × AV)) : List Operand → List Nat
  | [] => []
  | .tmp i :: xs => bif (T t i).nown then kills t xs else i :: kills t xs
  | _ :: xs => kills t xs

theorem mem_kills {t : List (Nat × AV)} {xs : List Operand} {i : Nat} (h : .tmp i ∈ xs) (ho : (T t i).nown = false) : i ∈ kills t xs := by
  induction xs with
  | nil => cases h
  | cons x xs ih =>
    cases h with
    | head => simp [kills, ho]
    | tail _ h =>
      have := ih h
      cases x <;> simp only [kills] <;> first | exact this | (cases (T t _).nown <;> simp [this])

def OpW (L : Nat → Nat) (P : Program) (o : Oper) (s : AS) (K : AS → Prop) : Prop :=
  ∀ B F0 w0 a w next Q, Den L B F0 w0 s a w → (∀ s' a' w', K s' → Den L B F0 w0 s' a' w' → next a' w') → o.wp P a w next Q

/-- what an operation that changes nothing of what was there hands on -/
structure Gives (L : Nat → Nat) (F : Nat → Prop) (fp : Nat → List Nat) (C : List Nat) (w : World) (x : AV) (v : Value) (w' : World) : Prop where
  below : Below w.heap.size w w'
  rep : ∃ F' fx, (∀ b, F b → F' b) ∧ (∀ b, F' b → F b ∨ (w.heap.size ≤ b ∧ b < w'.heap.size) ∨ ∃ i, i ∈ C ∧ b ∈ fp i) ∧ Rep L F' w' x v fx ∧ fx.Nodup ∧
    ∀ b, b ∈ fx → ¬ F' b ∧ ((∃ i, i ∈ C ∧ b ∈ fp i) ∨ (w.heap.size ≤ b ∧ b < w'.heap.size))

def LOp (L : Nat → Nat) (P : Program) (s : AS) (o : Oper) (x : AV) (C : List Nat) : Prop :=
  ∀ B F0 w0 F own fp fs a w next Q, DenAt L B F0 w0 F own fp fs s a w → (∀ v w', Gives L F fp C w x v w' → next (a.put o.dst v) w') → o.wp P a w next Q

theorem LOp.opW {L : Nat → Nat} {P : Program} {s : AS} {o : Oper} {x : AV} {C : List Nat} (h : LOp L P s o x C) (hd : dstOK s.n o.dst = true) {K : AS → Prop}
    (hK : K ⟨s.n, put (killL s.t C) o.dst x, s.o⟩) : OpW L P o s K := by
  intro B F0 w0 a w next Q hden hnext
  obtain ⟨F, own, fp, fs, hden⟩ := hden
  refine h B F0 w0 F own fp fs a w next Q hden fun v w' g => hnext _ _ _ hK ?_
  obtain ⟨F', fx, h1, h2, h3, h4, h5⟩ := g.rep
  exact hden.put C o.dst hd g.below h1 h2 h3 h4 h5

/-- an operation that gives a value and leaves the world -/
theorem LOp.of_run {L : Nat → Nat} {P : Program} {s : AS} {o : Oper} {x : AV} {C : List Nat}
    (h : ∀ B F0 w0 F own fp fs a w, DenAt L B F0 w0 F own fp fs s a w → ∃ v fx, (execOp a.eval o).run P w = .ok (.value v) w ∧ Rep L F w x v fx ∧ fx.Nodup ∧ ∀ b, b ∈ fx → ∃ i, i ∈ C ∧ b ∈ fp i) :
    LOp L P s o x C := by
  intro B F0 w0 F own fp fs a w next Q hden hnext
  obtain ⟨v, fx, hr, hx, hn, hfx⟩ := h B F0 w0 F own fp fs a w hden
  unfold Oper.wp
  rw [hr]
  exact hnext v w ⟨Below.refl _ _, F, fx, fun _ h => h, fun _ h => .inl h, hx, hn, fun b hb => ⟨(hfx b hb).elim fun i hi => hden.fp_F hi.2, .inl (hfx b hb)⟩⟩

/-- the same, where the value owns nothing -/
theorem LOp.of_run0 {L : Nat → Nat} {P : Program} {s : AS} {o : Oper} {x : AV}
    (h : ∀ B F0 w0 F own fp fs a w, DenAt L B F0 w0 F own fp fs s a w → ∃ v, (execOp a.eval o).run P w = .ok (.value v) w ∧ Rep L F w x v []) :
    LOp L P s o x [] := by
  refine LOp.of_run fun B F0 w0 F own fp fs a w hden => ?_
  obtain ⟨v, hr, hx⟩ := h B F0 w0 F own fp fs a w hden
  exact ⟨v, [], hr, hx, by simp, by simp⟩

theorem fpo_kills {L : Nat → Nat} {B : Nat → Prop} {F0 : Nat → Prop} {w0 : World} {F : Nat → Prop} {own : Nat → Own} {fp fs : Nat → List Nat} {s : AS} {a : Act} {w : World}
    (h : DenAt L B F0 w0 F own fp fs s a w) {x : Operand} {xs : List Operand} (hx : x ∈ xs) : ∀ b, b ∈ fpo fp x → ∃ i, i ∈ kills s.t xs ∧ b ∈ fp i := by
  intro b hb
  cases x with
  | tmp i =>
    simp only [fpo] at hb
    cases ho : (T s.t i).nown with
    | true => rw [Rep.fp_nil ho (h.slots i)] at hb; simp at hb
    | false => exact ⟨i, mem_kills hx ho, hb⟩
  | const _ => simp [fpo] at hb
  | global _ => simp [fpo] at hb
  | func _ => simp [fpo] at hb

theorem fpo_nodup {L : Nat → Nat} {B : Nat → Prop} {F0 : Nat → Prop} {w0 : World} {F : Nat → Prop} {own : Nat → Own} {fp fs : Nat → List Nat} {s : AS} {a : Act} {w : World}
    (h : DenAt L B F0 w0 F own fp fs s a w) (x : Operand) : (fpo fp x).Nodup := by
  cases x with
  | tmp i => exact h.sn i
  | _ => simp [fpo]

section ops
variable {L : Nat → Nat} {P : Program} {s : AS} {o : Oper}

theorem lop_move {x : Operand} (ho : o.op = .move x ∨ o.op = .assign x) : LOp L P s o (ev s.t x) (kills s.t [x]) := by
  refine LOp.of_run fun B F0 w0 F own fp fs a w h => ⟨a.eval x, fpo fp x, ?_, h.ev x, fpo_nodup h x, fpo_kills h (by simp)⟩
  rcases ho with ho | ho <;> simp [execOp, ho]

theorem lop_val {z : Value} (h : ∀ B F0 w0 F own fp fs a w, DenAt L B F0 w0 F own fp fs s a w → (execOp a.eval o).run P w = .ok (.value z) w) : LOp L P s o (.v z) [] :=
  LOp.of_run0 fun B F0 w0 F own fp fs a w hd => ⟨z, h B F0 w0 F own fp fs a w hd, by simp [Rep]⟩

theorem DenAt.val {B : Nat → Prop} {F0 : Nat → Prop} {w0 : World} {F : Nat → Prop} {own : Nat → Own} {fp fs : Nat → List Nat} {a : Act} {w : World}
    (h : DenAt L B F0 w0 F own fp fs s a w) {x : Operand} {y : Value} (hx : Ab.ev s.t x = .v y) : a.eval x = y := by
  have := h.ev x
  rw [hx] at this
  simp only [Rep] at this
  exact this.1

theorem DenAt.sval {B : Nat → Prop} {F0 : Nat → Prop} {w0 : World} {F : Nat → Prop} {own : Nat → Own} {fp fs : Nat → List Nat} {a : Act} {w : World}
    (h : DenAt L B F0 w0 F own fp fs s a w) {x : Operand} {l : List UInt8} (hx : Ab.ev s.t x = .str l) : a.eval x = .string ⟨l.toArray⟩ ∧ l.length ≤ 4611686018427387904 := by
  have := h.ev x
  rw [hx] at this
  simp only [Rep] at this
  exact ⟨this.1, this.2.1⟩

theorem lop_strv {l : List UInt8} (h : ∀ B F0 w0 F own fp fs a w, DenAt L B F0 w0 F own fp fs s a w → (execOp a.eval o).run P w = .ok (.value (.string ⟨l.toArray⟩)) w ∧ l.length ≤ 4611686018427387904) : LOp L P s o (.str l) [] :=
  LOp.of_run0 fun B F0 w0 F own fp fs a w hd => ⟨_, (h B F0 w0 F own fp fs a w hd).1, by simp only [Rep]; exact ⟨by trivial, (h B F0 w0 F own fp fs a w hd).2, by trivial⟩⟩

/-- an operator on two plain values -/
theorem lop_bin {op : BinOp} {ty ty' : TypeId} {x y : Operand} {u v z : Value} (ho : o.op = .binOp op ty x y ty') (hx : ev s.t x = .v u) (hy : ev s.t y = .v v)
    (hr : ∀ w, (do eqGuard op ty x y u v; binOp op ty u v : Sem Value).run P w = .ok z w) : LOp L P s o (.v z) [] := by
  refine lop_val fun B F0 w0 F own fp fs a w h => ?_
  have := hr w
  simp only [execOp, ho, h.val hx, h.val hy]
  rw [Sem.run_bind, this]
  rfl

theorem lop_un {op : UnOp} {ty : TypeId} {x : Operand} {u z : Value} (ho : o.op = .unOp op ty x) (hx : ev s.t x = .v u)
    (hr : ∀ w, (Op.unary op u).run P w = .ok z w) : LOp L P s o (.v z) [] := by
  refine lop_val fun B F0 w0 F own fp fs a w h => ?_
  simp only [execOp, ho, h.val hx]
  rw [Sem.run_bind, hr w]
  rfl
end ops
end Go.Ab
