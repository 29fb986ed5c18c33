/-
  A logic of abstract values over the model: values, what they stand for in a world, frames.
-/
import Derived.Calls
import Derived.Below
set_option linter.unusedSimpArgs false
set_option linter.unusedVariables false
namespace Go.Ab
open Go.RowKit (Below)

inductive AV where
  | dead
  | v (x : Value)
  | str (l : List UInt8)
  | sl (own : Bool) (sz : Nat) (l : List AV)
  | vp (l : List AV)
  | arr (b off len sz : Nat)
  | ptr (b off : Nat)
  | agg (l : List AV)
  | tup (l : List AV)
  | fn (f : FuncId) (l : List AV)
  | cnd (g : Bool) (x : AV)


def RowAt (w : World) (b off : Nat) (vals : List Value) : Prop :=
  ∃ c T z, w.heap[b]? = some (.cells c T z) ∧ ∀ i, i < vals.length → c[off + i]? = vals[i]?

def OwnBlk (w : World) (b n : Nat) : Prop := ∃ c T, w.heap[b]? = some (.cells c T (0, 0)) ∧ n ≤ c.size

mutual
def Rep (L : Nat → Nat) (F : Nat → Prop) (w : World) : AV → Value → List Nat → Prop
  | .dead, _, fp => fp = []
  | .v x, y, fp => y = x ∧ fp = []
  | .str l, y, fp => y = .string ⟨l.toArray⟩ ∧ l.length ≤ 4611686018427387904 ∧ fp = []
  | .sl own sz l, y, fp => ((y = .slice none 0 0 ∨ own = false ∧ ∃ a, y = .slice (some a) 0 0) ∧ l = [] ∧ fp = []) ∨
      ∃ b off cap vals fp', y = .slice (some ⟨b, off, none⟩) l.length cap ∧ l.length ≤ cap ∧ l.length ≤ L sz ∧ RowAt w b off vals ∧ RepE L F w sz l vals fp' ∧
        (own = true ∧ fp = b :: fp' ∧ off = 0 ∧ OwnBlk w b (off + cap * sz) ∨ own = false ∧ F b ∧ fp' = [] ∧ fp = [])
  | .vp l, y, fp => fp = [] ∧ ∃ b off vals, y = .pointer (some ⟨b, off, none⟩) ∧ F b ∧ RowAt w b off vals ∧ RepL L F w l vals []
  | .arr b off len sz, y, fp => fp = [] ∧ ∃ cap, y = .slice (some ⟨b, off, none⟩) len cap ∧ len ≤ cap ∧ len ≤ L sz ∧ OwnBlk w b (off + cap * sz)
  | .ptr b off, y, fp => y = .pointer (some ⟨b, off, none⟩) ∧ fp = []
  | .agg l, y, fp => ∃ vs : List Value, y = .agg vs.toArray ∧ RepL L F w l vs fp
  | .tup l, y, fp => ∃ vs : List Value, y = .tuple vs.toArray ∧ RepL L F w l vs fp
  | .fn f l, y, fp => ∃ vs : List Value, y = .func (.func f) #[] vs.toArray ∧ RepL L F w l vs fp
  | .cnd g x, y, fp => (g = true → Rep L F w x y fp) ∧ (g = false → y = undef ∧ fp = [])
def RepL (L : Nat → Nat) (F : Nat → Prop) (w : World) : List AV → List Value → List Nat → Prop
  | [], vs, fp => vs = [] ∧ fp = []
  | x :: xs, vs, fp => ∃ y vs' f1 f2, vs = y :: vs' ∧ fp = f1 ++ f2 ∧ Rep L F w x y f1 ∧ RepL L F w xs vs' f2
def RepE (L : Nat → Nat) (F : Nat → Prop) (w : World) (sz : Nat) : List AV → List Value → List Nat → Prop
  | [], vs, fp => vs = [] ∧ fp = []
  | x :: xs, vs, fp => ∃ y vs' f1 f2, vs = y.cells.toList ++ vs' ∧ y.cells.size = sz ∧ fp = f1 ++ f2 ∧ Rep L F w x y f1 ∧ RepE L F w sz xs vs' f2
end

/-- the world w' has the blocks of S as they were, and all blocks of cells with their sizes -/
structure Ext (S : Nat → Prop) (w w' : World) : Prop where
  size : w.heap.size ≤ w'.heap.size
  same : ∀ b, S b → w'.heap[b]? = w.heap[b]?
  shape : ∀ (b : Nat) (c : Array Value) (T : TypeId) (z : Nat × Nat), w.heap[b]? = some (.cells c T z) → ∃ c' : Array Value, w'.heap[b]? = some (.cells c' T z) ∧ c'.size = c.size

/-- the blocks of U are as they were; no block has gone, all blocks of cells have their sizes -/
structure Kp (U : Nat → Prop) (w w' : World) : Prop where
  os : w'.os = w.os
  tape : w'.tape = w.tape
  output : w'.output = w.output
  size : w.heap.size ≤ w'.heap.size
  block : ∀ k, U k → w'.heap[k]? = w.heap[k]?
  shape : ∀ (b : Nat) (c : Array Value) (T : TypeId) (z : Nat × Nat), w.heap[b]? = some (.cells c T z) → ∃ c' : Array Value, w'.heap[b]? = some (.cells c' T z) ∧ c'.size = c.size

theorem Kp.refl (U : Nat → Prop) (w : World) : Kp U w w := ⟨rfl, rfl, rfl, Nat.le_refl _, fun _ _ => rfl, fun _ c _ _ h => ⟨c, h, rfl⟩⟩

theorem Kp.trans {U : Nat → Prop} {a b c : World} (h : Kp U a b) (k : Kp U b c) : Kp U a c := by
  refine ⟨k.os.trans h.os, k.tape.trans h.tape, k.output.trans h.output, Nat.le_trans h.size k.size, fun i hi => (k.block i hi).trans (h.block i hi), fun i cc T z hc => ?_⟩
  obtain ⟨c1, h1, h2⟩ := h.shape i cc T z hc
  obtain ⟨c2, h3, h4⟩ := k.shape i c1 T z h1
  exact ⟨c2, h3, by omega⟩

theorem Kp.mono {U V : Nat → Prop} {w w' : World} (h : Kp U w w') (hU : ∀ b, V b → U b) : Kp V w w' := ⟨h.os, h.tape, h.output, h.size, fun k hk => h.block k (hU k hk), h.shape⟩

theorem Kp.of_ext {U S : Nat → Prop} {n : Nat} {w w' : World} (h : Below n w w') (he : Ext S w w') (hU : ∀ b, U b → b < n) : Kp U w w' := ⟨h.os, h.tape, h.output, h.size, fun k hk => h.block k (hU k hk), he.shape⟩

theorem RowAt.ext {S : Nat → Prop} {w w' : World} (h : Ext S w w') {b off : Nat} {vals : List Value} (hb : S b) (r : RowAt w b off vals) : RowAt w' b off vals := by
  obtain ⟨c, T, z, hc, hi⟩ := r
  exact ⟨c, T, z, by rw [h.same b hb]; exact hc, hi⟩

theorem OwnBlk.ext {S : Nat → Prop} {w w' : World} (h : Ext S w w') {b n : Nat} (r : OwnBlk w b n) : OwnBlk w' b n := by
  obtain ⟨c, T, hc, hi⟩ := r
  obtain ⟨c', h', hs⟩ := h.shape b c T _ hc
  exact ⟨c', T, h', by omega⟩

mutual
theorem Rep.ext {L : Nat → Nat} {S F F' : Nat → Prop} {w w' : World} (h : Ext S w w') (hF : ∀ b, F b → F' b ∧ S b) : ∀ {x : AV} {y : Value} {fp : List Nat}, (∀ b, b ∈ fp → S b) → Rep L F w x y fp → Rep L F' w' x y fp
  | .dead, _, _, _, r => by simpa [Rep] using r
  | .v _, _, _, _, r => by simpa [Rep] using r
  | .str _, _, _, _, r => by simpa [Rep] using r
  | .sl own sz l, y, fp, hS, r => by
    simp only [Rep] at r ⊢
    rcases r with r | ⟨b, off, cap, vals, fp', hy, h1, h2, hrow, he, ho⟩
    · exact .inl r
    · refine .inr ⟨b, off, cap, vals, fp', hy, h1, h2, ?_, ?_, ?_⟩
      · rcases ho with ⟨_, rfl, _⟩ | ⟨_, hb, _, _⟩
        · exact hrow.ext h (hS b (by simp))
        · exact hrow.ext h (hF b hb).2
      · refine RepE.ext h hF (fun b' hb' => ?_) he
        rcases ho with ⟨_, rfl, _⟩ | ⟨_, hb, rfl, _⟩
        · exact hS b' (by simp [hb'])
        · simp at hb'
      · rcases ho with ⟨a, e, o⟩ | ⟨a, hb, e1, e2⟩
        · exact .inl ⟨a, e, o.1, o.2.ext h⟩
        · exact .inr ⟨a, (hF b hb).1, e1, e2⟩
  | .vp l, y, fp, hS, r => by
    simp only [Rep] at r ⊢
    obtain ⟨e, b, off, vals, hy, hb, hrow, hl⟩ := r
    exact ⟨e, b, off, vals, hy, (hF b hb).1, hrow.ext h (hF b hb).2, RepL.ext h hF (by simp) hl⟩
  | .arr b off len sz, y, fp, _, r => by
    simp only [Rep] at r ⊢
    obtain ⟨e, cap, hy, h1, h2, o⟩ := r
    exact ⟨e, cap, hy, h1, h2, o.ext h⟩
  | .ptr _ _, _, _, _, r => by simpa [Rep] using r
  | .agg l, y, fp, hS, r => by
    simp only [Rep] at r ⊢
    obtain ⟨vs, hy, hl⟩ := r
    exact ⟨vs, hy, RepL.ext h hF hS hl⟩
  | .tup l, y, fp, hS, r => by
    simp only [Rep] at r ⊢
    obtain ⟨vs, hy, hl⟩ := r
    exact ⟨vs, hy, RepL.ext h hF hS hl⟩
  | .fn f l, y, fp, hS, r => by
    simp only [Rep] at r ⊢
    obtain ⟨vs, hy, hl⟩ := r
    exact ⟨vs, hy, RepL.ext h hF hS hl⟩
  | .cnd g x, y, fp, hS, r => by
    simp only [Rep] at r ⊢
    exact ⟨fun e => Rep.ext h hF hS (r.1 e), r.2⟩
theorem RepL.ext {L : Nat → Nat} {S F F' : Nat → Prop} {w w' : World} (h : Ext S w w') (hF : ∀ b, F b → F' b ∧ S b) : ∀ {l : List AV} {vs : List Value} {fp : List Nat}, (∀ b, b ∈ fp → S b) → RepL L F w l vs fp → RepL L F' w' l vs fp
  | [], _, _, _, r => by simpa [RepL] using r
  | x :: xs, vs, fp, hS, r => by
    simp only [RepL] at r ⊢
    obtain ⟨y, vs', f1, f2, hv, rfl, hx, hxs⟩ := r
    exact ⟨y, vs', f1, f2, hv, rfl, Rep.ext h hF (fun b hb => hS b (by simp [hb])) hx, RepL.ext h hF (fun b hb => hS b (by simp [hb])) hxs⟩
theorem RepE.ext {L : Nat → Nat} {S F F' : Nat → Prop} {w w' : World} (h : Ext S w w') (hF : ∀ b, F b → F' b ∧ S b) {sz : Nat} : ∀ {l : List AV} {vs : List Value} {fp : List Nat}, (∀ b, b ∈ fp → S b) → RepE L F w sz l vs fp → RepE L F' w' sz l vs fp
  | [], _, _, _, r => by simpa [RepE] using r
  | x :: xs, vs, fp, hS, r => by
    simp only [RepE] at r ⊢
    obtain ⟨y, vs', f1, f2, hv, hsz, rfl, hx, hxs⟩ := r
    exact ⟨y, vs', f1, f2, hv, hsz, rfl, Rep.ext h hF (fun b hb => hS b (by simp [hb])) hx, RepE.ext h hF (fun b hb => hS b (by simp [hb])) hxs⟩
end

mutual
/-- an owned tree as one that is only read -/
def AV.frz : AV → AV
  | .sl o sz l => bif o then .sl false sz (AV.frzL l) else .sl false sz l
  | .agg l => .agg (AV.frzL l)
  | .tup l => .tup (AV.frzL l)
  | .fn f l => .fn f (AV.frzL l)
  | .cnd g x => .cnd g x.frz
  | x => x
def AV.frzL : List AV → List AV
  | [] => []
  | x :: xs => x.frz :: AV.frzL xs
end

theorem AV.frzL_eq (l : List AV) : AV.frzL l = l.map AV.frz := by
  induction l with
  | nil => rfl
  | cons x xs ih => simp [AV.frzL, ih]

mutual
theorem Rep.frz {L : Nat → Nat} {F F' : Nat → Prop} {w : World} (hF : ∀ b, F b → F' b) : ∀ {x : AV} {y : Value} {fp : List Nat}, (∀ b, b ∈ fp → F' b) → Rep L F w x y fp → Rep L F' w x.frz y []
  | .dead, _, _, _, _ => by simp [Rep, AV.frz]
  | .v _, _, _, _, r => by simp only [Rep, AV.frz] at r ⊢; exact ⟨r.1, by trivial⟩
  | .str _, _, _, _, r => by simp only [Rep, AV.frz] at r ⊢; exact ⟨r.1, r.2.1, by trivial⟩
  | .sl true sz l, y, fp, hS, r => by
    simp only [Rep, AV.frz, cond_true] at r ⊢
    rcases r with ⟨r1, rfl, r3⟩ | ⟨b, off, cap, vals, fp', hy, h1, h2, hrow, he, ho⟩
    · exact .inl ⟨r1.imp id (fun e => absurd e.1 (by simp)), by simp [AV.frzL], by trivial⟩
    · have hl : (AV.frzL l).length = l.length := by simp [AV.frzL_eq]
      refine .inr ⟨b, off, cap, vals, [], by rw [hl]; exact hy, by rw [hl]; exact h1, by rw [hl]; exact h2, hrow, ?_, ?_⟩
      · refine RepE.frz hF (fun b' hb' => ?_) he
        rcases ho with ⟨_, rfl, _⟩ | ⟨e, _⟩
        · exact hS b' (by simp [hb'])
        · cases e
      · rcases ho with ⟨a, e, o⟩ | ⟨e, _⟩
        · exact .inr ⟨by trivial, hS b (by simp [e]), by trivial, by trivial⟩
        · cases e
  | .sl false sz l, y, fp, hS, r => by
    simp only [AV.frz, cond_false]
    have h0 : fp = [] := by
      simp only [Rep] at r
      rcases r with ⟨_, _, e⟩ | ⟨_, _, _, _, _, _, _, _, _, _, ho⟩
      · exact e
      · rcases ho with ⟨e, _⟩ | ⟨_, _, _, e⟩
        · cases e
        · exact e
    subst h0
    exact Rep.ext (S := fun _ => True) ⟨Nat.le_refl _, fun _ _ => rfl, fun b c T z h => ⟨c, h, rfl⟩⟩ (fun b h => ⟨hF b h, trivial⟩) (by simp) r
  | .vp l, y, fp, hS, r => by
    simp only [Rep, AV.frz] at r ⊢
    obtain ⟨e, b, off, vals, hy, hb, hrow, hl⟩ := r
    refine ⟨trivial, b, off, vals, hy, hF b hb, hrow, RepL.ext (S := fun _ => True) ⟨Nat.le_refl _, fun _ _ => rfl, fun b c T z h => ⟨c, h, rfl⟩⟩ (fun b h => ⟨hF b h, trivial⟩) (by simp) hl⟩
  | .arr b off len sz, y, fp, _, r => by
    simp only [Rep, AV.frz] at r ⊢
    exact ⟨trivial, r.2⟩
  | .ptr _ _, _, _, _, r => by simp only [Rep, AV.frz] at r ⊢; exact ⟨r.1, by trivial⟩
  | .agg l, y, fp, hS, r => by
    simp only [Rep, AV.frz] at r ⊢
    obtain ⟨vs, hy, hl⟩ := r
    exact ⟨vs, hy, RepL.frz hF hS hl⟩
  | .tup l, y, fp, hS, r => by
    simp only [Rep, AV.frz] at r ⊢
    obtain ⟨vs, hy, hl⟩ := r
    exact ⟨vs, hy, RepL.frz hF hS hl⟩
  | .fn f l, y, fp, hS, r => by
    simp only [Rep, AV.frz] at r ⊢
    obtain ⟨vs, hy, hl⟩ := r
    exact ⟨vs, hy, RepL.frz hF hS hl⟩
  | .cnd g x, y, fp, hS, r => by
    simp only [Rep, AV.frz] at r ⊢
    exact ⟨fun e => Rep.frz hF hS (r.1 e), fun e => ⟨(r.2 e).1, by trivial⟩⟩
theorem RepL.frz {L : Nat → Nat} {F F' : Nat → Prop} {w : World} (hF : ∀ b, F b → F' b) : ∀ {l : List AV} {vs : List Value} {fp : List Nat}, (∀ b, b ∈ fp → F' b) → RepL L F w l vs fp → RepL L F' w (AV.frzL l) vs []
  | [], _, _, _, r => by simp only [RepL, AV.frzL] at r ⊢; exact ⟨r.1, by trivial⟩
  | x :: xs, vs, fp, hS, r => by
    simp only [RepL, AV.frzL] at r ⊢
    obtain ⟨y, vs', f1, f2, hv, rfl, hx, hxs⟩ := r
    exact ⟨y, vs', [], [], hv, rfl, Rep.frz hF (fun b hb => hS b (by simp [hb])) hx, RepL.frz hF (fun b hb => hS b (by simp [hb])) hxs⟩
theorem RepE.frz {L : Nat → Nat} {F F' : Nat → Prop} {w : World} (hF : ∀ b, F b → F' b) {sz : Nat} : ∀ {l : List AV} {vs : List Value} {fp : List Nat}, (∀ b, b ∈ fp → F' b) → RepE L F w sz l vs fp → RepE L F' w sz (AV.frzL l) vs []
  | [], _, _, _, r => by simp only [RepE, AV.frzL] at r ⊢; exact ⟨r.1, by trivial⟩
  | x :: xs, vs, fp, hS, r => by
    simp only [RepE, AV.frzL] at r ⊢
    obtain ⟨y, vs', f1, f2, hv, hsz, rfl, hx, hxs⟩ := r
    exact ⟨y, vs', [], [], hv, hsz, rfl, Rep.frz hF (fun b hb => hS b (by simp [hb])) hx, RepE.frz hF (fun b hb => hS b (by simp [hb])) hxs⟩
end
end Go.Ab
