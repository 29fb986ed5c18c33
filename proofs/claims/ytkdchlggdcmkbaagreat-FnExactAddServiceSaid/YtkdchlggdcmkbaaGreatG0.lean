/-
  Part of a proof: AbBase, AbDen, AbOps, AbOps2, AbMem, AbApp, AbIns, In4.
-/
import Derived.Calls
import Derived.Below
import Derived.WalkKit
import Derived.Laws.CopyRow
import Derived.Laws.Strings2
import Derived.Laws.AppendOwn
import Derived.Laws.MakeOwn
import Derived.Laws.Append
import Derived.Laws.IdiomStrings
import Derived.Orders
import Derived.Deep.RegionLaw
import Derived.Deep.LoopGhost
import Derived.Lib.Walk
import Derived.Lib.SliceRun
import Derived.Lib.AppendZerosOnto
import Derived.Lib.Overlaps
import Derived.Laws.Externs
import Derived.Test.YtkdchlggdcmkbaaGreatProg
import Derived.KernelRfl
set_option linter.unusedSimpArgs false
set_option linter.unusedVariables false
namespace Go.Ab
open Go.RowKit (Below)

inductive AV where
  | dead
  | v (x : Value)
  | str (l : List UInt8)
  | sl (own : Bool) (sz : Nat) (l : List AV)
  | vp (l : List AV)
  | arr (b off len sz : Nat)
  | ptr (b off : Nat)
  | agg (l : List AV)
  | tup (l : List AV)
  | fn (f : FuncId) (l : List AV)
  | cnd (g : Bool) (x : AV)
  | pin (v : Value) (x : AV)


def RowAt (w : World) (b off : Nat) (vals : List Value) : Prop :=
  ∃ c T z, w.heap[b]? = some (.cells c T z) ∧ ∀ i, i < vals.length → c[off + i]? = vals[i]?

def OwnBlk (w : World) (b n : Nat) : Prop := ∃ c T, w.heap[b]? = some (.cells c T (0, 0)) ∧ n ≤ c.size

mutual
def Rep (L : Nat → Nat) (F : Nat → Prop) (w : World) : AV → Value → List Nat → Prop
  | .dead, _, fp => fp = []
  | .v x, y, fp => y = x ∧ fp = []
  | .str l, y, fp => y = .string ⟨l.toArray⟩ ∧ l.length ≤ 4611686018427387904 ∧ fp = []
  | .sl own sz l, y, fp => ((y = .slice none 0 0 ∨ own = false ∧ ∃ a, y = .slice (some a) 0 0) ∧ l = [] ∧ fp = []) ∨
      ∃ b off cap vals fp', y = .slice (some ⟨b, off, none⟩) l.length cap ∧ l.length ≤ cap ∧ l.length ≤ L sz ∧ RowAt w b off vals ∧ RepE L F w sz l vals fp' ∧
        (own = true ∧ fp = b :: fp' ∧ off = 0 ∧ OwnBlk w b (off + cap * sz) ∨ own = false ∧ F b ∧ fp' = [] ∧ fp = [])
  | .vp l, y, fp => fp = [] ∧ ∃ b off vals, y = .pointer (some ⟨b, off, none⟩) ∧ F b ∧ RowAt w b off vals ∧ RepL L F w l vals []
  | .arr b off len sz, y, fp => fp = [] ∧ ∃ cap, y = .slice (some ⟨b, off, none⟩) len cap ∧ len ≤ cap ∧ len ≤ L sz ∧ OwnBlk w b (off + cap * sz)
  | .ptr b off, y, fp => y = .pointer (some ⟨b, off, none⟩) ∧ fp = []
  | .agg l, y, fp => ∃ vs : List Value, y = .agg vs.toArray ∧ RepL L F w l vs fp
  | .tup l, y, fp => ∃ vs : List Value, y = .tuple vs.toArray ∧ RepL L F w l vs fp
  | .fn f l, y, fp => ∃ vs : List Value, y = .func (.func f) #[] vs.toArray ∧ RepL L F w l vs fp
  | .cnd g x, y, fp => (g = true → Rep L F w x y fp) ∧ (g = false → y = undef ∧ fp = [])
  | .pin v x, y, fp => y = v ∧ Rep L F w x y fp
def RepL (L : Nat → Nat) (F : Nat → Prop) (w : World) : List AV → List Value → List Nat → Prop
  | [], vs, fp => vs = [] ∧ fp = []
  | x :: xs, vs, fp => ∃ y vs' f1 f2, vs = y :: vs' ∧ fp = f1 ++ f2 ∧ Rep L F w x y f1 ∧ RepL L F w xs vs' f2
def RepE (L : Nat → Nat) (F : Nat → Prop) (w : World) (sz : Nat) : List AV → List Value → List Nat → Prop
  | [], vs, fp => vs = [] ∧ fp = []
  | x :: xs, vs, fp => ∃ y vs' f1 f2, vs = y.cells.toList ++ vs' ∧ y.cells.size = sz ∧ fp = f1 ++ f2 ∧ Rep L F w x y f1 ∧ RepE L F w sz xs vs' f2
end

structure Ext (S : Nat → Prop) (w w' : World) : Prop where
  size : w.heap.size ≤ w'.heap.size
  same : ∀ b, S b → w'.heap[b]? = w.heap[b]?
  shape : ∀ (b : Nat) (c : Array Value) (T : TypeId) (z : Nat × Nat), w.heap[b]? = some (.cells c T z) → ∃ c' : Array Value, w'.heap[b]? = some (.cells c' T z) ∧ c'.size = c.size

structure Kp (U : Nat → Prop) (w w' : World) : Prop where
  os : w'.os = w.os
  tape : w'.tape = w.tape
  output : w'.output = w.output
  size : w.heap.size ≤ w'.heap.size
  block : ∀ k, U k → w'.heap[k]? = w.heap[k]?
  shape : ∀ (b : Nat) (c : Array Value) (T : TypeId) (z : Nat × Nat), w.heap[b]? = some (.cells c T z) → ∃ c' : Array Value, w'.heap[b]? = some (.cells c' T z) ∧ c'.size = c.size

theorem Kp.refl (U : Nat → Prop) (w : World) : Kp U w w := ⟨rfl, rfl, rfl, Nat.le_refl _, fun _ _ => rfl, fun _ c _ _ h => ⟨c, h, rfl⟩⟩

theorem Kp.trans {U : Nat → Prop} {a b c : World} (h : Kp U a b) (k : Kp U b c) : Kp U a c := by
  refine ⟨k.os.trans h.os, k.tape.trans h.tape, k.output.trans h.output, Nat.le_trans h.size k.size, fun i hi => (k.block i hi).trans (h.block i hi), fun i cc T z hc => ?_⟩
  obtain ⟨c1, h1, h2⟩ := h.shape i cc T z hc
  obtain ⟨c2, h3, h4⟩ := k.shape i c1 T z h1
  exact ⟨c2, h3, by omega⟩

theorem Kp.mono {U V : Nat → Prop} {w w' : World} (h : Kp U w w') (hU : ∀ b, V b → U b) : Kp V w w' := ⟨h.os, h.tape, h.output, h.size, fun k hk => h.block k (hU k hk), h.shape⟩

theorem Kp.of_ext {U S : Nat → Prop} {n : Nat} {w w' : World} (h : Below n w w') (he : Ext S w w') (hU : ∀ b, U b → b < n) : Kp U w w' := ⟨h.os, h.tape, h.output, h.size, fun k hk => h.block k (hU k hk), he.shape⟩

theorem RowAt.ext {S : Nat → Prop} {w w' : World} (h : Ext S w w') {b off : Nat} {vals : List Value} (hb : S b) (r : RowAt w b off vals) : RowAt w' b off vals := by
  obtain ⟨c, T, z, hc, hi⟩ := r
  exact ⟨c, T, z, by rw [h.same b hb]; exact hc, hi⟩

theorem OwnBlk.ext {S : Nat → Prop} {w w' : World} (h : Ext S w w') {b n : Nat} (r : OwnBlk w b n) : OwnBlk w' b n := by
  obtain ⟨c, T, hc, hi⟩ := r
  obtain ⟨c', h', hs⟩ := h.shape b c T _ hc
  exact ⟨c', T, h', by omega⟩

mutual
theorem Rep.ext {L : Nat → Nat} {S F F' : Nat → Prop} {w w' : World} (h : Ext S w w') (hF : ∀ b, F b → F' b ∧ S b) : ∀ {x : AV} {y : Value} {fp : List Nat}, (∀ b, b ∈ fp → S b) → Rep L F w x y fp → Rep L F' w' x y fp
  | .dead, _, _, _, r => by simpa [Rep] using r
  | .v _, _, _, _, r => by simpa [Rep] using r
  | .str _, _, _, _, r => by simpa [Rep] using r
  | .sl own sz l, y, fp, hS, r => by
    simp only [Rep] at r ⊢
    rcases r with r | ⟨b, off, cap, vals, fp', hy, h1, h2, hrow, he, ho⟩
    · exact .inl r
    · refine .inr ⟨b, off, cap, vals, fp', hy, h1, h2, ?_, ?_, ?_⟩
      · rcases ho with ⟨_, rfl, _⟩ | ⟨_, hb, _, _⟩
        · exact hrow.ext h (hS b (by simp))
        · exact hrow.ext h (hF b hb).2
      · refine RepE.ext h hF (fun b' hb' => ?_) he
        rcases ho with ⟨_, rfl, _⟩ | ⟨_, hb, rfl, _⟩
        · exact hS b' (by simp [hb'])
        · simp at hb'
      · rcases ho with ⟨a, e, o⟩ | ⟨a, hb, e1, e2⟩
        · exact .inl ⟨a, e, o.1, o.2.ext h⟩
        · exact .inr ⟨a, (hF b hb).1, e1, e2⟩
  | .vp l, y, fp, hS, r => by
    simp only [Rep] at r ⊢
    obtain ⟨e, b, off, vals, hy, hb, hrow, hl⟩ := r
    exact ⟨e, b, off, vals, hy, (hF b hb).1, hrow.ext h (hF b hb).2, RepL.ext h hF (by simp) hl⟩
  | .arr b off len sz, y, fp, _, r => by
    simp only [Rep] at r ⊢
    obtain ⟨e, cap, hy, h1, h2, o⟩ := r
    exact ⟨e, cap, hy, h1, h2, o.ext h⟩
  | .ptr _ _, _, _, _, r => by simpa [Rep] using r
  | .agg l, y, fp, hS, r => by
    simp only [Rep] at r ⊢
    obtain ⟨vs, hy, hl⟩ := r
    exact ⟨vs, hy, RepL.ext h hF hS hl⟩
  | .tup l, y, fp, hS, r => by
    simp only [Rep] at r ⊢
    obtain ⟨vs, hy, hl⟩ := r
    exact ⟨vs, hy, RepL.ext h hF hS hl⟩
  | .fn f l, y, fp, hS, r => by
    simp only [Rep] at r ⊢
    obtain ⟨vs, hy, hl⟩ := r
    exact ⟨vs, hy, RepL.ext h hF hS hl⟩
  | .cnd g x, y, fp, hS, r => by
    simp only [Rep] at r ⊢
    exact ⟨fun e => Rep.ext h hF hS (r.1 e), r.2⟩
  | .pin v x, y, fp, hS, r => by
    simp only [Rep] at r ⊢
    exact ⟨r.1, Rep.ext h hF hS r.2⟩
theorem RepL.ext {L : Nat → Nat} {S F F' : Nat → Prop} {w w' : World} (h : Ext S w w') (hF : ∀ b, F b → F' b ∧ S b) : ∀ {l : List AV} {vs : List Value} {fp : List Nat}, (∀ b, b ∈ fp → S b) → RepL L F w l vs fp → RepL L F' w' l vs fp
  | [], _, _, _, r => by simpa [RepL] using r
  | x :: xs, vs, fp, hS, r => by
    simp only [RepL] at r ⊢
    obtain ⟨y, vs', f1, f2, hv, rfl, hx, hxs⟩ := r
    exact ⟨y, vs', f1, f2, hv, rfl, Rep.ext h hF (fun b hb => hS b (by simp [hb])) hx, RepL.ext h hF (fun b hb => hS b (by simp [hb])) hxs⟩
theorem RepE.ext {L : Nat → Nat} {S F F' : Nat → Prop} {w w' : World} (h : Ext S w w') (hF : ∀ b, F b → F' b ∧ S b) {sz : Nat} : ∀ {l : List AV} {vs : List Value} {fp : List Nat}, (∀ b, b ∈ fp → S b) → RepE L F w sz l vs fp → RepE L F' w' sz l vs fp
  | [], _, _, _, r => by simpa [RepE] using r
  | x :: xs, vs, fp, hS, r => by
    simp only [RepE] at r ⊢
    obtain ⟨y, vs', f1, f2, hv, hsz, rfl, hx, hxs⟩ := r
    exact ⟨y, vs', f1, f2, hv, hsz, rfl, Rep.ext h hF (fun b hb => hS b (by simp [hb])) hx, RepE.ext h hF (fun b hb => hS b (by simp [hb])) hxs⟩
end

mutual
def AV.frz : AV → AV
  | .sl o sz l => bif o then .sl false sz (AV.frzL l) else .sl false sz l
  | .agg l => .agg (AV.frzL l)
  | .tup l => .tup (AV.frzL l)
  | .fn f l => .fn f (AV.frzL l)
  | .cnd g x => .cnd g x.frz
  | .pin _ x => x.frz
  | x => x
def AV.frzL : List AV → List AV
  | [] => []
  | x :: xs => x.frz :: AV.frzL xs
end

theorem AV.frzL_eq (l : List AV) : AV.frzL l = l.map AV.frz := by
  induction l with
  | nil => rfl
  | cons x xs ih => simp [AV.frzL, ih]

mutual
theorem Rep.frz {L : Nat → Nat} {F F' : Nat → Prop} {w : World} (hF : ∀ b, F b → F' b) : ∀ {x : AV} {y : Value} {fp : List Nat}, (∀ b, b ∈ fp → F' b) → Rep L F w x y fp → Rep L F' w x.frz y []
  | .dead, _, _, _, _ => by simp [Rep, AV.frz]
  | .v _, _, _, _, r => by simp only [Rep, AV.frz] at r ⊢; exact ⟨r.1, by trivial⟩
  | .str _, _, _, _, r => by simp only [Rep, AV.frz] at r ⊢; exact ⟨r.1, r.2.1, by trivial⟩
  | .sl true sz l, y, fp, hS, r => by
    simp only [Rep, AV.frz, cond_true] at r ⊢
    rcases r with ⟨r1, rfl, r3⟩ | ⟨b, off, cap, vals, fp', hy, h1, h2, hrow, he, ho⟩
    · exact .inl ⟨r1.imp id (fun e => absurd e.1 (by simp)), by simp [AV.frzL], by trivial⟩
    · have hl : (AV.frzL l).length = l.length := by simp [AV.frzL_eq]
      refine .inr ⟨b, off, cap, vals, [], by rw [hl]; exact hy, by rw [hl]; exact h1, by rw [hl]; exact h2, hrow, ?_, ?_⟩
      · refine RepE.frz hF (fun b' hb' => ?_) he
        rcases ho with ⟨_, rfl, _⟩ | ⟨e, _⟩
        · exact hS b' (by simp [hb'])
        · cases e
      · rcases ho with ⟨a, e, o⟩ | ⟨e, _⟩
        · exact .inr ⟨by trivial, hS b (by simp [e]), by trivial, by trivial⟩
        · cases e
  | .sl false sz l, y, fp, hS, r => by
    simp only [AV.frz, cond_false]
    have h0 : fp = [] := by
      simp only [Rep] at r
      rcases r with ⟨_, _, e⟩ | ⟨_, _, _, _, _, _, _, _, _, _, ho⟩
      · exact e
      · rcases ho with ⟨e, _⟩ | ⟨_, _, _, e⟩
        · cases e
        · exact e
    subst h0
    exact Rep.ext (S := fun _ => True) ⟨Nat.le_refl _, fun _ _ => rfl, fun b c T z h => ⟨c, h, rfl⟩⟩ (fun b h => ⟨hF b h, trivial⟩) (by simp) r
  | .vp l, y, fp, hS, r => by
    simp only [Rep, AV.frz] at r ⊢
    obtain ⟨e, b, off, vals, hy, hb, hrow, hl⟩ := r
    refine ⟨trivial, b, off, vals, hy, hF b hb, hrow, RepL.ext (S := fun _ => True) ⟨Nat.le_refl _, fun _ _ => rfl, fun b c T z h => ⟨c, h, rfl⟩⟩ (fun b h => ⟨hF b h, trivial⟩) (by simp) hl⟩
  | .arr b off len sz, y, fp, _, r => by
    simp only [Rep, AV.frz] at r ⊢
    exact ⟨trivial, r.2⟩
  | .ptr _ _, _, _, _, r => by simp only [Rep, AV.frz] at r ⊢; exact ⟨r.1, by trivial⟩
  | .agg l, y, fp, hS, r => by
    simp only [Rep, AV.frz] at r ⊢
    obtain ⟨vs, hy, hl⟩ := r
    exact ⟨vs, hy, RepL.frz hF hS hl⟩
  | .tup l, y, fp, hS, r => by
    simp only [Rep, AV.frz] at r ⊢
    obtain ⟨vs, hy, hl⟩ := r
    exact ⟨vs, hy, RepL.frz hF hS hl⟩
  | .fn f l, y, fp, hS, r => by
    simp only [Rep, AV.frz] at r ⊢
    obtain ⟨vs, hy, hl⟩ := r
    exact ⟨vs, hy, RepL.frz hF hS hl⟩
  | .cnd g x, y, fp, hS, r => by
    simp only [Rep, AV.frz] at r ⊢
    exact ⟨fun e => Rep.frz hF hS (r.1 e), fun e => ⟨(r.2 e).1, by trivial⟩⟩
  | .pin v x, y, fp, hS, r => by
    simp only [Rep, AV.frz] at r ⊢
    exact Rep.frz hF hS r.2
theorem RepL.frz {L : Nat → Nat} {F F' : Nat → Prop} {w : World} (hF : ∀ b, F b → F' b) : ∀ {l : List AV} {vs : List Value} {fp : List Nat}, (∀ b, b ∈ fp → F' b) → RepL L F w l vs fp → RepL L F' w (AV.frzL l) vs []
  | [], _, _, _, r => by simp only [RepL, AV.frzL] at r ⊢; exact ⟨r.1, by trivial⟩
  | x :: xs, vs, fp, hS, r => by
    simp only [RepL, AV.frzL] at r ⊢
    obtain ⟨y, vs', f1, f2, hv, rfl, hx, hxs⟩ := r
    exact ⟨y, vs', [], [], hv, rfl, Rep.frz hF (fun b hb => hS b (by simp [hb])) hx, RepL.frz hF (fun b hb => hS b (by simp [hb])) hxs⟩
theorem RepE.frz {L : Nat → Nat} {F F' : Nat → Prop} {w : World} (hF : ∀ b, F b → F' b) {sz : Nat} : ∀ {l : List AV} {vs : List Value} {fp : List Nat}, (∀ b, b ∈ fp → F' b) → RepE L F w sz l vs fp → RepE L F' w sz (AV.frzL l) vs []
  | [], _, _, _, r => by simp only [RepE, AV.frzL] at r ⊢; exact ⟨r.1, by trivial⟩
  | x :: xs, vs, fp, hS, r => by
    simp only [RepE, AV.frzL] at r ⊢
    obtain ⟨y, vs', f1, f2, hv, hsz, rfl, hx, hxs⟩ := r
    exact ⟨y, vs', [], [], hv, hsz, rfl, Rep.frz hF (fun b hb => hS b (by simp [hb])) hx, RepE.frz hF (fun b hb => hS b (by simp [hb])) hxs⟩
end
end Go.Ab
namespace Go.Ab
open Go.RowKit (Below)

inductive Own where
  | none
  | key
  | slot (i : Nat)
  | obj (b : Nat)

def T : List (Nat × AV) → Nat → AV
  | [], _ => .dead
  | p :: l, i => bif p.1 == i then p.2 else T l i

def O : List (Nat × Option (List AV)) → Nat → Option (List AV)
  | [], _ => none
  | p :: l, b => if p.1 = b then p.2 else O l b

structure AS where
  n : Nat
  t : List (Nat × AV)
  o : List (Nat × Option (List AV))

def avz : Value → AV
  | .string s => bif Nat.ble s.data.toList.length 4611686018427387904 then .str s.data.toList else .dead
  | x => .v x

def ev (t : List (Nat × AV)) : Operand → AV
  | .tmp i => T t i
  | .const x => avz x
  | .global g => .v (.pointer (some ⟨g, 0, none⟩))
  | .func f => .v (.func (.func f) #[] #[])

def fpo (fp : Nat → List Nat) : Operand → List Nat
  | .tmp i => fp i
  | _ => []

def put (t : List (Nat × AV)) (d : Option Nat) (x : AV) : List (Nat × AV) :=
  match d with
  | some d => (d, x) :: t
  | none => t

def killL (t : List (Nat × AV)) : List Nat → List (Nat × AV)
  | [] => t
  | i :: C => (i, .dead) :: killL t C

def dstOK (n : Nat) : Option Nat → Bool
  | some d => Nat.blt d n
  | none => true

structure StoAt (L : Nat → Nat) (B : Nat → Prop) (F0 : Nat → Prop) (w0 : World) (F : Nat → Prop) (own : Nat → Own) (fs : Nat → List Nat) (o : List (Nat × Option (List AV))) (w : World) : Prop where
  below : Kp B w0 w
  hB : ∀ b, B b → b < w.heap.size
  f0 : ∀ b, F0 b → F b
  fl : ∀ b, F b → own b = .none ∧ b < w.heap.size ∧ (F0 b ∨ ¬ B b)
  ol : ∀ b, own b ≠ .none → ¬ B b ∧ b < w.heap.size
  obj : ∀ b cells, O o b = some cells → own b = .key ∧ (fs b).Nodup ∧ (∀ k, k ∈ fs b → own k = .obj b) ∧
    ∃ (c : Array Value) (Ty : TypeId) (vals rest : List Value), w.heap[b]? = some (.cells c Ty (0, 0)) ∧ c.toList = vals ++ rest ∧ RepL L F w cells vals (fs b)

structure DenAt (L : Nat → Nat) (B : Nat → Prop) (F0 : Nat → Prop) (w0 : World) (F : Nat → Prop) (own : Nat → Own) (fp fs : Nat → List Nat) (s : AS) (a : Act) (w : World) : Prop where
  below : Kp B w0 w
  hB : ∀ b, B b → b < w.heap.size
  f0 : ∀ b, F0 b → F b
  fl : ∀ b, F b → own b = .none ∧ b < w.heap.size ∧ (F0 b ∨ ¬ B b)
  ol : ∀ b, own b ≠ .none → ¬ B b ∧ b < w.heap.size
  defers : a.defers = []
  size : a.tmps.size = s.n
  slots : ∀ i, Rep L F w (T s.t i) (a.tmps.getD i undef) (fp i)
  sn : ∀ i, (fp i).Nodup
  so : ∀ i b, b ∈ fp i → own b = .slot i
  obj : ∀ b cells, O s.o b = some cells → own b = .key ∧ (fs b).Nodup ∧ (∀ k, k ∈ fs b → own k = .obj b) ∧
    ∃ (c : Array Value) (Ty : TypeId) (vals rest : List Value), w.heap[b]? = some (.cells c Ty (0, 0)) ∧ c.toList = vals ++ rest ∧ RepL L F w cells vals (fs b)

def Den (L : Nat → Nat) (B : Nat → Prop) (F0 : Nat → Prop) (w0 : World) (s : AS) (a : Act) (w : World) : Prop :=
  ∃ F own fp fs, DenAt L B F0 w0 F own fp fs s a w

theorem Ext.of_below {w w' : World} (h : Below w.heap.size w w') : Ext (fun b => b < w.heap.size) w w' := by
  refine ⟨h.size, fun b hb => h.block b hb, fun b c T z hc => ⟨c, ?_, rfl⟩⟩
  have hb : b < w.heap.size := by
    rcases Nat.lt_or_ge b w.heap.size with h | h
    · exact h
    · rw [Array.getElem?_eq_none h] at hc; cases hc
  rw [h.block b hb]; exact hc

def Kept (fp : Nat → List Nat) (C : List Nat) (w : World) (b : Nat) : Prop := b < w.heap.size ∧ ¬ ∃ i, i ∈ C ∧ b ∈ fp i
theorem Kp.of_below {fp : Nat → List Nat} {C : List Nat} {w w' : World} (h : Below w.heap.size w w') : Kp (Kept fp C w) w w' := Kp.of_ext h (Ext.of_below h) fun _ hb => hb.1

theorem rep_avz {L : Nat → Nat} {F : Nat → Prop} {w : World} (x : Value) : Rep L F w (avz x) x [] := by
  cases x with
  | string s =>
    simp only [avz]
    cases h : Nat.ble s.data.toList.length 4611686018427387904 with
    | true => simp only [cond_true, Rep]; exact ⟨by cases s; simp, Nat.le_of_ble_eq_true h, by trivial⟩
    | false => simp [Rep]
  | _ => simp [avz, Rep]

theorem DenAt.ev {L : Nat → Nat} {B : Nat → Prop} {F0 : Nat → Prop} {w0 : World} {F : Nat → Prop} {own : Nat → Own} {fp fs : Nat → List Nat} {s : AS} {a : Act} {w : World}
    (h : DenAt L B F0 w0 F own fp fs s a w) (x : Operand) : Rep L F w (ev s.t x) (a.eval x) (fpo fp x) := by
  cases x with
  | tmp i => exact h.slots i
  | const v => exact rep_avz v
  | global g => simp [Ab.ev, Rep, Act.eval, fpo]
  | func f => simp [Ab.ev, Rep, Act.eval, fpo]

theorem T_put (t : List (Nat × AV)) (d : Option Nat) (x : AV) (i : Nat) : T (put t d x) i = if d = some i then x else T t i := by
  cases d with
  | none => simp [put]
  | some d =>
    by_cases h : d = i
    · simp [put, T, h]
    · have : (d == i) = false := by simpa using h
      simp [put, T, h, this]

theorem T_kill (t : List (Nat × AV)) (C : List Nat) (i : Nat) : T (killL t C) i = if i ∈ C then .dead else T t i := by
  induction C with
  | nil => simp [killL]
  | cons j C ih =>
    by_cases h : j = i
    · simp [killL, T, h]
    · have : (j == i) = false := by simpa using h
      have h' : ¬ i = j := fun e => h e.symm
      simp [killL, T, this, ih, h']

theorem getD_put (a : Act) (d : Option Nat) (v : Value) (i : Nat) (hd : dstOK a.tmps.size d = true) :
    (a.put d v).tmps.getD i undef = if d = some i then v else a.tmps.getD i undef := by
  cases d with
  | none => simp [Act.put]
  | some d =>
    have hd' : d < a.tmps.size := by simpa [dstOK] using hd
    simp only [Act.put, Array.getD_eq_getD_getElem?, Array.getElem?_setIfInBounds]
    by_cases h : d = i
    · subst h; simp [hd']
    · simp [h]

section
variable {L : Nat → Nat} {B : Nat → Prop} {F0 : Nat → Prop} {w0 : World} {F : Nat → Prop} {own : Nat → Own} {fp fs : Nat → List Nat} {s : AS} {a : Act} {w : World}

theorem DenAt.fp_lt (h : DenAt L B F0 w0 F own fp fs s a w) {i b : Nat} (hb : b ∈ fp i) : ¬ B b ∧ b < w.heap.size :=
  h.ol b (by rw [h.so i b hb]; simp)

theorem DenAt.put (h : DenAt L B F0 w0 F own fp fs s a w) {w' : World} {F' : Nat → Prop} {x : AV} {v : Value} {fx : List Nat} (C : List Nat) (d : Option Nat)
    (hd : dstOK s.n d = true) (hb : Kp (Kept fp C w) w w') (hF : ∀ b, F b → F' b) (hF' : ∀ b, F' b → F b ∨ (w.heap.size ≤ b ∧ b < w'.heap.size) ∨ ∃ i, i ∈ C ∧ b ∈ fp i)
    (hx : Rep L F' w' x v fx) (hn : fx.Nodup) (hfx : ∀ b, b ∈ fx → ¬ F' b ∧ ((∃ i, i ∈ C ∧ b ∈ fp i) ∨ (w.heap.size ≤ b ∧ b < w'.heap.size))) :
    Den L B F0 w0 ⟨s.n, Ab.put (killL s.t C) d x, s.o⟩ (a.put d v) w' := by
  have hext : Ext (Kept fp C w) w w' := ⟨hb.size, hb.block, hb.shape⟩
  have hsz := hb.size
  have hB := h.hB
  have hFS : ∀ b, F b → F' b ∧ Kept fp C w b := fun b hb' => ⟨hF b hb', (h.fl b hb').2.1, fun ⟨i, _, hbi⟩ => by have e1 := (h.fl b hb').1; rw [h.so i b hbi] at e1; cases e1⟩
  classical
  let own' : Nat → Own := fun b => if b ∈ fx then (match d with | some d => .slot d | none => .none) else if (∃ i, i ∈ C ∧ b ∈ fp i) then .none else own b
  have hother : ∀ b, own b ≠ .none → (∀ i, i ∈ C → own b ≠ .slot i) → b ∉ fx ∧ ¬ ∃ i, i ∈ C ∧ b ∈ fp i := by
    intro b h1 h2
    have h3 : ¬ ∃ i, i ∈ C ∧ b ∈ fp i := fun ⟨i, hi, hbi⟩ => h2 i hi (h.so i b hbi)
    refine ⟨fun hbx => ?_, h3⟩
    rcases (hfx b hbx).2 with e | ⟨h4, _⟩
    · exact h3 e
    · have := (h.ol b h1).2; omega
  refine ⟨F', own', fun i => if d = some i then fx else if i ∈ C then [] else fp i, fs, ?_⟩
  refine { below := ?_, hB := fun b hb' => Nat.lt_of_lt_of_le (hB b hb') hsz, f0 := fun b hb' => hF b (h.f0 b hb'), fl := ?_, ol := ?_, defers := ?_, size := ?_, slots := ?_, sn := ?_, so := ?_, obj := ?_ }
  · exact h.below.trans (hb.mono fun b hb' => ⟨hB b hb', fun ⟨i, _, hbi⟩ => (h.fp_lt hbi).1 hb'⟩)
  · intro b hb'
    have hnx : b ∉ fx := fun hbx => (hfx b hbx).1 hb'
    rcases hF' b hb' with h4 | h4 | ⟨i, hi, hbi⟩
    · refine ⟨?_, by have := (h.fl b h4).2.1; omega, (h.fl b h4).2.2⟩
      have : ¬ ∃ i, i ∈ C ∧ b ∈ fp i := fun ⟨i, hi, hbi⟩ => by have e1 := (h.fl b h4).1; rw [h.so i b hbi] at e1; cases e1
      simp only [own', if_neg hnx, if_neg this]; exact (h.fl b h4).1
    · refine ⟨?_, h4.2, .inr fun e => by have := hB b e; omega⟩
      have : ¬ ∃ i, i ∈ C ∧ b ∈ fp i := fun ⟨i, hi, hbi⟩ => by have := (h.fp_lt hbi).2; omega
      simp only [own', if_neg hnx, if_neg this]
      rcases Classical.em (own b = .none) with e | e
      · exact e
      · have := (h.ol b e).2; omega
    · have := h.fp_lt hbi
      exact ⟨by simp only [own', if_neg hnx]; rw [if_pos ⟨i, hi, hbi⟩], by omega, .inr this.1⟩
  · intro b hb'
    simp only [own'] at hb'
    by_cases hbx : b ∈ fx
    · rcases (hfx b hbx).2 with ⟨i, hi, hbi⟩ | ⟨h3, h4⟩
      · have := h.fp_lt hbi; exact ⟨this.1, by omega⟩
      · exact ⟨fun e => by have := hB b e; omega, h4⟩
    · rw [if_neg hbx] at hb'
      by_cases e : ∃ i, i ∈ C ∧ b ∈ fp i
      · rw [if_pos e] at hb'; exact absurd rfl hb'
      · rw [if_neg e] at hb'
        have := h.ol b hb'; exact ⟨this.1, by omega⟩
  · cases d <;> simpa [Act.put] using h.defers
  · cases d <;> simpa [Act.put] using h.size
  · intro i
    simp only [T_put, T_kill]
    rw [getD_put a d v i (by rw [h.size]; exact hd)]
    by_cases e : d = some i
    · simp only [e, if_true]; exact hx
    · simp only [if_neg e]
      by_cases hi : i ∈ C
      · simp only [if_pos hi]; simp [Rep]
      · simp only [if_neg hi]
        exact Rep.ext hext hFS (fun b hb' => ⟨(h.fp_lt hb').2, fun ⟨j, hj, hbj⟩ => by have e1 := h.so i b hb'; rw [h.so j b hbj] at e1; cases e1; exact hi hj⟩) (h.slots i)
  · intro i
    split
    · exact hn
    · split
      · simp
      · exact h.sn i
  · intro i b hb'
    by_cases e : d = some i
    · subst e; simp only [if_true] at hb'
      simp only [own', if_pos hb']
    · rw [if_neg e] at hb'
      by_cases hi : i ∈ C
      · rw [if_pos hi] at hb'; simp at hb'
      · rw [if_neg hi] at hb'
        have ho := h.so i b hb'
        have := hother b (by rw [ho]; simp) (fun j hj e => by rw [ho] at e; cases e; exact hi hj)
        simp only [own', if_neg this.1, if_neg this.2]; exact ho
  · intro b cells hO
    obtain ⟨h1, h2, h3, c, Ty, vals, rest, h4, h5, h6⟩ := h.obj b cells hO
    have hlt := (h.ol b (by rw [h1]; simp)).2
    refine ⟨?_, h2, ?_, c, Ty, vals, rest, ?_, h5, ?_⟩
    · have := hother b (by rw [h1]; simp) (fun j _ e => by rw [h1] at e; cases e)
      simp only [own', if_neg this.1, if_neg this.2]; exact h1
    · intro k hk
      have ho := h3 k hk
      have := hother k (by rw [ho]; simp) (fun j _ e => by rw [ho] at e; cases e)
      simp only [own', if_neg this.1, if_neg this.2]; exact ho
    · rw [hb.block b ⟨hlt, fun ⟨i, _, hbi⟩ => by have e1 := h.so i b hbi; rw [h1] at e1; cases e1⟩]; exact h4
    · refine RepL.ext hext hFS (fun k hk => ?_) h6
      exact ⟨(h.ol k (by rw [h3 k hk]; simp)).2, fun ⟨i, _, hbi⟩ => by have e1 := h.so i k hbi; rw [h3 k hk] at e1; cases e1⟩

theorem DenAt.fp_F (h : DenAt L B F0 w0 F own fp fs s a w) {i b : Nat} (hb : b ∈ fp i) : ¬ F b := fun hf => by
  have e1 := (h.fl b hf).1; rw [h.so i b hb] at e1; cases e1
end
end Go.Ab
namespace Go.Ab
open Go.RowKit (Below)

mutual
def AV.nown : AV → Bool
  | .sl o _ _ => !o
  | .agg l => AV.nownL l
  | .tup l => AV.nownL l
  | .fn _ l => AV.nownL l
  | .cnd _ x => x.nown
  | .pin _ x => x.nown
  | _ => true
def AV.nownL : List AV → Bool
  | [] => true
  | x :: xs => x.nown && AV.nownL xs
end

mutual
theorem Rep.fp_nil {L : Nat → Nat} {F : Nat → Prop} {w : World} : ∀ {x : AV} {y : Value} {fp : List Nat}, x.nown = true → Rep L F w x y fp → fp = []
  | .dead, _, _, _, r => by simpa [Rep] using r
  | .v _, _, _, _, r => by simp only [Rep] at r; exact r.2
  | .str _, _, _, _, r => by simp only [Rep] at r; exact r.2.2
  | .sl own sz l, y, fp, h, r => by
    simp only [Rep] at r
    simp [AV.nown] at h
    subst h
    rcases r with ⟨_, _, e⟩ | ⟨b, off, cap, vals, fp', _, _, _, _, _, ho⟩
    · exact e
    · rcases ho with ⟨e, _⟩ | ⟨_, _, _, e⟩
      · cases e
      · exact e
  | .vp l, _, _, _, r => by simp only [Rep] at r; exact r.1
  | .arr .., _, _, _, r => by simp only [Rep] at r; exact r.1
  | .ptr .., _, _, _, r => by simp only [Rep] at r; exact r.2
  | .agg l, y, fp, h, r => by
    simp only [Rep] at r
    obtain ⟨vs, _, hl⟩ := r
    exact RepL.fp_nil (by simpa [AV.nown] using h) hl
  | .tup l, y, fp, h, r => by
    simp only [Rep] at r
    obtain ⟨vs, _, hl⟩ := r
    exact RepL.fp_nil (by simpa [AV.nown] using h) hl
  | .fn f l, y, fp, h, r => by
    simp only [Rep] at r
    obtain ⟨vs, _, hl⟩ := r
    exact RepL.fp_nil (by simpa [AV.nown] using h) hl
  | .cnd g x, y, fp, h, r => by
    simp only [Rep] at r
    cases g with
    | true => exact Rep.fp_nil (by simpa [AV.nown] using h) (r.1 rfl)
    | false => exact (r.2 rfl).2
  | .pin v x, y, fp, h, r => by
    simp only [Rep] at r
    exact Rep.fp_nil (by simpa [AV.nown] using h) r.2
theorem RepL.fp_nil {L : Nat → Nat} {F : Nat → Prop} {w : World} : ∀ {l : List AV} {vs : List Value} {fp : List Nat}, AV.nownL l = true → RepL L F w l vs fp → fp = []
  | [], _, _, _, r => by simp only [RepL] at r; exact r.2
  | x :: xs, vs, fp, h, r => by
    simp only [RepL] at r
    obtain ⟨y, vs', f1, f2, _, rfl, hx, hxs⟩ := r
    simp [AV.nownL] at h
    rw [Rep.fp_nil h.1 hx, RepL.fp_nil h.2 hxs]; rfl
end

def kills (t : List (Nat × AV)) : List Operand → List Nat
  | [] => []
  | .tmp i :: xs => bif (T t i).nown then kills t xs else i :: kills t xs
  | _ :: xs => kills t xs

theorem mem_kills {t : List (Nat × AV)} {xs : List Operand} {i : Nat} (h : .tmp i ∈ xs) (ho : (T t i).nown = false) : i ∈ kills t xs := by
  induction xs with
  | nil => cases h
  | cons x xs ih =>
    cases h with
    | head => simp [kills, ho]
    | tail _ h =>
      have := ih h
      cases x <;> simp only [kills] <;> first | exact this | (cases (T t _).nown <;> simp [this])

def OpW (L : Nat → Nat) (P : Program) (o : Oper) (s : AS) (K : AS → Prop) : Prop :=
  ∀ B F0 w0 a w next Q, Den L B F0 w0 s a w → (∀ s' a' w', K s' → Den L B F0 w0 s' a' w' → next a' w') → o.wp P a w next Q

structure Gives (L : Nat → Nat) (F : Nat → Prop) (fp : Nat → List Nat) (C : List Nat) (w : World) (x : AV) (v : Value) (w' : World) : Prop where
  below : Kp (Kept fp C w) w w'
  rep : ∃ F' fx, (∀ b, F b → F' b) ∧ (∀ b, F' b → F b ∨ (w.heap.size ≤ b ∧ b < w'.heap.size) ∨ ∃ i, i ∈ C ∧ b ∈ fp i) ∧ Rep L F' w' x v fx ∧ fx.Nodup ∧
    ∀ b, b ∈ fx → ¬ F' b ∧ ((∃ i, i ∈ C ∧ b ∈ fp i) ∨ (w.heap.size ≤ b ∧ b < w'.heap.size))

def LOp (L : Nat → Nat) (P : Program) (s : AS) (o : Oper) (x : AV) (C : List Nat) : Prop :=
  ∀ B F0 w0 F own fp fs a w next Q, DenAt L B F0 w0 F own fp fs s a w → (∀ v w', Gives L F fp C w x v w' → next (a.put o.dst v) w') → o.wp P a w next Q

theorem LOp.opW {L : Nat → Nat} {P : Program} {s : AS} {o : Oper} {x : AV} {C : List Nat} (h : LOp L P s o x C) (hd : dstOK s.n o.dst = true) {K : AS → Prop}
    (hK : K ⟨s.n, put (killL s.t C) o.dst x, s.o⟩) : OpW L P o s K := by
  intro B F0 w0 a w next Q hden hnext
  obtain ⟨F, own, fp, fs, hden⟩ := hden
  refine h B F0 w0 F own fp fs a w next Q hden fun v w' g => hnext _ _ _ hK ?_
  obtain ⟨F', fx, h1, h2, h3, h4, h5⟩ := g.rep
  exact hden.put C o.dst hd g.below h1 h2 h3 h4 h5

theorem LOp.of_run {L : Nat → Nat} {P : Program} {s : AS} {o : Oper} {x : AV} {C : List Nat}
    (h : ∀ B F0 w0 F own fp fs a w, DenAt L B F0 w0 F own fp fs s a w → ∃ v fx, (execOp a.eval o).run P w = .ok (.value v) w ∧ Rep L F w x v fx ∧ fx.Nodup ∧ ∀ b, b ∈ fx → ∃ i, i ∈ C ∧ b ∈ fp i) :
    LOp L P s o x C := by
  intro B F0 w0 F own fp fs a w next Q hden hnext
  obtain ⟨v, fx, hr, hx, hn, hfx⟩ := h B F0 w0 F own fp fs a w hden
  unfold Oper.wp
  rw [hr]
  exact hnext v w ⟨Kp.refl _ _, F, fx, fun _ h => h, fun _ h => .inl h, hx, hn, fun b hb => ⟨(hfx b hb).elim fun i hi => hden.fp_F hi.2, .inl (hfx b hb)⟩⟩

theorem LOp.of_run0 {L : Nat → Nat} {P : Program} {s : AS} {o : Oper} {x : AV}
    (h : ∀ B F0 w0 F own fp fs a w, DenAt L B F0 w0 F own fp fs s a w → ∃ v, (execOp a.eval o).run P w = .ok (.value v) w ∧ Rep L F w x v []) :
    LOp L P s o x [] := by
  refine LOp.of_run fun B F0 w0 F own fp fs a w hden => ?_
  obtain ⟨v, hr, hx⟩ := h B F0 w0 F own fp fs a w hden
  exact ⟨v, [], hr, hx, by simp, by simp⟩

theorem fpo_kills {L : Nat → Nat} {B : Nat → Prop} {F0 : Nat → Prop} {w0 : World} {F : Nat → Prop} {own : Nat → Own} {fp fs : Nat → List Nat} {s : AS} {a : Act} {w : World}
    (h : DenAt L B F0 w0 F own fp fs s a w) {x : Operand} {xs : List Operand} (hx : x ∈ xs) : ∀ b, b ∈ fpo fp x → ∃ i, i ∈ kills s.t xs ∧ b ∈ fp i := by
  intro b hb
  cases x with
  | tmp i =>
    simp only [fpo] at hb
    cases ho : (T s.t i).nown with
    | true => rw [Rep.fp_nil ho (h.slots i)] at hb; simp at hb
    | false => exact ⟨i, mem_kills hx ho, hb⟩
  | const _ => simp [fpo] at hb
  | global _ => simp [fpo] at hb
  | func _ => simp [fpo] at hb

theorem fpo_nodup {L : Nat → Nat} {B : Nat → Prop} {F0 : Nat → Prop} {w0 : World} {F : Nat → Prop} {own : Nat → Own} {fp fs : Nat → List Nat} {s : AS} {a : Act} {w : World}
    (h : DenAt L B F0 w0 F own fp fs s a w) (x : Operand) : (fpo fp x).Nodup := by
  cases x with
  | tmp i => exact h.sn i
  | _ => simp [fpo]

section ops
variable {L : Nat → Nat} {P : Program} {s : AS} {o : Oper}

theorem lop_move {x : Operand} (ho : o.op = .move x ∨ o.op = .assign x) : LOp L P s o (ev s.t x) (kills s.t [x]) := by
  refine LOp.of_run fun B F0 w0 F own fp fs a w h => ⟨a.eval x, fpo fp x, ?_, h.ev x, fpo_nodup h x, fpo_kills h (by simp)⟩
  rcases ho with ho | ho <;> simp [execOp, ho]

theorem lop_val {z : Value} (h : ∀ B F0 w0 F own fp fs a w, DenAt L B F0 w0 F own fp fs s a w → (execOp a.eval o).run P w = .ok (.value z) w) : LOp L P s o (.v z) [] :=
  LOp.of_run0 fun B F0 w0 F own fp fs a w hd => ⟨z, h B F0 w0 F own fp fs a w hd, by simp [Rep]⟩

theorem DenAt.val {B : Nat → Prop} {F0 : Nat → Prop} {w0 : World} {F : Nat → Prop} {own : Nat → Own} {fp fs : Nat → List Nat} {a : Act} {w : World}
    (h : DenAt L B F0 w0 F own fp fs s a w) {x : Operand} {y : Value} (hx : Ab.ev s.t x = .v y) : a.eval x = y := by
  have := h.ev x
  rw [hx] at this
  simp only [Rep] at this
  exact this.1

theorem DenAt.sval {B : Nat → Prop} {F0 : Nat → Prop} {w0 : World} {F : Nat → Prop} {own : Nat → Own} {fp fs : Nat → List Nat} {a : Act} {w : World}
    (h : DenAt L B F0 w0 F own fp fs s a w) {x : Operand} {l : List UInt8} (hx : Ab.ev s.t x = .str l) : a.eval x = .string ⟨l.toArray⟩ ∧ l.length ≤ 4611686018427387904 := by
  have := h.ev x
  rw [hx] at this
  simp only [Rep] at this
  exact ⟨this.1, this.2.1⟩

theorem lop_strv {l : List UInt8} (h : ∀ B F0 w0 F own fp fs a w, DenAt L B F0 w0 F own fp fs s a w → (execOp a.eval o).run P w = .ok (.value (.string ⟨l.toArray⟩)) w ∧ l.length ≤ 4611686018427387904) : LOp L P s o (.str l) [] :=
  LOp.of_run0 fun B F0 w0 F own fp fs a w hd => ⟨_, (h B F0 w0 F own fp fs a w hd).1, by simp only [Rep]; exact ⟨by trivial, (h B F0 w0 F own fp fs a w hd).2, by trivial⟩⟩

theorem lop_bin {op : BinOp} {ty ty' : TypeId} {x y : Operand} {u v z : Value} (ho : o.op = .binOp op ty x y ty') (hx : ev s.t x = .v u) (hy : ev s.t y = .v v)
    (hr : ∀ w, (do eqGuard op ty x y u v; binOp op ty u v : Sem Value).run P w = .ok z w) : LOp L P s o (.v z) [] := by
  refine lop_val fun B F0 w0 F own fp fs a w h => ?_
  have := hr w
  simp only [execOp, ho, h.val hx, h.val hy]
  rw [Sem.run_bind, this]
  rfl

theorem lop_un {op : UnOp} {ty : TypeId} {x : Operand} {u z : Value} (ho : o.op = .unOp op ty x) (hx : ev s.t x = .v u)
    (hr : ∀ w, (Op.unary op u).run P w = .ok z w) : LOp L P s o (.v z) [] := by
  refine lop_val fun B F0 w0 F own fp fs a w h => ?_
  simp only [execOp, ho, h.val hx]
  rw [Sem.run_bind, hr w]
  rfl
end ops
def AV.hdr : AV → AV
  | .pin u _ => .v u
  | x => x
def hdrL : List AV → List AV
  | [] => []
  | x :: xs => x.hdr :: hdrL xs
def AV.cpy : AV → AV
  | .pin u _ => .v u
  | .agg l => .agg (hdrL l)
  | x => x
def AV.pind : AV → Option Value
  | .pin u _ => some u
  | _ => none
theorem RepL.hdrs {L : Nat → Nat} {F : Nat → Prop} {w : World} : ∀ {l : List AV} {vs : List Value} {fp : List Nat}, RepL L F w l vs fp → ∃ fp', RepL L F w (hdrL l) vs fp'
  | [], _, fp, h => ⟨fp, h⟩
  | x :: xs, vs, fp, h => by
    simp only [RepL, hdrL] at h ⊢
    obtain ⟨y, vs', f1, f2, rfl, _, hx, hxs⟩ := h
    obtain ⟨f2', h2⟩ := hxs.hdrs
    cases x with
    | pin v x => simp only [Rep] at hx; exact ⟨[] ++ f2', y, vs', [], f2', rfl, rfl, by simp only [AV.hdr, Rep]; exact ⟨hx.1, by trivial⟩, h2⟩
    | _ => exact ⟨f1 ++ f2', y, vs', f1, f2', rfl, rfl, hx, h2⟩
theorem Rep.cpy {L : Nat → Nat} {F : Nat → Prop} {w : World} {y : AV} {v : Value} {f : List Nat} (hn : y.cpy.nown = true) (h : Rep L F w y v f) : Rep L F w y.cpy v [] := by
  have : ∃ f', Rep L F w y.cpy v f' := by
    cases y with
    | pin u x => simp only [Rep] at h; exact ⟨[], by simp only [AV.cpy, Rep]; exact ⟨h.1, by trivial⟩⟩
    | agg l =>
      simp only [Rep] at h
      obtain ⟨vs, e, hl⟩ := h
      obtain ⟨f', hf⟩ := hl.hdrs
      exact ⟨f', by simp only [AV.cpy, Rep]; exact ⟨vs, e, hf⟩⟩
    | _ => exact ⟨f, h⟩
  obtain ⟨f', hf⟩ := this
  rw [Rep.fp_nil hn hf] at hf; exact hf
theorem Rep.pind {L : Nat → Nat} {F : Nat → Prop} {w : World} {y : AV} {u v : Value} {f : List Nat} (hn : y.pind = some u) (h : Rep L F w y v f) : Rep L F w (.v u) v [] := by
  cases y with
  | pin u' x =>
    simp only [AV.pind, Option.some.injEq] at hn
    subst hn
    simp only [Rep] at h ⊢
    exact ⟨h.1, by trivial⟩
  | _ => simp [AV.pind] at hn
end Go.Ab
namespace Go.Ab
open Go.RowKit (Below)

section lists
variable {L : Nat → Nat} {F : Nat → Prop} {w : World}
theorem RepL.len : ∀ {l : List AV} {vs : List Value} {fp : List Nat}, RepL L F w l vs fp → vs.length = l.length
  | [], _, _, r => by simp only [RepL] at r; simp [r.1]
  | x :: xs, vs, fp, r => by
    simp only [RepL] at r
    obtain ⟨y, vs', f1, f2, rfl, rfl, hx, hxs⟩ := r
    simp [RepL.len hxs]
theorem RepL.get : ∀ {l : List AV} {vs : List Value} {fp : List Nat} {i : Nat} {x : AV}, RepL L F w l vs fp → l[i]? = some x → ∃ y f, vs[i]? = some y ∧ Rep L F w x y f ∧ ∀ b, b ∈ f → b ∈ fp
  | [], _, _, _, _, _, h => by simp at h
  | x :: xs, vs, fp, i, z, r, h => by
    simp only [RepL] at r
    obtain ⟨y, vs', f1, f2, rfl, rfl, hx, hxs⟩ := r
    cases i with
    | zero => simp at h; subst h; exact ⟨y, f1, by simp, hx, fun b hb => by simp [hb]⟩
    | succ i =>
      obtain ⟨y', f, h1, h2, h3⟩ := RepL.get hxs (i := i) (by simpa using h)
      exact ⟨y', f, by simpa using h1, h2, fun b hb => by simp [h3 b hb]⟩
theorem RepL.split : ∀ {l1 l2 : List AV} {vs : List Value} {fp : List Nat}, RepL L F w (l1 ++ l2) vs fp → ∃ v1 v2 f1 f2, vs = v1 ++ v2 ∧ fp = f1 ++ f2 ∧ RepL L F w l1 v1 f1 ∧ RepL L F w l2 v2 f2
  | [], l2, vs, fp, r => ⟨[], vs, [], fp, rfl, rfl, by simp [RepL], r⟩
  | x :: xs, l2, vs, fp, r => by
    simp only [List.cons_append, RepL] at r
    obtain ⟨y, vs', f1, f2, rfl, rfl, hx, hxs⟩ := r
    obtain ⟨v1, v2, g1, g2, rfl, rfl, h1, h2⟩ := RepL.split hxs
    exact ⟨y :: v1, v2, f1 ++ g1, g2, rfl, by simp, by simp only [RepL]; exact ⟨y, v1, f1, g1, rfl, rfl, hx, h1⟩, h2⟩
theorem RepL.join : ∀ {l1 l2 : List AV} {v1 v2 : List Value} {f1 f2 : List Nat}, RepL L F w l1 v1 f1 → RepL L F w l2 v2 f2 → RepL L F w (l1 ++ l2) (v1 ++ v2) (f1 ++ f2)
  | [], l2, v1, v2, f1, f2, r1, r2 => by simp only [RepL] at r1; obtain ⟨rfl, rfl⟩ := r1; exact r2
  | x :: xs, l2, v1, v2, f1, f2, r1, r2 => by
    simp only [List.cons_append, RepL] at r1 ⊢
    obtain ⟨y, vs', g1, g2, rfl, rfl, hx, hxs⟩ := r1
    exact ⟨y, vs' ++ v2, g1, g2 ++ f2, rfl, by simp, hx, RepL.join hxs r2⟩
theorem RepL.cut {l : List AV} {vs : List Value} {fp : List Nat} (r : RepL L F w l vs fp) (i n : Nat) : ∃ f, RepL L F w ((l.drop i).take n) ((vs.drop i).take n) f ∧ ∀ b, b ∈ f → b ∈ fp := by
  have hl := r.len
  have e1 : l = l.take i ++ ((l.drop i).take n ++ (l.drop i).drop n) := by rw [List.take_append_drop, List.take_append_drop]
  rw [e1] at r
  obtain ⟨v1, v23, f1, f23, rfl, rfl, r1, r23⟩ := r.split
  obtain ⟨v2, v3, f2, f3, rfl, rfl, r2, r3⟩ := r23.split
  have h1 := r1.len
  have h2 := r2.len
  refine ⟨f2, ?_, fun b hb => by simp [hb]⟩
  have e2 : ((v1 ++ (v2 ++ v3)).drop i).take n = v2 := by
    simp only [List.length_take, List.length_drop] at h1 h2
    have h3 := r3.len
    simp only [List.length_drop] at h3
    by_cases hi : i ≤ l.length
    · have hv1 : v1.length = i := by omega
      rw [← hv1, List.drop_left]
      by_cases hn : n ≤ l.length - i
      · have hv2 : v2.length = n := by omega
        rw [← hv2, List.take_left]
      · have hv3 : v3 = [] := List.eq_nil_of_length_eq_zero (by omega)
        subst hv3
        rw [List.append_nil, List.take_of_length_le (by omega)]
    · have hv2 : v2 = [] := List.eq_nil_of_length_eq_zero (by omega)
      have hv3 : v3 = [] := List.eq_nil_of_length_eq_zero (by omega)
      subst hv2 hv3
      have : v1.drop i = [] := List.drop_eq_nil_of_le (by omega)
      simp [this]
  rw [e2]; exact r2
end lists

theorem add_mk (b off n : Nat) : (⟨b, off, none⟩ : Addr).add n = ⟨b, off + n, none⟩ := by
  unfold Addr.add; split <;> simp_all

theorem RowAt.cell {w : World} {b off : Nat} {vals : List Value} (h : RowAt w b off vals) {i : Nat} {v : Value} (hi : vals[i]? = some v) : w.cell? ⟨b, off + i, none⟩ = some v := by
  obtain ⟨c, T, z, hc, hr⟩ := h
  have hlt : i < vals.length := by
    rcases Nat.lt_or_ge i vals.length with h | h
    · exact h
    · rw [List.getElem?_eq_none h] at hi; cases hi
  simp [World.cell?, hc, hr i hlt, hi]

theorem RowAt.cut {w : World} {b off : Nat} {vals : List Value} (h : RowAt w b off vals) (i n : Nat) : RowAt w b (off + i) ((vals.drop i).take n) := by
  obtain ⟨c, T, z, hc, hr⟩ := h
  refine ⟨c, T, z, hc, fun j hj => ?_⟩
  simp only [List.length_take, List.length_drop] at hj
  have := hr (i + j) (by omega)
  rw [Nat.add_assoc, this, List.getElem?_take, if_pos (by omega), List.getElem?_drop]

theorem RowAt.load {P : Program} {w : World} {b off : Nat} {vals : List Value} (h : RowAt w b off vals) : (loadCells ⟨b, off, none⟩ vals.length).run P w = .ok vals.toArray w :=
  run_loadCells_list (P := P) w _ vals fun j v hj => by rw [add_mk]; exact h.cell hj

def ty (P : Program) (t : TypeId) : Option (Bool × Nat) :=
  match P.underlying t, P.info? t with
  | some d, some i => some ((match d with | .struct _ | .array _ _ => true | _ => false), i.size)
  | _, _ => none

theorem ty_run {P : Program} {t : TypeId} {g : Bool} {n : Nat} (h : ty P t = some (g, n)) (w : World) : (isAgg t).run P w = .ok g w ∧ (sizeOf t).run P w = .ok n w := by
  unfold ty at h
  cases hu : P.underlying t with
  | none => simp [hu] at h
  | some d =>
    cases hi : P.info? t with
    | none => simp [hu, hi] at h
    | some i =>
      simp [hu, hi] at h
      obtain ⟨rfl, rfl⟩ := h
      constructor
      · cases d <;> simp [isAgg, run_underlying hu]
      · simp [sizeOf, typeInfo, hi]

def fld (P : Program) (t : TypeId) (k : Nat) : Option (Nat × Bool × Nat) :=
  match P.underlying t with
  | some (.struct fs) => match fs[k]? with
    | some f => match ty P f.type with
      | some (g, n) => some (f.offset, g, n)
      | none => none
    | none => none
  | _ => none

theorem fld_inv {P : Program} {t : TypeId} {k off n : Nat} {g : Bool} (h : fld P t k = some (off, g, n)) :
    ∃ fs f, P.underlying t = some (.struct fs) ∧ fs[k]? = some f ∧ ty P f.type = some (g, n) ∧ f.offset = off := by
  unfold fld at h
  split at h
  · rename_i fs hfs
    split at h
    · rename_i f hf
      split at h
      · rename_i g' n' hty
        simp at h
        obtain ⟨rfl, rfl, rfl⟩ := h
        exact ⟨fs, f, hfs, hf, hty, rfl⟩
      · cases h
    · cases h
  · cases h

def val (g : Bool) (n : Nat) (cells : List AV) : Option AV :=
  bif g then (bif Nat.ble n cells.length then some (.agg (cells.take n)) else none) else cells.head?

section ops
variable {L : Nat → Nat} {P : Program} {s : AS} {o : Oper}

theorem val_rep {F : Nat → Prop} {w : World} {cells : List AV} {vals : List Value} {fp : List Nat} {g : Bool} {n : Nat} {y : AV} (r : RepL L F w cells vals fp) (h : val g n cells = some y) :
    (g = true ∧ n ≤ vals.length ∧ ∃ f, Rep L F w y (.agg (vals.take n).toArray) f ∧ ∀ b, b ∈ f → b ∈ fp) ∨ (g = false ∧ ∃ u f, vals[0]? = some u ∧ Rep L F w y u f ∧ ∀ b, b ∈ f → b ∈ fp) := by
  unfold val at h
  cases g with
  | true =>
    left
    cases hn : Nat.ble n cells.length with
    | false => simp [hn] at h
    | true =>
      simp [hn] at h
      subst h
      obtain ⟨f, hf, hsub⟩ := r.cut 0 n
      simp only [List.drop_zero] at hf
      exact ⟨rfl, by rw [r.len]; exact Nat.le_of_ble_eq_true hn, f, by simp only [Rep]; exact ⟨_, rfl, hf⟩, hsub⟩
  | false =>
    right
    simp at h
    obtain ⟨u, f, h1, h2, h3⟩ := r.get (i := 0) (x := y) (by rw [← List.head?_eq_getElem?]; exact h)
    exact ⟨rfl, u, f, h1, h2, h3⟩

theorem lop_fieldZ {xt : TypeId} {x : Operand} {k off n : Nat} {g : Bool} {cells : List AV} {y z : AV} (ho : o.op = .field xt x k) (hx : ev s.t x = .agg cells)
    (hf : fld P xt k = some (off, g, n)) (hy : val g n (cells.drop off) = some y) (hown : ∀ (F : Nat → Prop) (w : World) (v : Value) (f : List Nat), Rep L F w y v f → Rep L F w z v []) : LOp L P s o z [] := by
  obtain ⟨fs, f, hu, hk, ht, rfl⟩ := fld_inv hf
  refine LOp.of_run0 fun B F0 w0 F own fp fs' a w h => ?_
  have hr := h.ev x
  rw [hx] at hr
  simp only [Rep] at hr
  obtain ⟨vs, hv, hl⟩ := hr
  have hcut : ∃ f', RepL L F w (cells.drop f.offset) (vs.drop f.offset) f' := by
    obtain ⟨f', h1, _⟩ := hl.cut f.offset (cells.length + vs.length)
    rw [List.take_of_length_le (by simp; omega), List.take_of_length_le (by simp; omega)] at h1
    exact ⟨f', h1⟩
  obtain ⟨f', hcut⟩ := hcut
  obtain ⟨ha, hs⟩ := ty_run ht w
  rcases val_rep hcut hy with ⟨rfl, hn, f2, r2, _⟩ | ⟨rfl, u, f2, hu2, r2, _⟩
  · refine ⟨_, ?_, hown _ _ _ _ r2⟩
    simp only [execOp, ho, hv, Instr.field, Sem.run_bind, run_underlying hu, Result.andThen_ok, hk, asAgg, Sem.run_pure, part, ha, if_true, hs]
    simp [List.extract_eq_take_drop]
  · refine ⟨u, ?_, hown _ _ _ _ r2⟩
    have : vs[f.offset]? = some u := by simpa using hu2
    simp [execOp, ho, hv, Instr.field, run_underlying hu, hk, asAgg, part, ha, this]

theorem lop_field {xt : TypeId} {x : Operand} {k off n : Nat} {g : Bool} {cells : List AV} {y : AV} (ho : o.op = .field xt x k) (hx : ev s.t x = .agg cells)
    (hf : fld P xt k = some (off, g, n)) (hy : val g n (cells.drop off) = some y) (hown : y.nown = true) : LOp L P s o y [] :=
  lop_fieldZ ho hx hf hy fun _ _ _ _ r => by rw [Rep.fp_nil hown r] at r; exact r

theorem lop_fieldAddr_vp {xt : TypeId} {x : Operand} {k off n : Nat} {g : Bool} {cells : List AV} (ho : o.op = .fieldAddr xt x k) (hx : ev s.t x = .vp cells)
    (hf : fld P xt k = some (off, g, n)) (hn : Nat.blt 0 n = true) : LOp L P s o (.vp (cells.drop off)) [] := by
  obtain ⟨fs, f, hu, hk, ht, rfl⟩ := fld_inv hf
  have hn' : ¬ n = 0 := by simp at hn; omega
  refine LOp.of_run0 fun B F0 w0 F own fp fs' a w h => ?_
  have hr := h.ev x
  rw [hx] at hr
  simp only [Rep] at hr
  obtain ⟨_, b, o', vals, hv, hb, hrow, hl⟩ := hr
  obtain ⟨ha, hs⟩ := ty_run ht w
  refine ⟨.pointer (some ⟨b, o' + f.offset, none⟩), ?_, ?_⟩
  · simp [execOp, ho, hv, Instr.fieldAt, run_underlying hu, hk, Instr.sureAddr, fieldPlace, hs, hn', add_mk]
  · simp only [Rep]
    refine ⟨trivial, b, _, vals.drop f.offset, rfl, hb, ?_, ?_⟩
    · have := hrow.cut f.offset vals.length
      rw [List.take_of_length_le (by simp)] at this
      exact this
    · obtain ⟨f', h1, h2⟩ := hl.cut f.offset (cells.length + vals.length)
      rw [List.take_of_length_le (by simp; omega), List.take_of_length_le (by simp; omega)] at h1
      have : f' = [] := List.eq_nil_iff_forall_not_mem.2 fun b hb => by simpa using h2 b hb
      rw [this] at h1; exact h1

theorem lop_fieldAddr_ptr {xt : TypeId} {x : Operand} {k off n b o' : Nat} {g : Bool} (ho : o.op = .fieldAddr xt x k) (hx : ev s.t x = .ptr b o')
    (hf : fld P xt k = some (off, g, n)) (hn : Nat.blt 0 n = true) : LOp L P s o (.ptr b (o' + off)) [] := by
  obtain ⟨fs, f, hu, hk, ht, rfl⟩ := fld_inv hf
  have hn' : ¬ n = 0 := by simp at hn; omega
  refine LOp.of_run0 fun B F0 w0 F own fp fs' a w h => ?_
  have hr := h.ev x
  rw [hx] at hr
  simp only [Rep] at hr
  obtain ⟨ha, hs⟩ := ty_run ht w
  refine ⟨.pointer (some ⟨b, o' + f.offset, none⟩), ?_, by simp [Rep]⟩
  simp [execOp, ho, hr.1, Instr.fieldAt, run_underlying hu, hk, Instr.sureAddr, fieldPlace, hs, hn', add_mk]

theorem load_run {w : World} {t : TypeId} {g : Bool} {n b off : Nat} {vals : List Value} (ht : ty P t = some (g, n)) (hrow : RowAt w b off vals) :
    (g = true → n ≤ vals.length → (loadVar t ⟨b, off, none⟩).run P w = .ok (.agg (vals.take n).toArray) w) ∧
    (g = false → ∀ u, vals[0]? = some u → (loadVar t ⟨b, off, none⟩).run P w = .ok u w) := by
  obtain ⟨ha, hs⟩ := ty_run ht w
  constructor
  · rintro rfl hn
    have h1 := (hrow.cut 0 n).load (P := P)
    simp only [List.drop_zero, Nat.add_zero, List.length_take, Nat.min_eq_left hn] at h1
    simp [loadVar, ha, hs, h1]
  · rintro rfl u hu
    have := hrow.cell hu
    simp only [Nat.add_zero] at this
    simp [loadVar, ha, this]

theorem lop_load_vp {t : TypeId} {x : Operand} {n : Nat} {g : Bool} {cells : List AV} {y : AV} (ho : o.op = .load t x) (hx : ev s.t x = .vp cells)
    (ht : ty P t = some (g, n)) (hy : val g n cells = some y) : LOp L P s o y [] := by
  refine LOp.of_run fun B F0 w0 F own fp fs' a w h => ?_
  have hr := h.ev x
  rw [hx] at hr
  simp only [Rep] at hr
  obtain ⟨_, b, o', vals, hv, hb, hrow, hl⟩ := hr
  obtain ⟨l1, l2⟩ := load_run (P := P) ht hrow
  rcases val_rep hl hy with ⟨rfl, hn, f2, r2, h2⟩ | ⟨rfl, u, f2, hu2, r2, h2⟩
  · have : f2 = [] := List.eq_nil_iff_forall_not_mem.2 fun b hb => by simpa using h2 b hb
    subst this
    exact ⟨_, [], by simp [execOp, ho, hv, Instr.loadAt, Instr.sureAddr, l1 rfl hn], r2, by simp, by simp⟩
  · have : f2 = [] := List.eq_nil_iff_forall_not_mem.2 fun b hb => by simpa using h2 b hb
    subst this
    exact ⟨_, [], by simp [execOp, ho, hv, Instr.loadAt, Instr.sureAddr, l2 rfl u hu2], r2, by simp, by simp⟩

theorem DenAt.row {B : Nat → Prop} {F0 : Nat → Prop} {w0 : World} {F : Nat → Prop} {own : Nat → Own} {fp fs : Nat → List Nat} {a : Act} {w : World}
    (h : DenAt L B F0 w0 F own fp fs s a w) {b : Nat} {cells : List AV} (hb : O s.o b = some cells) (off : Nat) :
    ∃ vals f, RowAt w b off vals ∧ RepL L F w (cells.drop off) vals f ∧ ∀ k, k ∈ f → k ∈ fs b := by
  obtain ⟨_, _, _, c, Ty, vals, rest, h4, h5, h6⟩ := h.obj b cells hb
  have hrow : RowAt w b 0 vals := ⟨c, Ty, _, h4, fun i hi => by
    rw [Nat.zero_add, ← Array.getElem?_toList, h5, List.getElem?_append_left hi]⟩
  have hl := h6.len
  obtain ⟨f', h1, h2⟩ := h6.cut off (cells.length + vals.length)
  rw [List.take_of_length_le (by simp; omega), List.take_of_length_le (by simp; omega)] at h1
  refine ⟨vals.drop off, f', ?_, h1, h2⟩
  have := hrow.cut off vals.length
  rw [List.take_of_length_le (by simp), Nat.zero_add] at this
  exact this

theorem lop_load_ptrZ {t : TypeId} {x : Operand} {n b off : Nat} {g : Bool} {cells : List AV} {y z : AV} (ho : o.op = .load t x) (hx : ev s.t x = .ptr b off)
    (hb : O s.o b = some cells) (ht : ty P t = some (g, n)) (hy : val g n (cells.drop off) = some y) (hown : ∀ (F : Nat → Prop) (w : World) (v : Value) (f : List Nat), Rep L F w y v f → Rep L F w z v []) : LOp L P s o z [] := by
  refine LOp.of_run0 fun B F0 w0 F own fp fs' a w h => ?_
  have hr := h.ev x
  rw [hx] at hr
  simp only [Rep] at hr
  obtain ⟨vals, f, hrow, hl, _⟩ := h.row hb off
  obtain ⟨l1, l2⟩ := load_run (P := P) ht hrow
  rcases val_rep hl hy with ⟨rfl, hn, f2, r2, _⟩ | ⟨rfl, u, f2, hu2, r2, _⟩
  · exact ⟨.agg (vals.take n).toArray, by simp [execOp, ho, hr.1, Instr.loadAt, Instr.sureAddr, l1 rfl hn], hown _ _ _ _ r2⟩
  · exact ⟨u, by simp [execOp, ho, hr.1, Instr.loadAt, Instr.sureAddr, l2 rfl u hu2], hown _ _ _ _ r2⟩

theorem lop_load_ptr {t : TypeId} {x : Operand} {n b off : Nat} {g : Bool} {cells : List AV} {y : AV} (ho : o.op = .load t x) (hx : ev s.t x = .ptr b off)
    (hb : O s.o b = some cells) (ht : ty P t = some (g, n)) (hy : val g n (cells.drop off) = some y) (hown : y.nown = true) : LOp L P s o y [] :=
  lop_load_ptrZ ho hx hb ht hy fun _ _ _ _ r => by rw [Rep.fp_nil hown r] at r; exact r

theorem lop_nilCheck {x : Operand} {b off : Nat} (ho : o.op = .nilCheck x) (hx : ev s.t x = .ptr b off) : LOp L P s o (.ptr b off) [] := by
  refine LOp.of_run0 fun B F0 w0 F own fp fs' a w h => ?_
  have hr := h.ev x
  rw [hx] at hr
  simp only [Rep] at hr
  exact ⟨.pointer (some ⟨b, off, none⟩), by simp [execOp, ho, hr.1], by simp [Rep]⟩

theorem lop_nilCheck_vp {x : Operand} {cells : List AV} (ho : o.op = .nilCheck x) (hx : ev s.t x = .vp cells) : LOp L P s o (.vp cells) [] := by
  refine LOp.of_run0 fun B F0 w0 F own fp fs' a w h => ?_
  have hr := h.ev x
  rw [hx] at hr
  have hr' := hr
  rw [Rep.fp_nil rfl hr] at hr'
  simp only [Rep] at hr
  obtain ⟨_, b, o', vals, hv, hb, hrow, hl⟩ := hr
  exact ⟨a.eval x, by simp [execOp, ho, hv], hr'⟩

theorem lop_extract {x : Operand} {k : Nat} {l : List AV} {y : AV} (ho : o.op = .extract x k) (hx : ev s.t x = .tup l) (hy : l[k]? = some y) (hown : y.nown = true) : LOp L P s o y [] := by
  refine LOp.of_run0 fun B F0 w0 F own fp fs' a w h => ?_
  have hr := h.ev x
  rw [hx] at hr
  simp only [Rep] at hr
  obtain ⟨vs, hv, hl⟩ := hr
  obtain ⟨u, f, h1, h2, _⟩ := hl.get hy
  refine ⟨u, ?_, by rw [Rep.fp_nil hown h2] at h2; exact h2⟩
  simp [execOp, ho, hv, Instr.extract, h1]

abbrev S (l : List UInt8) : AV := .str l

theorem lop_len_str {x : Operand} {c : Call} {t : TypeId} {l : List UInt8} (ho : o.op = .call c) (hc : c = ⟨.builtin .len, #[x], #[t]⟩) (hx : ev s.t x = S l) (ht : P.underlying t = some .string) :
    LOp L P s o (.v (.int .i64 l.length)) [] := by
  subst hc
  refine lop_val fun B F0 w0 F own fp fs a w h => ?_
  simp [execOp, ho, resolve, invoke, builtin, (h.sval hx).1, run_len_string w t o.type _ ht, goInt, ByteArray.size]

theorem elem_of {t e : TypeId} (h : P.underlying t = some (.slice e)) : P.underlying t = some (.slice (P.elem t)) := by
  simp [Program.elem, h]

theorem lop_len_sl {x : Operand} {c : Call} {t e : TypeId} {own : Bool} {sz : Nat} {l : List AV} (ho : o.op = .call c) (hc : c = ⟨.builtin .len, #[x], #[t]⟩) (hx : ev s.t x = .sl own sz l) (ht : P.underlying t = some (.slice e)) :
    LOp L P s o (.v (.int .i64 l.length)) [] := by
  subst hc
  refine lop_val fun B F0 w0 F own fp fs a w h => ?_
  have hr := h.ev x
  rw [hx] at hr
  simp only [Rep] at hr
  rcases hr with ⟨hv | ⟨_, _, hv⟩, rfl, _⟩ | ⟨b, off, cap, vals, fp', hv, _⟩
  · simp [execOp, ho, resolve, invoke, builtin, hv, run_len_slice w t o.type _ _ _ (elem_of ht), goInt]
  · simp [execOp, ho, resolve, invoke, builtin, hv, run_len_slice w t o.type _ _ _ (elem_of ht), goInt]
  · simp [execOp, ho, resolve, invoke, builtin, hv, run_len_slice w t o.type _ _ _ (elem_of ht), goInt]

theorem lop_len_nil {x : Operand} {c : Call} {t e : TypeId} (ho : o.op = .call c) (hc : c = ⟨.builtin .len, #[x], #[t]⟩) (hx : ev s.t x = .v (.slice none 0 0)) (ht : P.underlying t = some (.slice e)) :
    LOp L P s o (.v (.int .i64 0)) [] := by
  subst hc
  refine lop_val fun B F0 w0 F own fp fs a w h => ?_
  simp [execOp, ho, resolve, invoke, builtin, h.val hx, run_len_slice w t o.type _ _ _ (elem_of ht), goInt]

theorem lop_len_arr {x : Operand} {c : Call} {t e : TypeId} {b off len sz : Nat} (ho : o.op = .call c) (hc : c = ⟨.builtin .len, #[x], #[t]⟩) (hx : ev s.t x = .arr b off len sz) (ht : P.underlying t = some (.slice e)) :
    LOp L P s o (.v (.int .i64 len)) [] := by
  subst hc
  refine lop_val fun B F0 w0 F own fp fs a w h => ?_
  have hr := h.ev x
  rw [hx] at hr
  simp only [Rep] at hr
  obtain ⟨_, cap, hv, _⟩ := hr
  simp [execOp, ho, resolve, invoke, builtin, hv, run_len_slice w t o.type _ _ _ (elem_of ht), goInt]

theorem lop_index_str {x i : Operand} {t : TypeId} {l : List UInt8} {k : IntKind} {n : Int} {c : UInt8} (ho : o.op = .index t x i) (hx : ev s.t x = S l) (hi : ev s.t i = .v (.int k n))
    (ht : P.underlying t = some .string) (h0 : 0 ≤ n) (hc : l[n.toNat]? = some c) : LOp L P s o (.v (.int .u8 c.toNat)) [] := by
  refine lop_val fun B F0 w0 F own fp fs a w h => ?_
  have hlt : n.toNat < l.length := by
    rcases Nat.lt_or_ge n.toNat l.length with h | h
    · exact h
    · rw [List.getElem?_eq_none h] at hc; cases hc
  simp only [execOp, ho, (h.sval hx).1, h.val hi, Sem.run_bind, run_index_string w t _ k n ht]
  rw [dif_pos ⟨h0, by simp [ByteArray.size]; omega⟩]
  have : l[n.toNat] = c := by simpa [List.getElem?_eq_getElem hlt] using hc
  simp [← this]
  rfl

def AV.cells : AV → List AV
  | .agg l => l
  | x => [x]

def AV.elem (sz : Nat) : AV → Bool
  | .agg l => l.length == sz
  | .v x => x.oneCell' && sz == 1
  | .dead => false
  | .tup _ => false
  | .cnd _ _ => false
  | .pin _ _ => false
  | _ => sz == 1

theorem RepE.len {F : Nat → Prop} {w : World} {sz : Nat} : ∀ {l : List AV} {vs : List Value} {fp : List Nat}, RepE L F w sz l vs fp → vs.length = l.length * sz
  | [], _, _, r => by simp only [RepE] at r; simp [r.1]
  | x :: xs, vs, fp, r => by
    simp only [RepE] at r
    obtain ⟨y, vs', f1, f2, rfl, hsz, rfl, hx, hxs⟩ := r
    have := RepE.len hxs
    simp [this, hsz, Nat.add_mul]; omega

theorem RepE.get {F : Nat → Prop} {w : World} {sz : Nat} : ∀ {l : List AV} {vs : List Value} {fp : List Nat} {i : Nat} {x : AV}, RepE L F w sz l vs fp → l[i]? = some x →
    ∃ y f, (vs.drop (i * sz)).take sz = y.cells.toList ∧ y.cells.size = sz ∧ Rep L F w x y f ∧ ∀ b, b ∈ f → b ∈ fp
  | [], _, _, _, _, _, h => by simp at h
  | x :: xs, vs, fp, i, z, r, h => by
    simp only [RepE] at r
    obtain ⟨y, vs', f1, f2, rfl, hsz, rfl, hx, hxs⟩ := r
    cases i with
    | zero => simp at h; subst h; exact ⟨y, f1, by simp [← hsz], hsz, hx, fun b hb => by simp [hb]⟩
    | succ i =>
      obtain ⟨y', f, h1, h2, h3, h4⟩ := RepE.get hxs (i := i) (by simpa using h)
      refine ⟨y', f, ?_, h2, h3, fun b hb => by simp [h4 b hb]⟩
      rw [← h1, Nat.add_mul, Nat.one_mul, Nat.add_comm, ← List.drop_drop]
      congr 2
      have : y.cells.toList.length = sz := by simpa using hsz
      rw [← this, List.drop_left]

theorem cells_rep {F : Nat → Prop} {w : World} {sz : Nat} {x : AV} {y : Value} {f : List Nat} (h : x.elem sz = true) (r : Rep L F w x y f) : RepL L F w x.cells y.cells.toList f ∧ y.cells.size = sz := by
  cases x with
  | agg l =>
    have r' := r
    simp only [Rep] at r
    obtain ⟨vs, rfl, hl⟩ := r
    simp [AV.elem] at h
    exact ⟨by simpa [AV.cells, Value.cells] using hl, by simp [Value.cells, hl.len, h]⟩
  | dead => simp [AV.elem] at h
  | tup l => simp [AV.elem] at h
  | cnd _ _ => simp [AV.elem] at h
  | pin _ _ => simp [AV.elem] at h
  | v x =>
    have r' := r
    simp only [Rep] at r'
    obtain ⟨rfl, rfl⟩ := r'
    simp [AV.elem] at h
    have : y.cells = #[y] := by cases y <;> simp_all [Value.cells, Value.oneCell']
    rw [this]
    exact ⟨by simp only [AV.cells, RepL]; exact ⟨y, [], [], [], rfl, rfl, r, rfl, rfl⟩, by simp [h.2]⟩
  | str l =>
    have r' := r
    simp only [Rep] at r'
    have : y.cells = #[y] := by rw [r'.1]; rfl
    rw [this]
    simp [AV.elem] at h
    exact ⟨by simp only [AV.cells, RepL]; exact ⟨y, [], f, [], rfl, by simp, r, rfl, rfl⟩, by simp [h]⟩
  | sl o' z l =>
    have r' := r
    simp only [Rep] at r'
    have : y.cells = #[y] := by rcases r' with ⟨rfl | ⟨_, _, rfl⟩, _⟩ | ⟨b, off, cap, vals, fp', rfl, _⟩ <;> rfl
    rw [this]
    simp [AV.elem] at h
    exact ⟨by simp only [AV.cells, RepL]; exact ⟨y, [], f, [], rfl, by simp, r, rfl, rfl⟩, by simp [h]⟩
  | vp l =>
    have r' := r
    simp only [Rep] at r'
    have : y.cells = #[y] := by obtain ⟨_, b, off, vals, rfl, _⟩ := r'; rfl
    rw [this]
    simp [AV.elem] at h
    exact ⟨by simp only [AV.cells, RepL]; exact ⟨y, [], f, [], rfl, by simp, r, rfl, rfl⟩, by simp [h]⟩
  | arr _ _ _ _ =>
    have r' := r
    simp only [Rep] at r'
    have : y.cells = #[y] := by obtain ⟨_, b, rfl, _⟩ := r'; rfl
    rw [this]
    simp [AV.elem] at h
    exact ⟨by simp only [AV.cells, RepL]; exact ⟨y, [], f, [], rfl, by simp, r, rfl, rfl⟩, by simp [h]⟩
  | ptr _ _ =>
    have r' := r
    simp only [Rep] at r'
    have : y.cells = #[y] := by obtain ⟨rfl, _⟩ := r'; rfl
    rw [this]
    simp [AV.elem] at h
    exact ⟨by simp only [AV.cells, RepL]; exact ⟨y, [], f, [], rfl, by simp, r, rfl, rfl⟩, by simp [h]⟩
  | fn _ _ =>
    have r' := r
    simp only [Rep] at r'
    have : y.cells = #[y] := by obtain ⟨_, rfl, _⟩ := r'; rfl
    rw [this]
    simp [AV.elem] at h
    exact ⟨by simp only [AV.cells, RepL]; exact ⟨y, [], f, [], rfl, by simp, r, rfl, rfl⟩, by simp [h]⟩

def elm (P : Program) (t : TypeId) : Option (TypeId × Nat × Nat) :=
  match P.underlying t with
  | some (.slice e) => match P.info? e with
    | some i => some (e, i.size, i.bytes)
    | none => none
  | _ => none

theorem elm_inv {t e : TypeId} {sz by_ : Nat} (h : elm P t = some (e, sz, by_)) : ∃ i, P.underlying t = some (.slice e) ∧ P.info? e = some i ∧ i.size = sz ∧ i.bytes = by_ := by
  unfold elm at h
  split at h
  · rename_i e' he
    split at h
    · rename_i i hi
      simp at h
      obtain ⟨rfl, rfl, rfl⟩ := h
      exact ⟨i, he, hi, rfl, rfl⟩
    · cases h
  · cases h

theorem lop_indexAddr_sl {x i : Operand} {t e : TypeId} {sz by_ : Nat} {l : List AV} {k : IntKind} {n : Int} {y : AV} (ho : o.op = .indexAddr t x i) (hx : ev s.t x = .sl false sz l)
    (hi : ev s.t i = .v (.int k n)) (ht : elm P t = some (e, sz, by_)) (h0 : 0 ≤ n) (hy : l[n.toNat]? = some y) (he : y.elem sz = true) : LOp L P s o (.vp y.cells) [] := by
  obtain ⟨inf, hu, hinf, hsz, _⟩ := elm_inv ht
  refine LOp.of_run0 fun B F0 w0 F own fp fs a w h => ?_
  have hlt : n.toNat < l.length := by
    rcases Nat.lt_or_ge n.toNat l.length with h | h
    · exact h
    · rw [List.getElem?_eq_none h] at hy; cases hy
  have hr := h.ev x
  rw [hx] at hr
  simp only [Rep] at hr
  rcases hr with ⟨_, rfl, _⟩ | ⟨b, off, cap, vals, fp', hv, _, _, hrow, hl, hF⟩
  · simp at hlt
  · rcases hF with ⟨hF, _⟩ | ⟨_, hF, rfl, _⟩
    · cases hF
    · obtain ⟨y', f, h1, h2, h3, h4⟩ := hl.get hy
      have : f = [] := List.eq_nil_iff_forall_not_mem.2 fun b hb => by simpa using h4 b hb
      subst this
      have hP : P.elem t = e := by simp [Program.elem, hu]
      refine ⟨.pointer (some ⟨b, off + n.toNat * sz, none⟩), ?_, ?_⟩
      · simp only [execOp, ho, hv, h.val hi, Sem.run_bind, run_indexAt_slice w t _ _ _ k n (elem_of hu)]
        rw [if_pos ⟨h0, by omega⟩]
        simp [hP, sizeOf, typeInfo, hinf, hsz, add_mk]
      · simp only [Rep]
        refine ⟨trivial, b, _, y'.cells.toList, rfl, hF, ?_, (cells_rep he h3).1⟩
        rw [← h1]; exact hrow.cut _ _

theorem lop_indexAddr_arr {x i : Operand} {t e : TypeId} {sz by_ b off len : Nat} {k : IntKind} {n : Int} (ho : o.op = .indexAddr t x i) (hx : ev s.t x = .arr b off len sz)
    (hi : ev s.t i = .v (.int k n)) (ht : elm P t = some (e, sz, by_)) (h0 : 0 ≤ n) (hy : n < len) : LOp L P s o (.ptr b (off + n.toNat * sz)) [] := by
  obtain ⟨inf, hu, hinf, hsz, _⟩ := elm_inv ht
  refine LOp.of_run0 fun B F0 w0 F own fp fs a w h => ?_
  have hr := h.ev x
  rw [hx] at hr
  simp only [Rep] at hr
  obtain ⟨_, cap, hv, _⟩ := hr
  have hP : P.elem t = e := by simp [Program.elem, hu]
  refine ⟨.pointer (some ⟨b, off + n.toNat * sz, none⟩), ?_, by simp [Rep]⟩
  simp only [execOp, ho, hv, h.val hi, Sem.run_bind, run_indexAt_slice w t _ _ _ k n (elem_of hu)]
  rw [if_pos ⟨h0, hy⟩]
  simp [hP, sizeOf, typeInfo, hinf, hsz, add_mk]
end ops
end Go.Ab
namespace Go.Ab
open Go.RowKit (Below)

def dropO (o : List (Nat × Option (List AV))) : List Nat → List (Nat × Option (List AV))
  | [] => o
  | b :: D => (b, none) :: dropO o D

theorem O_drop (o : List (Nat × Option (List AV))) (D : List Nat) (b : Nat) : O (dropO o D) b = if b ∈ D then none else O o b := by
  induction D with
  | nil => simp [dropO]
  | cons d D ih =>
    by_cases h : d = b
    · simp [dropO, O, h]
    · have h' : ¬ b = d := fun e => h e.symm
      simp [dropO, O, h, h', ih]

section
variable {L : Nat → Nat} {B : Nat → Prop} {F0 : Nat → Prop} {w0 : World} {F : Nat → Prop} {own : Nat → Own} {fp fs : Nat → List Nat} {s : AS} {a : Act} {w : World}

theorem DenAt.own_none (h : DenAt L B F0 w0 F own fp fs s a w) {b : Nat} (hb : w.heap.size ≤ b) : own b = .none := by
  rcases Classical.em (own b = .none) with e | e
  · exact e
  · have := (h.ol b e).2; omega

theorem DenAt.renew (h : DenAt L B F0 w0 F own fp fs s a w) {w' : World} {x : AV} {v : Value} (C D : List Nat) (bn : Nat) (cells' : List AV) (fn : List Nat) (d : Option Nat)
    (hd : dstOK s.n d = true) (hst : w'.os = w.os ∧ w'.tape = w.tape ∧ w'.output = w.output) (hext : Ext (fun b => b < w.heap.size ∧ b ∉ D) w w') (hD : ∀ b, b ∈ D → own b = .key)
    (hbn : bn ∈ D ∨ (w.heap.size ≤ bn ∧ bn < w'.heap.size))
    (hblk : ∃ (c : Array Value) (Ty : TypeId) (vals rest : List Value), w'.heap[bn]? = some (.cells c Ty (0, 0)) ∧ c.toList = vals ++ rest ∧ RepL L F w' cells' vals fn)
    (hfn : fn.Nodup) (hfn' : ∀ k, k ∈ fn → (∃ i, i ∈ C ∧ k ∈ fp i) ∨ (∃ b, b ∈ D ∧ own k = .obj b)) (hx : Rep L F w' x v []) :
    Den L B F0 w0 ⟨s.n, Ab.put (killL s.t C) d x, (bn, some cells') :: dropO s.o D⟩ (a.put d v) w' := by
  have hsz := hext.size
  have hB := h.hB
  classical
  have hbn0 : own bn = .key ∨ own bn = .none := by
    rcases hbn with e | e
    · exact .inl (hD _ e)
    · exact .inr (h.own_none e.1)
  have hbnB : ¬ B bn ∧ bn < w'.heap.size := by
    rcases hbn with e | e
    · have := h.ol bn (by rw [hD _ e]; simp); exact ⟨this.1, by omega⟩
    · exact ⟨fun hb => by have := hB bn hb; omega, e.2⟩
  have hfnown : ∀ k, k ∈ fn → (∃ i, i ∈ C ∧ own k = .slot i) ∨ ∃ b, b ∈ D ∧ own k = .obj b := fun k hk => by
    rcases hfn' k hk with ⟨i, hi, hk'⟩ | e
    · exact .inl ⟨i, hi, h.so i k hk'⟩
    · exact .inr e
  have hfnlt : ∀ k, k ∈ fn → ¬ B k ∧ k < w.heap.size ∧ k ≠ bn := fun k hk => by
    have e : own k ≠ .none ∧ own k ≠ .key := by
      rcases hfnown k hk with ⟨i, _, e⟩ | ⟨b, _, e⟩ <;> rw [e] <;> simp
    have := h.ol k e.1
    refine ⟨this.1, this.2, fun e' => ?_⟩
    subst e'
    rcases hbn0 with e' | e'
    · exact e.2 e'
    · exact e.1 e'
  have hFS : ∀ b, F b → F b ∧ (b < w.heap.size ∧ b ∉ D) := fun b hb' => ⟨hb', (h.fl b hb').2.1, fun hd' => by
    have e1 := (h.fl b hb').1; rw [hD b hd'] at e1; cases e1⟩
  let own' : Nat → Own := fun k => if k = bn then .key else if k ∈ fn then .obj bn else if k ∈ D then .none else own k
  refine ⟨F, own', fun i => if d = some i then [] else if i ∈ C then [] else fp i, fun b => if b = bn then fn else fs b, ?_⟩
  refine { below := h.below.trans ⟨hst.1, hst.2.1, hst.2.2, hsz, fun k hk => hext.same k ⟨hB k hk, fun hd => (h.ol k (by rw [hD k hd]; simp)).1 hk⟩, hext.shape⟩, hB := fun b hb => Nat.lt_of_lt_of_le (hB b hb) hsz, f0 := h.f0, fl := ?_, ol := ?_, defers := ?_, size := ?_, slots := ?_, sn := ?_, so := ?_, obj := ?_ }
  · intro b hb
    have h1 := h.fl b hb
    have n1 : b ≠ bn := by
      rintro rfl
      rcases hbn with e | e
      · exact (hFS b hb).2.2 e
      · omega
    have n2 : b ∉ fn := fun hk => by
      rcases hfnown b hk with ⟨i, _, e⟩ | ⟨b', _, e⟩ <;> rw [h1.1] at e <;> cases e
    refine ⟨?_, by omega, h1.2.2⟩
    simp only [own', if_neg n1, if_neg n2, if_neg (hFS b hb).2.2]; exact h1.1
  · intro b hb
    simp only [own'] at hb
    by_cases e1 : b = bn
    · subst e1; exact hbnB
    · rw [if_neg e1] at hb
      by_cases e2 : b ∈ fn
      · have := hfnlt b e2; exact ⟨this.1, by omega⟩
      · rw [if_neg e2] at hb
        by_cases e3 : b ∈ D
        · rw [if_pos e3] at hb; exact absurd rfl hb
        · rw [if_neg e3] at hb; have := h.ol b hb; exact ⟨this.1, by omega⟩
  · cases d <;> simpa [Act.put] using h.defers
  · cases d <;> simpa [Act.put] using h.size
  · intro i
    simp only [T_put, T_kill]
    rw [getD_put a d v i (by rw [h.size]; exact hd)]
    by_cases e : d = some i
    · simp only [e, if_true]; exact hx
    · simp only [if_neg e]
      by_cases hi : i ∈ C
      · simp only [if_pos hi]; simp [Rep]
      · simp only [if_neg hi]
        refine Rep.ext hext hFS (fun b hb' => ⟨(h.fp_lt hb').2, fun hd' => ?_⟩) (h.slots i)
        have e1 := h.so i b hb'; rw [hD b hd'] at e1; cases e1
  · intro i
    split
    · simp
    · split
      · simp
      · exact h.sn i
  · intro i b hb'
    by_cases e : d = some i
    · rw [if_pos e] at hb'; simp at hb'
    · rw [if_neg e] at hb'
      by_cases hi : i ∈ C
      · rw [if_pos hi] at hb'; simp at hb'
      · rw [if_neg hi] at hb'
        have ho := h.so i b hb'
        have n1 : b ≠ bn := by rintro rfl; rcases hbn0 with e' | e' <;> rw [ho] at e' <;> cases e'
        have n2 : b ∉ fn := fun hk => by
          rcases hfnown b hk with ⟨j, hj, e'⟩ | ⟨b', _, e'⟩ <;> rw [ho] at e' <;> cases e'
          exact hi hj
        have n3 : b ∉ D := fun hd' => by have e1 := hD b hd'; rw [ho] at e1; cases e1
        simp only [own', if_neg n1, if_neg n2, if_neg n3]; exact ho
  · intro b cells hO
    simp only [O] at hO
    by_cases e : bn = b
    · subst e
      rw [if_pos rfl] at hO
      cases hO
      obtain ⟨c, Ty, vals, rest, h1, h2, h3⟩ := hblk
      refine ⟨by simp [own'], by simpa using hfn, ?_, c, Ty, vals, rest, h1, h2, by simpa using h3⟩
      intro k hk
      simp only [if_true] at hk
      simp only [own', if_neg (hfnlt k hk).2.2, if_pos hk]
    · rw [if_neg e, O_drop] at hO
      by_cases hdb : b ∈ D
      · rw [if_pos hdb] at hO; cases hO
      · rw [if_neg hdb] at hO
        have e' : ¬ b = bn := fun h => e h.symm
        obtain ⟨h1, h2, h3, c, Ty, vals, rest, h4, h5, h6⟩ := h.obj b cells hO
        have hlt := (h.ol b (by rw [h1]; simp)).2
        have n2 : b ∉ fn := fun hk => by
          rcases hfnown b hk with ⟨j, hj, e'⟩ | ⟨b', _, e'⟩ <;> rw [h1] at e' <;> cases e'
        refine ⟨by simp only [own', if_neg e', if_neg n2, if_neg hdb]; exact h1, by simpa [e'] using h2, ?_, c, Ty, vals, rest, ?_, h5, ?_⟩
        · intro k hk
          simp only [if_neg e'] at hk
          have ho := h3 k hk
          have n1 : k ≠ bn := by rintro rfl; rcases hbn0 with e' | e' <;> rw [ho] at e' <;> cases e'
          have n2 : k ∉ fn := fun hk => by
            rcases hfnown k hk with ⟨j, hj, e'⟩ | ⟨b', hb', e'⟩ <;> rw [ho] at e' <;> cases e'
            exact hdb hb'
          have n3 : k ∉ D := fun hd' => by have e1 := hD k hd'; rw [ho] at e1; cases e1
          simp only [own', if_neg n1, if_neg n2, if_neg n3]; exact ho
        · rw [hext.same b ⟨hlt, hdb⟩]; exact h4
        · simp only [if_neg e']
          refine RepL.ext hext hFS (fun k hk => ⟨?_, fun hd' => ?_⟩) h6
          · exact (h.ol k (by rw [h3 k hk]; simp)).2
          · have e1 := hD k hd'; rw [h3 k hk] at e1; cases e1
end

theorem Ext.alloc (w : World) (o : Obj) (D : List Nat) : Ext (fun b => b < w.heap.size ∧ b ∉ D) w (w.alloc o) := by
  refine ⟨by show _ ≤ (w.heap.push o).size; simp, fun b hb => Below.heap_alloc w o b hb.1, fun b c T z hc => ⟨c, ?_, rfl⟩⟩
  have hb : b < w.heap.size := by
    rcases Nat.lt_or_ge b w.heap.size with h | h
    · exact h
    · rw [Array.getElem?_eq_none h] at hc; cases hc
  rw [Below.heap_alloc w o b hb]; exact hc

theorem Ext.alloc' (w : World) (o : Obj) : Ext (fun b => b < w.heap.size) w (w.alloc o) := by
  obtain ⟨h1, h2, h3⟩ := Ext.alloc w o []
  exact ⟨h1, fun b hb => h2 b ⟨hb, by simp⟩, h3⟩

theorem alloc_at (w : World) (o : Obj) : (w.alloc o).heap[w.heap.size]? = some o := by show (w.heap.push o)[w.heap.size]? = _; simp

def zer (P : Program) (t : TypeId) : Option (List Value) :=
  match P.info? t with
  | some i => match i.zero with
    | some z => some z.cells.toList
    | none => none
  | none => none

theorem zer_run {P : Program} {t : TypeId} {zs : List Value} (h : zer P t = some zs) : ∃ z : Value, z.cells.toList = zs ∧ ∀ w, (zeroValue t).run P w = .ok z w := by
  unfold zer at h
  split at h
  · rename_i i hi
    split at h
    · rename_i z hz
      simp at h
      exact ⟨z, h, fun w => by simp [zeroValue, typeInfo, hi, hz]⟩
    · cases h
  · cases h

theorem RepL.plain {L : Nat → Nat} {F : Nat → Prop} {w : World} : ∀ vs : List Value, RepL L F w (vs.map avz) vs []
  | [] => by simp [RepL]
  | y :: vs => by simp only [List.map_cons, RepL]; exact ⟨y, vs, [], [], rfl, rfl, rep_avz y, RepL.plain vs⟩

section ops
variable {L : Nat → Nat} {P : Program} {s : AS} {o : Oper}

theorem cells_of {F : Nat → Prop} {w : World} {sz : Nat} {x : AV} {y : Value} {f : List Nat} (h : x.elem sz = true) (r : Rep L F w x y f) : RepL L F w x.cells y.cells.toList f := (cells_rep h r).1

theorem lop_box {t : TypeId} {x : Operand} {sz : Nat} (ho : o.op = .box t x) (hx : (ev s.t x).elem sz = true) : LOp L P s o (.vp (AV.frzL (ev s.t x).cells)) (kills s.t [x]) := by
  intro B F0 w0 F own fp fs a w next Q h hnext
  have hr := h.ev x
  have hrun : (execOp a.eval o).run P w = .ok (.value (.pointer (some ⟨w.heap.size, 0, none⟩))) (w.alloc (.cells (a.eval x).cells t)) := by
    simp [execOp, ho, Instr.box, newVar, newRow]
  unfold Oper.wp
  rw [hrun]
  have hlt : ∀ k, k ∈ fpo fp x → k < w.heap.size := fun k hk => by
    obtain ⟨i, _, hi⟩ := fpo_kills h (xs := [x]) (by simp) k hk
    exact (h.fp_lt hi).2
  have hFS : ∀ b, F b → F b ∧ (b < w.heap.size) := fun b hb' => ⟨hb', (h.fl b hb').2.1⟩
  refine hnext _ _ ⟨Kp.of_below ((Below.refl _ _).alloc (Nat.le_refl _) _), fun b => F b ∨ b = w.heap.size ∨ b ∈ fpo fp x, [], fun _ h => .inl h, ?_, ?_, by simp, by simp⟩
  · rintro b (e | rfl | e)
    · exact .inl e
    · exact .inr (.inl ⟨Nat.le_refl _, by simp⟩)
    · exact .inr (.inr (fpo_kills h (by simp) b e))
  · simp only [Rep]
    refine ⟨trivial, w.heap.size, 0, (a.eval x).cells.toList, rfl, .inr (.inl rfl), ⟨_, _, _, alloc_at w _, fun i _ => by simp⟩, ?_⟩
    refine RepL.frz (F := F) (fun b h => .inl h) (fun b hb => .inr (.inr hb)) ?_
    exact RepL.ext (Ext.alloc' w _) hFS hlt (cells_of hx hr)
end ops
end Go.Ab
namespace Go.Ab
open Go.RowKit (Below)

theorem RepE.flat {L : Nat → Nat} {F : Nat → Prop} {w : World} {sz : Nat} : ∀ {l : List AV} {vs : List Value} {fp : List Nat}, (∀ x, x ∈ l → x.elem sz = true) → RepE L F w sz l vs fp → RepL L F w (l.flatMap AV.cells) vs fp
  | [], _, _, _, r => by simpa [RepE, RepL] using r
  | x :: xs, vs, fp, h, r => by
    simp only [RepE] at r
    obtain ⟨y, vs', f1, f2, rfl, hsz, rfl, hx, hxs⟩ := r
    rw [List.flatMap_cons]
    exact RepL.join (cells_of (h x (by simp)) hx) (RepE.flat (fun z hz => h z (by simp [hz])) hxs)

def AV.one : AV → Bool
  | .v x => x.oneCell'
  | .str _ | .sl .. | .vp _ | .arr .. | .ptr .. | .fn .. => true
  | _ => false

theorem Rep.one {L : Nat → Nat} {F : Nat → Prop} {w : World} {x : AV} {y : Value} {f : List Nat} (r : Rep L F w x y f) (h : x.one = true) : y.oneCell' = true := by
  cases x with
  | dead => simp [AV.one] at h
  | agg l => simp [AV.one] at h
  | tup l => simp [AV.one] at h
  | cnd _ _ => simp [AV.one] at h
  | pin _ _ => simp [AV.one] at h
  | v x => simp only [Rep] at r; rw [r.1]; simpa [AV.one] using h
  | str _ => simp only [Rep] at r; rw [r.1]; rfl
  | sl _ _ _ => simp only [Rep] at r; rcases r with ⟨rfl | ⟨_, _, rfl⟩, _⟩ | ⟨_, _, _, _, _, rfl, _⟩ <;> rfl
  | vp _ => simp only [Rep] at r; obtain ⟨_, _, _, _, rfl, _⟩ := r; rfl
  | arr _ _ _ _ => simp only [Rep] at r; obtain ⟨_, _, rfl, _⟩ := r; rfl
  | ptr _ _ => simp only [Rep] at r; rw [r.1]; rfl
  | fn _ _ => simp only [Rep] at r; obtain ⟨_, rfl, _⟩ := r; rfl

theorem RepL.ones {L : Nat → Nat} {F : Nat → Prop} {w : World} : ∀ {l : List AV} {vs : List Value} {fp : List Nat}, RepL L F w l vs fp → l.all AV.one = true → ∀ u, u ∈ vs → u.oneCell' = true
  | [], _, _, r, _, u, hu => by simp only [RepL] at r; rw [r.1] at hu; simp at hu
  | x :: xs, vs, fp, r, h, u, hu => by
    simp only [RepL] at r
    obtain ⟨y, vs', f1, f2, rfl, rfl, hx, hxs⟩ := r
    simp at h
    rcases List.mem_cons.1 hu with rfl | hu
    · exact hx.one h.1
    · exact RepL.ones hxs (by simpa using h.2) u hu

structure Src (P : Program) (w : World) (size : Nat) (u : TypeId) (x : Value) (n : Nat) (news : List Value) : Prop where
  ty : (∃ e', P.underlying u = some (.slice e')) ∨ P.underlying u = some .string
  len : ∀ w', (Builtin.lenOf x).run P w' = .ok n w'
  first : ∀ w' : World, w'.heap = w.heap → (Builtin.firstCells size n x).run P w' = .ok news.toArray w'

section
variable {P : Program} {w : World} {t u tyr e : TypeId} {i : TypeInfo} {x : Value} {n : Nat} {news : List Value}

theorem app_room (ht : P.underlying t = some (.slice e)) (hi : P.info? e = some i) (hs : Src P w i.size u x n news) (g sLen sCap : Nat) (cur : Array Value) (Ty : TypeId) (hg : w.heap[g]? = some (.cells cur Ty (0, 0)))
    (h1 : ∀ v, v ∈ news → v.oneCell' = true) (hroom : sLen + n ≤ sCap) (hfit : sLen * i.size + news.length ≤ cur.size) :
    (Builtin.append_ #[t, u] tyr #[.slice (some ⟨g, 0, none⟩) sLen sCap, x]).run P w =
      .ok (.slice (some ⟨g, 0, none⟩) (sLen + n) sCap) (w.setRow g (cur.toList.take (sLen * i.size) ++ news ++ cur.toList.drop (sLen * i.size + news.length)).toArray) := by
  have hst := run_storeCells_at P g (sLen * i.size) Ty news 0 cur w hg (by simpa using hfit) h1
  simp only [Nat.add_zero] at hst
  have hf := hs.first w rfl
  rcases hs.ty with ⟨e', hu⟩ | hu <;> simp [Builtin.append_, run_underlying ht, run_underlying hu, sizeOf, typeInfo, hi, hs.len, hroom, hf, add_mk, hst]

theorem app_grow {z : Value} (ht : P.underlying t = some (.slice e)) (hi : P.info? e = some i) (hzr : i.zero = some z) (hs : Src P w i.size u x n news) (b : Addr) (sLen sCap : Nat) (olds : List Value) (hlo : olds.length = sLen * i.size)
    (holds : ∀ j v, olds[j]? = some v → w.cell? (b.add j) = some v) (hg : sCap < sLen + n) (h63 : sLen + n ≤ 9223372036854775807) (hfit : (sLen + n) * i.bytes ≤ 140737488355328) :
    (Builtin.append_ #[t, u] tyr #[.slice (some b) sLen sCap, x]).run P w =
      .ok (.slice (some ⟨w.heap.size, 0, none⟩) (sLen + n) (grownCap w (sLen + n) sCap e))
        (w.drew.alloc (.cells (olds.toArray ++ news.toArray ++ Builtin.zeroCells z.cells (grownCap w (sLen + n) sCap e - (sLen + n))) e)) := by
  have hn : ¬ (sLen + n ≤ sCap) := by omega
  have h63' : ¬ (9223372036854775807 < ((sLen : Int) + (n : Int))) := by omega
  have h48' : ¬ (281474976710656 < Builtin.nextslicecap (sLen + n) sCap * i.bytes) := by
    have := growslice_fits (bytes := i.bytes) hg hfit; omega
  have hf := hs.first w.drew rfl
  have hfo := run_firstCells_some (P := P) w.drew i.size sLen b sLen sCap olds hlo (by simpa using holds)
  rcases hs.ty with ⟨e', hu⟩ | hu
  all_goals
    simp [Builtin.append_, run_underlying ht, run_underlying hu, sizeOf, typeInfo, zeroValue, hi, hzr, hs.len, hn, h63', h48', Question.forced, hf, hfo, newRow, grownCap]
    try (congr 2; apply Array.ext'; simp [List.append_assoc])

theorem app_nil {z : Value} (ht : P.underlying t = some (.slice e)) (hi : P.info? e = some i) (hzr : i.zero = some z) (hs : Src P w i.size u x n news)
    (h0 : 0 < n) (h63 : n ≤ 9223372036854775807) (hfit : n * i.bytes ≤ 140737488355328) :
    (Builtin.append_ #[t, u] tyr #[.slice none 0 0, x]).run P w =
      .ok (.slice (some ⟨w.heap.size, 0, none⟩) n (grownCap w n 0 e)) (w.drew.alloc (.cells (news.toArray ++ Builtin.zeroCells z.cells (grownCap w n 0 e - n)) e)) := by
  have hn : n ≠ 0 := by omega
  have h63' : ¬ (9223372036854775807 < (n : Int)) := by omega
  have h48' : ¬ (281474976710656 < Builtin.nextslicecap n 0 * i.bytes) := by rw [nextslicecap_zero h0]; omega
  have hf := hs.first w.drew rfl
  rcases hs.ty with ⟨e', hu⟩ | hu <;> simp [Builtin.append_, run_underlying ht, run_underlying hu, sizeOf, typeInfo, zeroValue, hi, hzr, hs.len, hn, h63', h48', Question.forced, run_firstCells_none, hf, newRow, grownCap]
end

theorem heap_setRow_other (w : World) (g : Nat) (cs : Array Value) (b : Nat) (h : b ≠ g) : (w.setRow g cs).heap[b]? = w.heap[b]? := by
  simp only [World.setRow, Array.getElem?_modify]
  rw [if_neg (by omega)]

theorem heap_setRow_same (w : World) (g : Nat) (cs cur : Array Value) (Ty : TypeId) (z : Nat × Nat) (h : w.heap[g]? = some (.cells cur Ty z)) : (w.setRow g cs).heap[g]? = some (.cells cs Ty z) := by
  simp only [World.setRow, Array.getElem?_modify, if_true, h, Option.map_some]

theorem Ext.setRow (w : World) (g : Nat) (cs cur : Array Value) (Ty : TypeId) (z : Nat × Nat) (h : w.heap[g]? = some (.cells cur Ty z)) (hs : cs.size = cur.size) : Ext (fun b => b < w.heap.size ∧ b ∉ [g]) w (w.setRow g cs) := by
  refine ⟨by simp [World.setRow], fun b hb => heap_setRow_other w g cs b (by simpa using hb.2), fun b c T z' hc => ?_⟩
  by_cases e : b = g
  · subst e
    rw [h] at hc
    cases hc
    exact ⟨cs, heap_setRow_same w b cs cur Ty z h, hs⟩
  · exact ⟨c, by rw [heap_setRow_other w g cs b e]; exact hc, rfl⟩

theorem Ext.drewAlloc (w : World) (o : Obj) (D : List Nat) : Ext (fun b => b < w.heap.size ∧ b ∉ D) w (w.drew.alloc o) := by
  obtain ⟨h1, h2, h3⟩ := Ext.alloc w.drew o D
  exact ⟨h1, h2, h3⟩

def srcA (os : List (Nat × Option (List AV))) (sz : Nat) : AV → Option (Nat × List AV)
  | .sl _ z l => bif z == sz && l.all (AV.elem sz) then some (l.length, l.flatMap AV.cells) else none
  | .arr b off len z => match O os b with
    | some cells => if z = sz ∧ AV.nownL ((cells.drop off).take (len * sz)) = true ∧ off + len * sz ≤ cells.length then some (len, (cells.drop off).take (len * sz)) else none
    | none => none
  | .v (.slice none 0 0) => some (0, [])
  | .str l => bif sz == 1 then some (l.length, l.map fun c => .v (.int .u8 c.toNat)) else none
  | _ => none

section
variable {L : Nat → Nat} {B : Nat → Prop} {F0 : Nat → Prop} {w0 : World} {F : Nat → Prop} {own : Nat → Own} {fp fs : Nat → List Nat} {s : AS} {a : Act} {w : World} {P : Program}

theorem src_of (h : DenAt L B F0 w0 F own fp fs s a w) {x : Operand} {sz n : Nat} {cells : List AV} {u : TypeId} (hs : srcA s.o sz (ev s.t x) = some (n, cells)) (hu : (∃ e', P.underlying u = some (.slice e')) ∨ P.underlying u = some .string) :
    ∃ news f, Src P w sz u (a.eval x) n news ∧ news.length = n * sz ∧ RepL L F w cells news f ∧ f.Nodup ∧ ∀ b, b ∈ f → ∃ i, i ∈ kills s.t [x] ∧ b ∈ fp i := by
  have hr := h.ev x
  have hn := fpo_nodup h x
  have hk := fpo_kills h (x := x) (xs := [x]) (by simp)
  cases hx : ev s.t x with
  | sl own' z l =>
    rw [hx] at hs hr
    simp only [srcA] at hs
    cases hc : (z == sz && l.all (AV.elem sz)) with
    | false => rw [hc] at hs; simp at hs
    | true =>
      rw [hc] at hs
      simp at hs hc
      obtain ⟨rfl, rfl⟩ := hs
      obtain ⟨rfl, hel⟩ := hc
      simp only [Rep] at hr
      rcases hr with ⟨hv | ⟨_, aa, hv⟩, rfl, hf⟩ | ⟨b, off, cap, vals, fp', hv, _, _, hrow, hE, hown⟩
      · refine ⟨[], [], ⟨hu, fun w' => by simp [hv, Builtin.lenOf], fun w' _ => by simp [hv, Builtin.firstCells]⟩, by simp, by simp [RepL], by simp, by simp⟩
      · refine ⟨[], [], ⟨hu, fun w' => by simp [hv, Builtin.lenOf], fun w' _ => by rw [hv]; exact run_firstCells_some (P := P) w' z 0 aa 0 0 [] (by simp) (by simp)⟩, by simp, by simp [RepL], by simp, by simp⟩
      · have hlen := hE.len
        refine ⟨vals, fp', ⟨hu, fun w' => by simp [hv, Builtin.lenOf], fun w' hw' => ?_⟩, hlen, hE.flat hel, ?_, ?_⟩
        · rw [hv]
          refine run_firstCells_some (P := P) w' z l.length ⟨b, off, none⟩ l.length cap vals hlen fun j v hj => ?_
          rw [add_mk]
          have := hrow.cell hj
          simpa [World.cell?, hw'] using this
        · rcases hown with ⟨_, e, _⟩ | ⟨_, _, e, _⟩
          · rw [e] at hn; exact (List.nodup_cons.1 hn).2
          · rw [e]; simp
        · intro b' hb'
          rcases hown with ⟨_, e, _⟩ | ⟨_, _, e, _⟩
          · exact hk b' (by rw [e]; simp [hb'])
          · rw [e] at hb'; simp at hb'
  | arr b off len z =>
    rw [hx] at hs hr
    simp only [srcA] at hs
    cases hO : O s.o b with
    | none => rw [hO] at hs; simp at hs
    | some cs =>
      rw [hO] at hs
      simp only at hs
      split at hs
      · rename_i hc
        obtain ⟨rfl, hnown, hle⟩ := hc
        simp at hs
        obtain ⟨rfl, rfl⟩ := hs
        simp only [Rep] at hr
        obtain ⟨_, cap, hv, _⟩ := hr
        obtain ⟨vals, f, hrow, hl, _⟩ := h.row hO off
        obtain ⟨f', hl', _⟩ := hl.cut 0 (len * z)
        simp only [List.drop_zero] at hl'
        have hf' := RepL.fp_nil hnown hl'
        subst hf'
        have hlen := hl'.len
        have hlen' : (vals.take (len * z)).length = len * z := by rw [hlen]; simp; omega
        refine ⟨vals.take (len * z), [], ⟨hu, fun w' => by simp [hv, Builtin.lenOf], fun w' hw' => ?_⟩, hlen', hl', by simp, by simp⟩
        rw [hv]
        refine run_firstCells_some (P := P) w' z len ⟨b, off, none⟩ len cap _ hlen' fun j v hj => ?_
        rw [add_mk]
        have := (hrow.cut 0 (len * z)).cell (i := j) (v := v) (by simpa using hj)
        simpa [World.cell?, hw'] using this
      · cases hs
  | v y =>
    rw [hx] at hs hr
    simp only [Rep] at hr
    cases y with
    | slice q len cap =>
      cases q with
      | some q => simp [srcA] at hs
      | none =>
        cases len with
        | succ _ => simp [srcA] at hs
        | zero =>
          cases cap with
          | succ _ => simp [srcA] at hs
          | zero =>
            simp [srcA] at hs
            obtain ⟨rfl, rfl⟩ := hs
            refine ⟨[], [], ⟨hu, fun w' => by simp [hr.1, Builtin.lenOf], fun w' _ => by simp [hr.1, Builtin.firstCells]⟩, by simp, by simp [RepL], by simp, by simp⟩
    | _ => simp [srcA] at hs
  | str st =>
    rw [hx] at hs hr
    simp only [Rep] at hr
    simp only [srcA] at hs
    cases hc : (sz == 1) with
    | false => rw [hc] at hs; simp at hs
    | true =>
      rw [hc] at hs
      simp at hs hc
      obtain ⟨rfl, rfl⟩ := hs
      subst hc
      refine ⟨st.map fun c => .int .u8 c.toNat, [], ⟨hu, fun w' => by simp [hr.1, Builtin.lenOf, ByteArray.size], fun w' _ => ?_⟩, by simp, ?_, by simp, by simp⟩
      · simp only [hr.1, Builtin.firstCells, Sem.run_pure]
        congr 1
        apply Array.ext'
        have he : (ByteArray.mk st.toArray).extract 0 st.length = ⟨st.toArray⟩ := by
          apply WideShapes.bytes_inj
          rw [ByteArray.data_extract]
          simp
        rw [he]; simp
      · have := RepL.plain (L := L) (F := F) (w := w) (st.map fun c => Value.int .u8 c.toNat)
        simpa [Function.comp_def, avz] using this
  | dead => rw [hx] at hs; simp [srcA] at hs
  | vp _ => rw [hx] at hs; simp [srcA] at hs
  | ptr _ _ => rw [hx] at hs; simp [srcA] at hs
  | agg _ => rw [hx] at hs; simp [srcA] at hs
  | tup _ => rw [hx] at hs; simp [srcA] at hs
  | fn _ _ => rw [hx] at hs; simp [srcA] at hs
  | cnd _ _ => rw [hx] at hs; simp [srcA] at hs
  | pin _ _ => rw [hx] at hs; simp [srcA] at hs
end
end Go.Ab
namespace Go.Ab
open Go.RowKit (Below)

theorem run_copy_rows {P : Program} (w : World) (t u ty e : TypeId) (i : TypeInfo) (ht : P.underlying t = some (.slice e)) (hi : P.info? e = some i) (size : Nat) (hsz : i.size = size) (b o dLen dCap : Nat) (A : Addr) (sLen sCap : Nat) (news : List Value) (hn : news.length = Nat.min sLen dLen * size)
    (hc : ∀ j v, news[j]? = some v → w.cell? (A.add j) = some v) (cur : Array Value) (Ty : TypeId) (hg : w.heap[b]? = some (.cells cur Ty (0, 0))) (hfit : o + news.length ≤ cur.size) (h1 : ∀ v ∈ news, v.oneCell' = true) :
    (Builtin.copy_ #[t, u] ty #[.slice (some ⟨b, o, none⟩) dLen dCap, .slice (some A) sLen sCap]).run P w = .ok (goInt (Nat.min sLen dLen)) (w.setRow b (cur.toList.take o ++ news ++ cur.toList.drop (o + news.length)).toArray) := by
  subst hsz
  have hst := run_storeCells_at P b o Ty news 0 cur w hg (by simpa using hfit) h1
  simp only [Nat.add_zero] at hst
  have hf := run_firstCells_some (P := P) w i.size (Nat.min sLen dLen) A sLen sCap news hn hc
  simp only [Builtin.copy_, List.getElem?_toArray, Sem.run_bind, run_underlying ht, Result.andThen_ok, Builtin.lenOf, Sem.run_pure, sizeOf, typeInfo, hi, hf, List.getElem?_cons_zero, List.getElem?_cons_succ]
  simp [Builtin.copy_, run_underlying ht, Builtin.lenOf, sizeOf, typeInfo, hi, hf, hst, -List.append_assoc]

theorem wpList_copy_rows {P : Program} (w : World) {ops : Array Oper} {rest : List Oper} {o : Oper} {a : Act} {Q : Exit → Act → World → Prop} (hgd : o.guard = none) (d s : Operand) (t t' : TypeId)
    (ho : o.op = .call { callee := .builtin .copy, args := #[d, s], argTypes := #[t, t'] }) (v u : Value) (hd : a.eval d = v) (hs : a.eval s = u) {v' : Value} {w' : World}
    (hr : (Builtin.copy_ #[t, t'] o.type #[v, u]).run P w = .ok v' w') (h : wpList P ops Q rest (a.put o.dst v') w') : wpList P ops Q (o :: rest) a w := by
  refine wpList_plain hgd fun _ hK => ?_
  unfold Oper.wp execOp
  simp only [ho, resolve, invoke, builtin, Sem.run_bind, Sem.run_pure, Result.andThen_ok, List.map_toArray, List.map_cons, List.map_nil, hd, hs, hr]
  exact hK _ _ h

theorem step_copy_rows {P : Program} {ops : Array Oper} {o : Oper} {a : Act} {w : World} {K : Act → World → Prop} {Q : Exit → Act → World → Prop} {E : Prop}
    (hg : o.guard = none) (d x : Operand) (dT sT : TypeId) (hop : o.op = Op.call { callee := Callee.builtin Builtin.copy, args := #[d, x], argTypes := #[dT, sT] })
    (v u : Value) (hd : a.eval d = v) (hx : a.eval x = u) {v' : Value} {w' : World} (hr : (Builtin.copy_ #[dT, sT] o.type #[v, u]).run P w = .ok v' w') (hK : K (a.put o.dst v') w') :
    if Region.wanted o (yielded ops a.tmps) = true then Oper.wp P o a w K Q else E := by
  have hw : Region.wanted o (yielded ops a.tmps) = true := by simp [Region.wanted, hg]
  rw [if_pos hw]
  unfold Oper.wp
  simp [execOp, hop, resolve, invoke, builtin, hd, hx, hr, Result.andThen]
  exact hK

theorem ins_pre {P : Program} {w : World} {vb vc m : Nat} {cx : Array Value} {Tx S E : TypeId} {i0 : TypeInfo} (ht : P.underlying S = some (.slice E)) (hz1 : i0.size = 4) (hx : w.heap[vb]? = some (.cells cx Tx (0, 0))) (hvl : m * 4 ≤ cx.size) (h1x : ∀ (k : Nat) (v : Value), k < m * 4 → cx[k]? = some v → v.oneCell' = true) :
    ∃ xs : List Value, xs = cx.toList.take (m * 4) ∧ xs.length = m * 4 ∧ (∀ v ∈ xs, v.oneCell' = true) ∧ (∀ W : World, W.heap[vb]? = w.heap[vb]? → ∀ j v, xs[j]? = some v → W.cell? ((⟨vb, 0, none⟩ : Addr).add j) = some v) ∧ (∀ W : World, W.heap[vb]? = w.heap[vb]? → Src P W i0.size S (.slice (some ⟨vb, 0, none⟩) m vc) m xs) := by
  obtain ⟨xs, hxs⟩ : ∃ xs, xs = cx.toList.take (m * 4) := ⟨_, rfl⟩
  have hxl : xs.length = m * 4 := by rw [hxs]; simp; omega
  have hxget : ∀ k, k < m * 4 → xs[k]? = cx[k]? := fun k h => by rw [hxs, List.getElem?_take_of_lt h, Array.getElem?_toList]
  have hxone : ∀ v ∈ xs, v.oneCell' = true := by
    intro u hu
    obtain ⟨k, hk, rfl⟩ := List.getElem_of_mem hu
    have h3 := List.getElem?_eq_getElem hk
    rw [hxl] at hk
    rw [hxget k hk] at h3
    exact h1x _ _ hk h3
  have hxcell : ∀ (W : World), W.heap[vb]? = w.heap[vb]? → ∀ j v, xs[j]? = some v → W.cell? ((⟨vb, 0, none⟩ : Addr).add j) = some v := fun W hW j v hj => by
    have hj2 : j < m * 4 := by
      have := (List.getElem?_eq_some_iff.1 hj).1
      omega
    rw [hxget j hj2] at hj
    rw [Addr.add_lit, Nat.zero_add]
    have h2 : W.heap[vb]? = some (.cells cx Tx (0, 0)) := hW.trans hx
    simp [World.cell?, h2, hj]
  refine ⟨xs, hxs, hxl, hxone, hxcell, fun W hW => ⟨.inl ⟨_, ht⟩, fun w' => by simp [Builtin.lenOf], fun w' hw' => run_firstCells_some (P := P) w' i0.size m ⟨vb, 0, none⟩ m vc xs (by rw [hz1]; exact hxl) fun j v hj => ?_⟩⟩
  have := hxcell W hW j v hj
  simpa [World.cell?, hw'] using this
theorem ins_old {w : World} {b n : Nat} {c : Array Value} {Ty : TypeId} (hc : w.heap[b]? = some (.cells c Ty (0, 0))) (hns : n * 4 ≤ c.size) (h1c : ∀ (k : Nat) (v : Value), k < n * 4 → c[k]? = some v → v.oneCell' = true) :
    ∃ os : List Value, os = c.toList.take (n * 4) ∧ os.length = n * 4 ∧ (∀ v ∈ os, v.oneCell' = true) ∧ ∀ W : World, W.heap[b]? = w.heap[b]? → ∀ j v, os[j]? = some v → W.cell? (⟨b, j, none⟩ : Addr) = some v := by
  obtain ⟨os, hos⟩ : ∃ os, os = c.toList.take (n * 4) := ⟨_, rfl⟩
  have hol : os.length = n * 4 := by rw [hos]; simp; omega
  have hoget : ∀ k, k < n * 4 → os[k]? = c[k]? := fun k h => by rw [hos, List.getElem?_take_of_lt h, Array.getElem?_toList]
  refine ⟨os, hos, hol, ?_, fun W hW j v hj => ?_⟩
  · intro u hu
    obtain ⟨k, hk, rfl⟩ := List.getElem_of_mem hu
    have h3 := List.getElem?_eq_getElem hk
    rw [hol] at hk
    rw [hoget k hk] at h3
    exact h1c _ _ hk h3
  · have hj2 : j < n * 4 := by
      have := (List.getElem?_eq_some_iff.1 hj).1
      omega
    rw [hoget j hj2] at hj
    have h2 : W.heap[b]? = some (.cells c Ty (0, 0)) := hW.trans hc
    simp [World.cell?, h2, hj]

def InsPost (w : World) (b : Option Nat) (sz len : Nat) (news : List Value) (e : Ending) (w' : World) : Prop :=
  ∃ (b' cap' : Nat) (c' : Array Value) (Ty' : TypeId), e = .returned (.slice (some ⟨b', 0, none⟩) len cap') ∧ len ≤ cap' ∧ w'.heap[b']? = some (.cells c' Ty' (0, 0)) ∧ cap' * sz ≤ c'.size ∧ (some b' = b ∨ w.heap.size ≤ b') ∧
    (∀ k, k < news.length → c'[k]? = news[k]?) ∧ w'.os = w.os ∧ w'.tape = w.tape ∧ w'.output = w.output ∧ Ext (fun k => k < w.heap.size ∧ some k ≠ b) w w'
def InsW (P : Program) (f : FuncId) (sz bytes : Nat) : Prop :=
  (∀ (w : World) (b n cap i vb vc : Nat) (c cx : Array Value) (Ty Tx : TypeId), w.heap[vb]? = some (.cells cx Tx (0, 0)) → 1 * sz ≤ cx.size → (∀ (k : Nat) (v : Value), k < 1 * sz → cx[k]? = some v → v.oneCell' = true) →
    w.heap[b]? = some (.cells c Ty (0, 0)) → n ≤ cap → cap * sz ≤ c.size → (∀ (k : Nat) (v : Value), k < n * sz → c[k]? = some v → v.oneCell' = true) → vb ≠ b → i ≤ n → (n + 1) * bytes ≤ 140737488355328 →
    Calls P f #[.slice (some ⟨b, 0, none⟩) n cap, .int .i64 i, .slice (some ⟨vb, 0, none⟩) 1 vc] w (InsPost w (some b) sz (n + 1) ((c.toList.take (n * sz)).take (i * sz) ++ (cx.toList.take (1 * sz) ++ (c.toList.take (n * sz)).drop (i * sz))))) ∧
  (∀ (w : World) (vb vc : Nat) (cx : Array Value) (Tx : TypeId), w.heap[vb]? = some (.cells cx Tx (0, 0)) → 1 * sz ≤ cx.size → (∀ (k : Nat) (v : Value), k < 1 * sz → cx[k]? = some v → v.oneCell' = true) →
    Calls P f #[.slice none 0 0, .int .i64 (0 : Nat), .slice (some ⟨vb, 0, none⟩) 1 vc] w (InsPost w none sz 1 (cx.toList.take (1 * sz))))
end Go.Ab
namespace Go.Proofs.YtkdchlggdcmkbaaGreat
open Go.Ab Go.RowKit
theorem heap_lt {w : World} {b : Nat} {o : Obj} (h : w.heap[b]? = some o) : b < w.heap.size := (Array.getElem?_eq_some_iff.1 h).1
set_option maxRecDepth 1000000 in
set_option maxHeartbeats 4000000 in
theorem ins4_end_room (w : World) (b n cap vb m vc : Nat) (c cx : Array Value) (Ty Tx : TypeId) (hx : w.heap[vb]? = some (.cells cx Tx (0, 0))) (hvl : m * 4 ≤ cx.size) (hm : 0 < m) (h1x : ∀ (k : Nat) (v : Value), k < m * 4 → cx[k]? = some v → v.oneCell' = true) (hc : w.heap[b]? = some (.cells c Ty (0, 0))) (hnc : n ≤ cap) (hcs : cap * 4 ≤ c.size) (h1c : ∀ (k : Nat) (v : Value), k < n * 4 → c[k]? = some v → v.oneCell' = true) (hvb : vb ≠ b) (hroom : n + m ≤ cap) : Calls Tryz.prog 82 #[.slice (some ⟨b, 0, none⟩) n cap, .int .i64 (n : Nat), .slice (some ⟨vb, 0, none⟩) m vc] w (InsPost w (some b) 4 (n + m) (c.toList.take (n * 4) ++ cx.toList.take (m * 4))) := by
  obtain ⟨i0, hi0, hz0, hz1, hz2⟩ := info_parts (P := Tryz.prog) (e := 88) (z := (.agg #[.string "".toUTF8, .string "".toUTF8, .slice none 0 0, .slice none 0 0])) (size := 4) (bytes := 80) (by kernel_rfl)
  have ht : (Tryz.prog).underlying 29 = some (.slice 88) := by kernel_rfl
  have hti : (Tryz.prog).underlying 3 = some (.int .i64) := by kernel_rfl
  obtain ⟨xs, hxs, hxl, hxone, hxcell, hsrc⟩ := ins_pre (P := Tryz.prog) (vc := vc) ht hz1 hx hvl h1x
  have hns : n * 4 ≤ c.size := Nat.le_trans (Nat.mul_le_mul_right _ hnc) hcs
  obtain ⟨os, hos, hol, hoone, hocell⟩ := ins_old hc hns h1c
  have hm0 : ¬ ((m : Int) = 0) := by omega
  obtain ⟨c1, hc1⟩ : ∃ c1 : Array Value, c1 = (c.toList.take (n * 4) ++ xs ++ c.toList.drop (n * 4 + xs.length)).toArray := ⟨_, rfl⟩
  obtain ⟨W1, hW1⟩ : ∃ W1, W1 = w.setRow b c1 := ⟨_, rfl⟩
  have hfit : n * 4 + xs.length ≤ c.size := by rw [hxl, ← Nat.add_mul]; exact Nat.le_trans (Nat.mul_le_mul_right _ hroom) hcs
  have hrun : ∀ ty, (Builtin.append_ #[29, 29] ty #[.slice (some ⟨b, 0, none⟩) n cap, .slice (some ⟨vb, 0, none⟩) m vc]).run Tryz.prog w = .ok (.slice (some ⟨b, 0, none⟩) (n + m) cap) W1 := fun ty => by
    have := app_room (P := Tryz.prog) (tyr := ty) ht hi0 (hsrc w rfl) b n cap c Ty hc hxone hroom (by rw [hz1]; exact hfit)
    rw [hz1, ← hc1, ← hW1] at this
    exact this
  have hc1s : c1.size = c.size := by
    have : c.toList.length = c.size := by simp
    rw [hc1]; simp only [List.size_toArray, List.length_append, List.length_take, List.length_drop]; omega
  have hat : W1.heap[b]? = some (.cells c1 Ty (0, 0)) := by rw [hW1]; exact heap_setRow_same w b c1 c Ty _ hc
  have X : Aside (InsPost w (some b) 4 (n + m) (c.toList.take (n * 4) ++ cx.toList.take (m * 4)) (.returned (.slice (some ⟨b, 0, none⟩) (n + m) cap)) W1) := by
    refine ⟨b, cap, c1, Ty, rfl, hroom, hat, by rw [hc1s]; exact hcs, .inl rfl, fun k hk => ?_, by rw [hW1]; rfl, by rw [hW1]; rfl, by rw [hW1]; rfl, ?_⟩
    · rw [← hxs] at hk ⊢
      rw [hc1, ← Array.getElem?_toList, List.getElem?_append_left hk]
    · rw [hW1]
      have := Ext.setRow w b c1 c Ty _ hc hc1s
      exact ⟨this.size, fun k hk => this.same k ⟨hk.1, by simpa using hk.2⟩, this.shape⟩
  clear hc hx h1c h1x hoone hocell hxone hxcell hsrc hol hxl hos hxs hc1 hW1 hfit hc1s hat hcs hvl
  go_enter Tryz.func82, Tryz.ntmps82
  go_wp2_with (at_builtin; refine Lib.wpList_append_run _ rfl _ _ _ _ rfl _ _ rfl rfl _ _ (hrun _) ?_)
  go_ret
  exact X
set_option maxRecDepth 1000000 in
set_option maxHeartbeats 4000000 in
theorem ins4_end_grow (w : World) (b n cap vb m vc : Nat) (c cx : Array Value) (Ty Tx : TypeId) (hx : w.heap[vb]? = some (.cells cx Tx (0, 0))) (hvl : m * 4 ≤ cx.size) (hm : 0 < m) (h1x : ∀ (k : Nat) (v : Value), k < m * 4 → cx[k]? = some v → v.oneCell' = true) (hc : w.heap[b]? = some (.cells c Ty (0, 0))) (hnc : n ≤ cap) (hcs : cap * 4 ≤ c.size) (h1c : ∀ (k : Nat) (v : Value), k < n * 4 → c[k]? = some v → v.oneCell' = true) (hvb : vb ≠ b) (hroom : cap < n + m) (hbig : (n + m) * 80 ≤ 140737488355328) : Calls Tryz.prog 82 #[.slice (some ⟨b, 0, none⟩) n cap, .int .i64 (n : Nat), .slice (some ⟨vb, 0, none⟩) m vc] w (InsPost w (some b) 4 (n + m) (c.toList.take (n * 4) ++ cx.toList.take (m * 4))) := by
  obtain ⟨i0, hi0, hz0, hz1, hz2⟩ := info_parts (P := Tryz.prog) (e := 88) (z := (.agg #[.string "".toUTF8, .string "".toUTF8, .slice none 0 0, .slice none 0 0])) (size := 4) (bytes := 80) (by kernel_rfl)
  have ht : (Tryz.prog).underlying 29 = some (.slice 88) := by kernel_rfl
  have hti : (Tryz.prog).underlying 3 = some (.int .i64) := by kernel_rfl
  obtain ⟨xs, hxs, hxl, hxone, hxcell, hsrc⟩ := ins_pre (P := Tryz.prog) (vc := vc) ht hz1 hx hvl h1x
  have hns : n * 4 ≤ c.size := Nat.le_trans (Nat.mul_le_mul_right _ hnc) hcs
  obtain ⟨os, hos, hol, hoone, hocell⟩ := ins_old hc hns h1c
  have hm0 : ¬ ((m : Int) = 0) := by omega
  obtain ⟨G, hG⟩ : ∃ G, G = grownCap w (n + m) cap 88 := ⟨_, rfl⟩
  have hGe : n + m ≤ G := by rw [hG]; exact grownCap_ge w _ _ _
  obtain ⟨ROW, hROW⟩ : ∃ ROW : Array Value, ROW = os.toArray ++ xs.toArray ++ Builtin.zeroCells (Value.agg #[.string "".toUTF8, .string "".toUTF8, .slice none 0 0, .slice none 0 0]).cells (G - (n + m)) := ⟨_, rfl⟩
  obtain ⟨W1, hW1⟩ : ∃ W1, W1 = w.drew.alloc (.cells ROW 88) := ⟨_, rfl⟩
  have hrun : ∀ ty, (Builtin.append_ #[29, 29] ty #[.slice (some ⟨b, 0, none⟩) n cap, .slice (some ⟨vb, 0, none⟩) m vc]).run Tryz.prog w = .ok (.slice (some ⟨w.heap.size, 0, none⟩) (n + m) G) W1 := fun ty => by
    have := app_grow (P := Tryz.prog) (tyr := ty) ht hi0 hz0 (hsrc w rfl) ⟨b, 0, none⟩ n cap os (by rw [hz1]; exact hol) (fun j v hj => by rw [add_mk, Nat.zero_add]; exact hocell w rfl j v hj) hroom (by omega) (by rw [hz2]; exact hbig)
    rw [← hG, ← hROW, ← hW1] at this
    exact this
  have X : Aside (InsPost w (some b) 4 (n + m) (c.toList.take (n * 4) ++ cx.toList.take (m * 4)) (.returned (.slice (some ⟨w.heap.size, 0, none⟩) (n + m) G)) W1) := by
    refine ⟨w.heap.size, G, ROW, 88, rfl, hGe, by rw [hW1]; exact alloc_at w.drew _, ?_, .inr (Nat.le_refl _), fun k hk => ?_, by rw [hW1]; rfl, by rw [hW1]; rfl, by rw [hW1]; rfl, ?_⟩
    · rw [hROW]
      simp only [Array.size_append, List.size_toArray, hol, hxl]
      have : (Builtin.zeroCells (Value.agg #[.string "".toUTF8, .string "".toUTF8, .slice none 0 0, .slice none 0 0]).cells (G - (n + m))).size = (G - (n + m)) * 4 := by simp [Builtin.zeroCells, Value.cells]
      rw [this]; omega
    · rw [← hxs, ← hos] at hk ⊢
      rw [hROW, ← Array.getElem?_toList]
      simp only [Array.toList_append]
      rw [List.getElem?_append_left hk]
    · rw [hW1]
      have := Ext.drewAlloc w (.cells ROW 88) [b]
      exact ⟨this.size, fun k hk => this.same k ⟨hk.1, by simpa using hk.2⟩, this.shape⟩
  clear hG hROW hW1
  clear hc hx h1c h1x hoone hocell hxone hxcell hsrc hol hxl hos hxs hcs hvl
  go_enter Tryz.func82, Tryz.ntmps82
  go_wp2_with (at_builtin; refine Lib.wpList_append_run _ rfl _ _ _ _ rfl _ _ rfl rfl _ _ (hrun _) ?_)
  all_goals (go_ret; exact X)
set_option maxRecDepth 1000000 in
set_option maxHeartbeats 4000000 in
theorem ins4_nil (w : World) (vb m vc : Nat) (cx : Array Value) (Tx : TypeId) (hx : w.heap[vb]? = some (.cells cx Tx (0, 0))) (hvl : m * 4 ≤ cx.size) (hm : 0 < m) (h1x : ∀ (k : Nat) (v : Value), k < m * 4 → cx[k]? = some v → v.oneCell' = true) (hbig : m * 80 ≤ 140737488355328) : Calls Tryz.prog 82 #[.slice none 0 0, .int .i64 (0 : Nat), .slice (some ⟨vb, 0, none⟩) m vc] w (InsPost w none 4 m (cx.toList.take (m * 4))) := by
  obtain ⟨i0, hi0, hz0, hz1, hz2⟩ := info_parts (P := Tryz.prog) (e := 88) (z := (.agg #[.string "".toUTF8, .string "".toUTF8, .slice none 0 0, .slice none 0 0])) (size := 4) (bytes := 80) (by kernel_rfl)
  have ht : (Tryz.prog).underlying 29 = some (.slice 88) := by kernel_rfl
  have hti : (Tryz.prog).underlying 3 = some (.int .i64) := by kernel_rfl
  obtain ⟨xs, hxs, hxl, hxone, hxcell, hsrc⟩ := ins_pre (P := Tryz.prog) (vc := vc) ht hz1 hx hvl h1x
  have hm0 : ¬ ((m : Int) = 0) := by omega
  obtain ⟨G, hG⟩ : ∃ G, G = grownCap w m 0 88 := ⟨_, rfl⟩
  have hGe : m ≤ G := by rw [hG]; exact grownCap_ge w _ _ _
  obtain ⟨ROW, hROW⟩ : ∃ ROW : Array Value, ROW = xs.toArray ++ Builtin.zeroCells (Value.agg #[.string "".toUTF8, .string "".toUTF8, .slice none 0 0, .slice none 0 0]).cells (G - m) := ⟨_, rfl⟩
  obtain ⟨W1, hW1⟩ : ∃ W1, W1 = w.drew.alloc (.cells ROW 88) := ⟨_, rfl⟩
  have hrun : ∀ ty, (Builtin.append_ #[29, 29] ty #[.slice none 0 0, .slice (some ⟨vb, 0, none⟩) m vc]).run Tryz.prog w = .ok (.slice (some ⟨w.heap.size, 0, none⟩) m G) W1 := fun ty => by
    have := app_nil (P := Tryz.prog) (tyr := ty) ht hi0 hz0 (hsrc w rfl) hm (by omega) (by rw [hz2]; exact hbig)
    rw [← hG, ← hROW, ← hW1] at this
    exact this
  have X : Aside (InsPost w none 4 m (cx.toList.take (m * 4)) (.returned (.slice (some ⟨w.heap.size, 0, none⟩) m G)) W1) := by
    refine ⟨w.heap.size, G, ROW, 88, rfl, hGe, by rw [hW1]; exact alloc_at w.drew _, ?_, .inr (Nat.le_refl _), fun k hk => ?_, by rw [hW1]; rfl, by rw [hW1]; rfl, by rw [hW1]; rfl, ?_⟩
    · rw [hROW]
      simp only [Array.size_append, List.size_toArray, hxl]
      have : (Builtin.zeroCells (Value.agg #[.string "".toUTF8, .string "".toUTF8, .slice none 0 0, .slice none 0 0]).cells (G - m)).size = (G - m) * 4 := by simp [Builtin.zeroCells, Value.cells]
      rw [this]; omega
    · rw [← hxs] at hk ⊢
      rw [hROW, ← Array.getElem?_toList]
      simp only [Array.toList_append]
      rw [List.getElem?_append_left hk]
    · rw [hW1]
      have := Ext.drewAlloc w (.cells ROW 88) []
      exact ⟨this.size, fun k hk => this.same k ⟨hk.1, by simp⟩, this.shape⟩
  clear hG hROW hW1 hx h1x hxone hxcell hsrc hxl hxs hvl
  go_enter Tryz.func82, Tryz.ntmps82
  go_wp2_with (at_builtin; refine Lib.wpList_append_run _ rfl _ _ _ _ rfl _ _ rfl rfl _ _ (hrun _) ?_)
  go_ret
  exact X
set_option maxRecDepth 1000000 in
set_option maxHeartbeats 4000000 in
theorem ins4_grow (w : World) (b n cap i vb m vc : Nat) (c cx : Array Value) (Ty Tx : TypeId) (hx : w.heap[vb]? = some (.cells cx Tx (0, 0))) (hvl : m * 4 ≤ cx.size) (hm : 0 < m) (h1x : ∀ (k : Nat) (v : Value), k < m * 4 → cx[k]? = some v → v.oneCell' = true) (hc : w.heap[b]? = some (.cells c Ty (0, 0))) (hnc : n ≤ cap) (hcs : cap * 4 ≤ c.size) (h1c : ∀ (k : Nat) (v : Value), k < n * 4 → c[k]? = some v → v.oneCell' = true) (hvb : vb ≠ b) (hi : i < n) (hroom : cap < n + m) (hbig : (n + m) * 80 ≤ 140737488355328) : Calls Tryz.prog 82 #[.slice (some ⟨b, 0, none⟩) n cap, .int .i64 (i : Nat), .slice (some ⟨vb, 0, none⟩) m vc] w (InsPost w (some b) 4 (n + m) ((c.toList.take (n * 4)).take (i * 4) ++ (cx.toList.take (m * 4) ++ (c.toList.take (n * 4)).drop (i * 4)))) := by
  obtain ⟨i0, hi0, hz0, hz1, hz2⟩ := info_parts (P := Tryz.prog) (e := 88) (z := (.agg #[.string "".toUTF8, .string "".toUTF8, .slice none 0 0, .slice none 0 0])) (size := 4) (bytes := 80) (by kernel_rfl)
  have ht : (Tryz.prog).underlying 29 = some (.slice 88) := by kernel_rfl
  have hti : (Tryz.prog).underlying 3 = some (.int .i64) := by kernel_rfl
  obtain ⟨xs, hxs, hxl, hxone, hxcell, hsrc⟩ := ins_pre (P := Tryz.prog) (vc := vc) ht hz1 hx hvl h1x
  have hns : n * 4 ≤ c.size := Nat.le_trans (Nat.mul_le_mul_right _ hnc) hcs
  obtain ⟨os, hos, hol, hoone, hocell⟩ := ins_old hc hns h1c
  have hm0 : ¬ ((m : Int) = 0) := by omega
  have hin0 : ¬ ((i : Int) = (n : Int)) := by omega
  have hz3 : (cap : Int) < (n : Int) + (m : Int) := by omega
  have hbw : b < w.heap.size := heap_lt hc
  have hvw : vb < w.heap.size := heap_lt hx
  have hbN : b ≠ w.heap.size := by omega
  have hvN : vb ≠ w.heap.size := by omega
  have hkk : (n : Int) + (m : Int) - (i : Int) = ((n + m - i : Nat) : Int) := by omega
  have hik : i + (n + m - i) = n + m := by omega
  obtain ⟨G, hG⟩ : ∃ G, G = grownCap w (n + m) cap 88 := ⟨_, rfl⟩
  have hGe : n + m ≤ G := by rw [hG]; exact grownCap_ge w _ _ _
  have hG63 : G ≤ 9223372036854775807 := by
    have := grownCap_le_maxLen w (n + m) cap 88 (by unfold maxLen; omega)
    rw [← hG] at this
    unfold maxLen at this
    omega
  obtain ⟨ROW, hROW⟩ : ∃ ROW : Array Value, ROW = (os.take (i * 4)).toArray ++ Builtin.zeroCells (Value.agg #[.string "".toUTF8, .string "".toUTF8, .slice none 0 0, .slice none 0 0]).cells (n + m - i) ++ Builtin.zeroCells (Value.agg #[.string "".toUTF8, .string "".toUTF8, .slice none 0 0, .slice none 0 0]).cells (G - (n + m)) := ⟨_, rfl⟩
  have hRs : ROW.size = G * 4 := by
    have e1 : ∀ k, (Builtin.zeroCells (Value.agg #[.string "".toUTF8, .string "".toUTF8, .slice none 0 0, .slice none 0 0]).cells k).size = k * 4 := fun k => by simp [Builtin.zeroCells, Value.cells]
    rw [hROW]
    simp only [Array.size_append, List.size_toArray, List.length_take, hol, e1]
    omega
  obtain ⟨W1, hW1⟩ : ∃ W1, W1 = w.drew.alloc (.cells ROW 88) := ⟨_, rfl⟩
  have hrz : ∀ ty, (Builtin.append_ #[29, 3] ty #[.slice (some ⟨b, 0, none⟩) i cap, .int .i64 ((n : Int) + (m : Int) - (i : Int))]).run Tryz.prog w = .ok (.slice (some ⟨w.heap.size, 0, none⟩) (n + m) G) W1 := fun ty => by
    have hold : (Builtin.firstCells i0.size i (.slice (some ⟨b, 0, none⟩) i cap)).run Tryz.prog w.drew = .ok (os.take (i * 4)).toArray w.drew :=
      run_firstCells_some (P := Tryz.prog) w.drew i0.size i ⟨b, 0, none⟩ i cap (os.take (i * 4)) (by rw [List.length_take, hz1]; omega) fun j v hj => by
        rw [add_mk, Nat.zero_add]
        rw [List.getElem?_take] at hj
        split at hj
        · exact hocell w.drew rfl j v hj
        · cases hj
    have h := Lib.run_append_grow_zeros (P := Tryz.prog) w 29 3 ty 88 i0 _ .i64 .i64 ht hti hi0 hz0 (some ⟨b, 0, none⟩) i cap _ hold (n + m - i) (by omega) (by omega) (by omega) (by omega) (by rw [hz2]; omega) (by rw [hz2, hik]; exact growslice_fits hroom hbig)
    rw [hik, ← hG, ← hROW, ← hW1] at h
    rw [hkk]
    exact h
  have hat1 : W1.heap[w.heap.size]? = some (.cells ROW 88 (0, 0)) := by rw [hW1]; exact alloc_at w.drew _
  have hE1 := Ext.drewAlloc w (.cells ROW 88) []
  rw [← hW1] at hE1
  -- what is put in
  obtain ⟨c2, hc2⟩ : ∃ c2 : Array Value, c2 = (ROW.toList.take (i * 4) ++ xs ++ ROW.toList.drop (i * 4 + xs.length)).toArray := ⟨_, rfl⟩
  obtain ⟨W2, hW2⟩ : ∃ W2, W2 = W1.setRow w.heap.size c2 := ⟨_, rfl⟩
  have hRl : ROW.toList.length = G * 4 := by simpa using hRs
  have hc2s : c2.size = G * 4 := by rw [hc2]; simp only [List.size_toArray, List.length_append, List.length_take, List.length_drop, hxl, hRl]; omega
  have hat2 : W2.heap[w.heap.size]? = some (.cells c2 88 (0, 0)) := by rw [hW2]; exact heap_setRow_same W1 _ c2 ROW _ _ hat1
  have hcA : ∀ ty dc, (Builtin.copy_ #[29, 29] ty #[.slice (some ⟨w.heap.size, i * 4, none⟩) (n + m - i) dc, .slice (some ⟨vb, 0, none⟩) m vc]).run Tryz.prog W1 = .ok (goInt m) W2 := fun ty dc => by
    have hmin : Nat.min m (n + m - i) = m := by simp only [Nat.min_def]; split <;> omega
    have := run_copy_rows (P := Tryz.prog) W1 29 29 ty 88 i0 ht hi0 4 hz1 w.heap.size (i * 4) (n + m - i) dc ⟨vb, 0, none⟩ m vc xs (by rw [hmin]; exact hxl) (fun j v hj => hxcell W1 (hE1.same vb ⟨hvw, by simp⟩) j v hj) ROW 88 hat1 (by rw [hxl, hRs]; omega) hxone
    rw [hmin, ← hc2, ← hW2] at this
    exact this
  have hE2 := Ext.setRow W1 w.heap.size c2 ROW 88 _ hat1 (by rw [hc2s, hRs])
  rw [← hW2] at hE2
  -- what stood behind
  obtain ⟨ds, hds⟩ : ∃ ds, ds = os.drop (i * 4) := ⟨_, rfl⟩
  have hdl : ds.length = (n - i) * 4 := by rw [hds, List.length_drop, hol]; omega
  have hdone : ∀ v ∈ ds, v.oneCell' = true := fun v hv => hoone v (List.mem_of_mem_drop (by rw [← hds]; exact hv))
  obtain ⟨c3, hc3⟩ : ∃ c3 : Array Value, c3 = (c2.toList.take ((i + m) * 4) ++ ds ++ c2.toList.drop ((i + m) * 4 + ds.length)).toArray := ⟨_, rfl⟩
  obtain ⟨W3, hW3⟩ : ∃ W3, W3 = W2.drew.setRow w.heap.size c3 := ⟨_, rfl⟩
  have hc2l : c2.toList.length = G * 4 := by simpa using hc2s
  have hc3s : c3.size = G * 4 := by rw [hc3]; simp only [List.size_toArray, List.length_append, List.length_take, List.length_drop, hdl, hc2l]; omega
  have hcB : ∀ ty dc sc, (Builtin.copy_ #[29, 29] ty #[.slice (some ⟨w.heap.size, (i + m) * 4, none⟩) (n + m - (i + m)) dc, .slice (some ⟨b, i * 4, none⟩) (n - i) sc]).run Tryz.prog W2.drew = .ok (goInt (n - i : Nat)) W3 := fun ty dc sc => by
    have hmin : Nat.min (n - i) (n + m - (i + m)) = n - i := by simp only [Nat.min_def]; split <;> omega
    have := run_copy_rows (P := Tryz.prog) W2.drew 29 29 ty 88 i0 ht hi0 4 hz1 w.heap.size ((i + m) * 4) (n + m - (i + m)) dc ⟨b, i * 4, none⟩ (n - i) sc ds (by rw [hmin]; exact hdl) (fun j v hj => by
      rw [add_mk]
      rw [hds, List.getElem?_drop] at hj
      exact hocell W2.drew ((hE2.same b ⟨Nat.lt_of_lt_of_le hbw hE1.size, by simpa using hbN⟩).trans (hE1.same b ⟨hbw, by simp⟩)) (i * 4 + j) v hj) c2 88 hat2 (by rw [hdl, hc2s]; omega) hdone
    rw [hmin, ← hc3, ← hW3] at this
    exact this
  have X : Aside (InsPost w (some b) 4 (n + m) ((c.toList.take (n * 4)).take (i * 4) ++ (cx.toList.take (m * 4) ++ (c.toList.take (n * 4)).drop (i * 4))) (.returned (.slice (some ⟨w.heap.size, 0, none⟩) (n + m) G)) W3) := by
    have hE3 := Ext.setRow W2.drew w.heap.size c3 c2 88 _ hat2 (by rw [hc3s, hc2s])
    rw [← hW3] at hE3
    refine ⟨w.heap.size, G, c3, 88, rfl, hGe, by rw [hW3]; exact heap_setRow_same W2.drew _ c3 c2 _ _ hat2, by rw [hc3s]; exact Nat.le_refl _, .inr (Nat.le_refl _), fun k hk => ?_, by rw [hW3, hW2, hW1]; rfl, by rw [hW3, hW2, hW1]; rfl, by rw [hW3, hW2, hW1]; rfl, ?_⟩
    · rw [← hxs, ← hos, ← hds] at hk ⊢
      have htl : (os.take (i * 4)).length = i * 4 := by rw [List.length_take, hol]; omega
      have hROWt : ROW.toList.take (i * 4) = os.take (i * 4) := by
        rw [hROW]
        simp only [Array.toList_append, List.append_assoc]
        rw [List.take_append_of_le_length (by rw [htl]; exact Nat.le_refl _), List.take_of_length_le (by rw [htl]; exact Nat.le_refl _)]
      have hc2t : c2.toList.take ((i + m) * 4) = os.take (i * 4) ++ xs := by
        rw [hc2, hROWt]
        rw [List.take_append_of_le_length (by rw [List.length_append, htl, hxl]; omega), List.take_of_length_le (by rw [List.length_append, htl, hxl]; omega)]
      rw [hc3, ← Array.getElem?_toList, hc2t, ← List.append_assoc, List.getElem?_append_left (by rw [List.append_assoc]; exact hk)]
    · refine ⟨Nat.le_trans hE1.size (Nat.le_trans hE2.size hE3.size), fun k hk => ?_, fun q cc T z hq => ?_⟩
      · have hkN : k ∉ [w.heap.size] := by simp; omega
        exact (hE3.same k ⟨Nat.lt_of_lt_of_le hk.1 (Nat.le_trans hE1.size hE2.size), hkN⟩).trans ((hE2.same k ⟨Nat.lt_of_lt_of_le hk.1 hE1.size, hkN⟩).trans (hE1.same k ⟨hk.1, by simp⟩))
      · obtain ⟨d1, h1, h2⟩ := hE1.shape q cc T z hq
        obtain ⟨d2, h3, h4⟩ := hE2.shape q d1 T z h1
        obtain ⟨d3, h5, h6⟩ := hE3.shape q d2 T z h3
        exact ⟨d3, h5, h6.trans (h4.trans h2)⟩
  have hGi : ¬ (G = i) := by omega
  have hGim : ¬ (G = i + m) := by omega
  have hci : ¬ (cap = i) := by omega
  have hw1 : IntKind.i64.wrap ((i : Int) + (m : Int)) = (i : Int) + (m : Int) := by rw [IntKind.wrap_i64]; omega
  have hb1 : (0 : Int) ≤ (i : Int) + (m : Int) := by omega
  have hin : i ≤ n := by omega
  have htn : ((i : Int) + (m : Int)).toNat = i + m := by omega
  have hb3 : (i : Int) ≤ (n : Int) := by omega
  clear hG hROW hW1 hW2 hW3 hc2 hc3 hRs hRl hc2s hc2l hc3s hds hdl hdone hat1 hat2 hE1 hE2 hkk hik hns
  clear hc hx h1c h1x hoone hocell hxone hxcell hsrc hol hxl hos hxs hcs hvl
  go_enter Tryz.func82, Tryz.ntmps82
  go_wp2_with (first
    | (at_builtin; refine Lib.wpList_append_run _ rfl _ _ _ _ rfl _ _ rfl rfl _ _ (hrz _) ?_)
    | (at_builtin; refine wpList_copy_rows _ rfl _ _ 29 29 rfl _ _ rfl rfl (hcA _ _) ?_))
  go_region_law (refine step_copy_rows rfl _ _ 29 29 rfl (.slice (some ⟨w.heap.size, (i + m) * 4, none⟩) (n + m - (i + m)) (G - (i + m))) (.slice (some ⟨b, i * 4, none⟩) (n - i) (cap - i)) (by simp [Act.eval, Act.put]) (by simp [Act.eval, Act.put]) (hcB _ _ _) ?_)
  go_wp2
  go_ret
  exact X
set_option maxRecDepth 1000000 in
set_option maxHeartbeats 4000000 in
theorem ins4_shift (w : World) (b n cap i vb m vc : Nat) (c cx : Array Value) (Ty Tx : TypeId) (hx : w.heap[vb]? = some (.cells cx Tx (0, 0))) (hvl : m * 4 ≤ cx.size) (hm : 0 < m) (h1x : ∀ (k : Nat) (v : Value), k < m * 4 → cx[k]? = some v → v.oneCell' = true) (hc : w.heap[b]? = some (.cells c Ty (0, 0))) (hnc : n ≤ cap) (hcs : cap * 4 ≤ c.size) (h1c : ∀ (k : Nat) (v : Value), k < n * 4 → c[k]? = some v → v.oneCell' = true) (hvb : vb ≠ b) (hi : i < n) (hroom : n + m ≤ cap) (hbig : (n + m) * 80 ≤ 140737488355328) : Calls Tryz.prog 82 #[.slice (some ⟨b, 0, none⟩) n cap, .int .i64 (i : Nat), .slice (some ⟨vb, 0, none⟩) m vc] w (InsPost w (some b) 4 (n + m) ((c.toList.take (n * 4)).take (i * 4) ++ (cx.toList.take (m * 4) ++ (c.toList.take (n * 4)).drop (i * 4)))) := by
  obtain ⟨i0, hi0, hz0, hz1, hz2⟩ := info_parts (P := Tryz.prog) (e := 88) (z := (.agg #[.string "".toUTF8, .string "".toUTF8, .slice none 0 0, .slice none 0 0])) (size := 4) (bytes := 80) (by kernel_rfl)
  have ht : (Tryz.prog).underlying 29 = some (.slice 88) := by kernel_rfl
  have hti : (Tryz.prog).underlying 3 = some (.int .i64) := by kernel_rfl
  obtain ⟨xs, hxs, hxl, hxone, hxcell, hsrc⟩ := ins_pre (P := Tryz.prog) (vc := vc) ht hz1 hx hvl h1x
  have hns : n * 4 ≤ c.size := Nat.le_trans (Nat.mul_le_mul_right _ hnc) hcs
  obtain ⟨os, hos, hol, hoone, hocell⟩ := ins_old hc hns h1c
  have hm0 : ¬ ((m : Int) = 0) := by omega
  have hin0 : ¬ ((i : Int) = (n : Int)) := by omega
  have hz3 : ¬ ((cap : Int) < (n : Int) + (m : Int)) := by omega
  have hbw : b < w.heap.size := heap_lt hc
  have hvw : vb < w.heap.size := heap_lt hx
  have hcl : c.toList.length = c.size := by simp
  have hnmc : (n + m) * 4 ≤ c.size := Nat.le_trans (Nat.mul_le_mul_right _ hroom) hcs
  have hov : ∀ lb cb, (callFunc 139 #[.slice (some ⟨vb, 0, none⟩) m vc, .slice (some ⟨b, (i + m) * 4, none⟩) lb cb]).run Tryz.prog w = .ok (.value (.bool false)) w := fun lb cb => by
    rw [run_callFunc_extern (P := Tryz.prog) Tryz.func139 (by kernel_rfl) (by kernel_rfl) (by kernel_rfl) (e := Extern.SlicesOverlaps.overlaps #[29, 29] #[4]) (by kernel_rfl),
      Lib.run_overlaps_apart (P := Tryz.prog) w 29 4 88 ht 4 (fun w => by simp [sizeOf, typeInfo, hi0, hz1]) ⟨vb, 0, none⟩ ⟨b, (i + m) * 4, none⟩ m vc lb cb hvb Tx Ty cx.size c.size (by simp [World.shape?, hx]) (by simp [World.shape?, hc]) (by omega) (by simp [World.frozen?, hx]) (by simp [World.frozen?, hx])]
    rfl
  -- what stood behind
  obtain ⟨ds, hds⟩ : ∃ ds, ds = os.drop (i * 4) := ⟨_, rfl⟩
  have hdl : ds.length = (n - i) * 4 := by rw [hds, List.length_drop, hol]; omega
  have hdone : ∀ v ∈ ds, v.oneCell' = true := fun v hv => hoone v (List.mem_of_mem_drop (by rw [← hds]; exact hv))
  obtain ⟨c1, hc1⟩ : ∃ c1 : Array Value, c1 = (c.toList.take ((i + m) * 4) ++ ds ++ c.toList.drop ((i + m) * 4 + ds.length)).toArray := ⟨_, rfl⟩
  obtain ⟨W1, hW1⟩ : ∃ W1, W1 = w.drew.setRow b c1 := ⟨_, rfl⟩
  have hc1s : c1.size = c.size := by rw [hc1]; simp only [List.size_toArray, List.length_append, List.length_take, List.length_drop, hdl, hcl]; omega
  have hcA : ∀ ty dc sc, (Builtin.copy_ #[29, 29] ty #[.slice (some ⟨b, (i + m) * 4, none⟩) (n + m - (i + m)) dc, .slice (some ⟨b, i * 4, none⟩) (n + m - i) sc]).run Tryz.prog w.drew = .ok (goInt (n - i : Nat)) W1 := fun ty dc sc => by
    have hmin : Nat.min (n + m - i) (n + m - (i + m)) = n - i := by simp only [Nat.min_def]; split <;> omega
    have := run_copy_rows (P := Tryz.prog) w.drew 29 29 ty 88 i0 ht hi0 4 hz1 b ((i + m) * 4) (n + m - (i + m)) dc ⟨b, i * 4, none⟩ (n + m - i) sc ds (by rw [hmin]; exact hdl) (fun j v hj => by
      rw [add_mk]
      rw [hds, List.getElem?_drop] at hj
      exact hocell w.drew rfl (i * 4 + j) v hj) c Ty hc (by rw [hdl]; omega) hdone
    rw [hmin, ← hc1, ← hW1] at this
    exact this
  have hat1 : W1.heap[b]? = some (.cells c1 Ty (0, 0)) := by rw [hW1]; exact heap_setRow_same w.drew _ c1 c _ _ hc
  have hE1 := Ext.setRow w.drew b c1 c Ty _ hc hc1s
  rw [← hW1] at hE1
  obtain ⟨c2, hc2⟩ : ∃ c2 : Array Value, c2 = (c1.toList.take (i * 4) ++ xs ++ c1.toList.drop (i * 4 + xs.length)).toArray := ⟨_, rfl⟩
  obtain ⟨W2, hW2⟩ : ∃ W2, W2 = W1.setRow b c2 := ⟨_, rfl⟩
  have hc1l : c1.toList.length = c.size := by simpa using hc1s
  have hc2s : c2.size = c.size := by rw [hc2]; simp only [List.size_toArray, List.length_append, List.length_take, List.length_drop, hxl, hc1l]; omega
  have hcB : ∀ ty dc, (Builtin.copy_ #[29, 29] ty #[.slice (some ⟨b, i * 4, none⟩) (n + m - i) dc, .slice (some ⟨vb, 0, none⟩) m vc]).run Tryz.prog W1 = .ok (goInt m) W2 := fun ty dc => by
    have hmin : Nat.min m (n + m - i) = m := by simp only [Nat.min_def]; split <;> omega
    have := run_copy_rows (P := Tryz.prog) W1 29 29 ty 88 i0 ht hi0 4 hz1 b (i * 4) (n + m - i) dc ⟨vb, 0, none⟩ m vc xs (by rw [hmin]; exact hxl) (fun j v hj => hxcell W1 (hE1.same vb ⟨hvw, by simpa using hvb⟩) j v hj) c1 Ty hat1 (by rw [hxl, hc1s]; omega) hxone
    rw [hmin, ← hc2, ← hW2] at this
    exact this
  have X : Aside (InsPost w (some b) 4 (n + m) ((c.toList.take (n * 4)).take (i * 4) ++ (cx.toList.take (m * 4) ++ (c.toList.take (n * 4)).drop (i * 4))) (.returned (.slice (some ⟨b, 0, none⟩) (n + m) cap)) W2) := by
    have hE2 := Ext.setRow W1 b c2 c1 Ty _ hat1 (by rw [hc2s, hc1s])
    rw [← hW2] at hE2
    refine ⟨b, cap, c2, Ty, rfl, hroom, by rw [hW2]; exact heap_setRow_same W1 _ c2 c1 _ _ hat1, by rw [hc2s]; exact hcs, .inl rfl, fun k hk => ?_, by rw [hW2, hW1]; rfl, by rw [hW2, hW1]; rfl, by rw [hW2, hW1]; rfl, ?_⟩
    · rw [← hxs, ← hos, ← hds] at hk ⊢
      have ht1 : c1.toList.take (i * 4) = os.take (i * 4) := by
        rw [hc1, List.append_assoc]
        rw [List.take_append_of_le_length (by rw [List.length_take, hcl]; omega), List.take_take, hos, List.take_take]
        congr 1; omega
      have htl : (os.take (i * 4)).length = i * 4 := by rw [List.length_take, hol]; omega
      have hd1 : (c1.toList.drop (i * 4 + xs.length)).take ((n - i) * 4) = ds := by
        have e1 : (c.toList.take ((i + m) * 4)).length = i * 4 + xs.length := by rw [List.length_take, hcl, hxl]; omega
        rw [hc1, List.append_assoc, ← e1, List.drop_left, ← hdl, List.take_left]
      have hD : c1.toList.drop (i * 4 + xs.length) = ds ++ (c1.toList.drop (i * 4 + xs.length)).drop ((n - i) * 4) := by
        rw [← hd1, List.take_append_drop]
      rw [hc2, ← Array.getElem?_toList, ht1, hD, ← List.append_assoc, List.append_assoc (os.take (i * 4)), List.getElem?_append_left hk]
    · refine ⟨Nat.le_trans hE1.size hE2.size, fun k hk => ?_, fun q cc T z hq => ?_⟩
      · have hkN : k ∉ [b] := by simpa using hk.2
        exact (hE2.same k ⟨Nat.lt_of_lt_of_le hk.1 hE1.size, hkN⟩).trans (hE1.same k ⟨hk.1, hkN⟩)
      · obtain ⟨d1, h1, h2⟩ := hE1.shape q cc T z hq
        obtain ⟨d2, h3, h4⟩ := hE2.shape q d1 T z h1
        exact ⟨d2, h3, h4.trans h2⟩
  have hci : ¬ (cap = i) := by omega
  have hcim : ¬ (cap = i + m) := by omega
  have hw1 : IntKind.i64.wrap ((i : Int) + (m : Int)) = (i : Int) + (m : Int) := by rw [IntKind.wrap_i64]; omega
  have hb1 : (0 : Int) ≤ (i : Int) + (m : Int) := by omega
  have hin : i ≤ n := by omega
  have htn : ((i : Int) + (m : Int)).toNat = i + m := by omega
  have hb3 : (i : Int) ≤ (n : Int) + (m : Int) := by omega
  clear hW1 hW2 hc1 hc2 hc1s hc1l hc2s hds hdl hdone hat1 hE1 hcl hnmc hns
  clear hc hx h1c h1x hoone hocell hxone hxcell hsrc hol hxl hos hxs hcs hvl
  go_enter Tryz.func82, Tryz.ntmps82
  go_wp2_with (simp only [hov])
  go_region_law (refine step_copy_rows rfl _ _ 29 29 rfl _ _ (by simp [Act.eval, Act.put]) (by simp [Act.eval, Act.put]) (hcA _ _ _) ?_)
  go_wp2_with (at_builtin; refine wpList_copy_rows _ rfl _ _ 29 29 rfl _ _ rfl rfl (hcB _ _) ?_)
  go_ret
  exact X
theorem ins4 : InsW Tryz.prog 82 4 80 := by
  refine ⟨fun w b n cap i vb vc c cx Ty Tx hx hvl h1x hc hnc hcs h1c hvb hi hbig => ?_, fun w vb vc cx Tx hx hvl h1x => ins4_nil w vb 1 vc cx Tx hx hvl (by omega) h1x (by omega)⟩
  by_cases hr : n + 1 ≤ cap
  · by_cases hn : i = n
    · subst hn
      have := ins4_end_room w b i cap vb 1 vc c cx Ty Tx hx hvl (by omega) h1x hc hnc hcs h1c hvb hr
      rw [List.take_take, Nat.min_self, List.drop_eq_nil_of_le (by rw [List.length_take]; omega), List.append_nil]
      exact this
    · exact ins4_shift w b n cap i vb 1 vc c cx Ty Tx hx hvl (by omega) h1x hc hnc hcs h1c hvb (by omega) hr hbig
  · by_cases hn : i = n
    · subst hn
      have := ins4_end_grow w b i cap vb 1 vc c cx Ty Tx hx hvl (by omega) h1x hc hnc hcs h1c hvb (by omega) hbig
      rw [List.take_take, Nat.min_self, List.drop_eq_nil_of_le (by rw [List.length_take]; omega), List.append_nil]
      exact this
    · exact ins4_grow w b n cap i vb 1 vc c cx Ty Tx hx hvl (by omega) h1x hc hnc hcs h1c hvb (by omega) (by omega) hbig
end Go.Proofs.YtkdchlggdcmkbaaGreat
