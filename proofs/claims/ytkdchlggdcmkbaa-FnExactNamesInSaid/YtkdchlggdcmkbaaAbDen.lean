/-
  The logic's states: what a frame's slots stand for.
-/
import Derived.Test.YtkdchlggdcmkbaaAbBase
set_option linter.unusedSimpArgs false
set_option linter.unusedVariables false
namespace Go.Ab
open Go.RowKit (Below)

inductive Own where
  | none
  | key
  | slot (i : Nat)
  | obj (b : Nat)

def T : List (Nat × AV) → Nat → AV
  | [], _ => .dead
  | p :: l, i => bif p.1 == i then p.2 else T l i

def O : List (Nat × Option (List AV)) → Nat → Option (List AV)
  | [], _ => none
  | p :: l, b => if p.1 = b then p.2 else O l b

structure AS where
  n : Nat
  t : List (Nat × AV)
  o : List (Nat × Option (List AV))

/-- a plain value -/
def avz : Value → AV
  | .string s => bif Nat.ble s.data.toList.length 4611686018427387904 then .str s.data.toList else .dead
  | x => .v x

def ev (t : List (Nat × AV)) : Operand → AV
  | .tmp i => T t i
  | .const x => avz x
  | .global g => .v (.pointer (some ⟨g, 0, none⟩))
  | .func f => .v (.func (.func f) #[] #[])

def fpo (fp : Nat → List Nat) : Operand → List Nat
  | .tmp i => fp i
  | _ => []

def put (t : List (Nat × AV)) (d : Option Nat) (x : AV) : List (Nat × AV) :=
  match d with
  | some d => (d, x) :: t
  | none => t

def killL (t : List (Nat × AV)) : List Nat → List (Nat × AV)
  | [] => t
  | i :: C => (i, .dead) :: killL t C

def dstOK (n : Nat) : Option Nat → Bool
  | some d => Nat.blt d n
  | none => true

/-- the objects, and what is frozen -/
structure StoAt (L : Nat → Nat) (B : Nat → Prop) (F0 : Nat → Prop) (w0 : World) (F : Nat → Prop) (own : Nat → Own) (fs : Nat → List Nat) (o : List (Nat × Option (List AV))) (w : World) : Prop where
  below : Kp B w0 w
  hB : ∀ b, B b → b < w.heap.size
  f0 : ∀ b, F0 b → F b
  fl : ∀ b, F b → own b = .none ∧ b < w.heap.size ∧ (F0 b ∨ ¬ B b)
  ol : ∀ b, own b ≠ .none → ¬ B b ∧ b < w.heap.size
  obj : ∀ b cells, O o b = some cells → own b = .key ∧ (fs b).Nodup ∧ (∀ k, k ∈ fs b → own k = .obj b) ∧
    ∃ (c : Array Value) (Ty : TypeId) (vals rest : List Value), w.heap[b]? = some (.cells c Ty (0, 0)) ∧ c.toList = vals ++ rest ∧ RepL L F w cells vals (fs b)

structure DenAt (L : Nat → Nat) (B : Nat → Prop) (F0 : Nat → Prop) (w0 : World) (F : Nat → Prop) (own : Nat → Own) (fp fs : Nat → List Nat) (s : AS) (a : Act) (w : World) : Prop where
  below : Kp B w0 w
  hB : ∀ b, B b → b < w.heap.size
  f0 : ∀ b, F0 b → F b
  fl : ∀ b, F b → own b = .none ∧ b < w.heap.size ∧ (F0 b ∨ ¬ B b)
  ol : ∀ b, own b ≠ .none → ¬ B b ∧ b < w.heap.size
  defers : a.defers = []
  size : a.tmps.size = s.n
  slots : ∀ i, Rep L F w (T s.t i) (a.tmps.getD i undef) (fp i)
  sn : ∀ i, (fp i).Nodup
  so : ∀ i b, b ∈ fp i → own b = .slot i
  obj : ∀ b cells, O s.o b = some cells → own b = .key ∧ (fs b).Nodup ∧ (∀ k, k ∈ fs b → own k = .obj b) ∧
    ∃ (c : Array Value) (Ty : TypeId) (vals rest : List Value), w.heap[b]? = some (.cells c Ty (0, 0)) ∧ c.toList = vals ++ rest ∧ RepL L F w cells vals (fs b)

theorem DenAt.sto {L : Nat → Nat} {B F0 : Nat → Prop} {w0 : World} {F : Nat → Prop} {own : Nat → Own} {fp fs : Nat → List Nat} {s : AS} {a : Act} {w : World} (h : DenAt L B F0 w0 F own fp fs s a w) : StoAt L B F0 w0 F own fs s.o w :=
  ⟨h.below, h.hB, h.f0, h.fl, h.ol, h.obj⟩

def Den (L : Nat → Nat) (B : Nat → Prop) (F0 : Nat → Prop) (w0 : World) (s : AS) (a : Act) (w : World) : Prop :=
  ∃ F own fp fs, DenAt L B F0 w0 F own fp fs s a w

theorem Ext.of_below {w w' : World} (h : Below w.heap.size w w') : Ext (fun b => b < w.heap.size) w w' := by
  refine ⟨h.size, fun b hb => h.block b hb, fun b c T z hc => ⟨c, ?_, rfl⟩⟩
  have hb : b < w.heap.size := by
    rcases Nat.lt_or_ge b w.heap.size with h | h
    · exact h
    · rw [Array.getElem?_eq_none h] at hc; cases hc
  rw [h.block b hb]; exact hc

theorem rep_avz {L : Nat → Nat} {F : Nat → Prop} {w : World} (x : Value) : Rep L F w (avz x) x [] := by
  cases x with
  | string s =>
    simp only [avz]
    cases h : Nat.ble s.data.toList.length 4611686018427387904 with
    | true => simp only [cond_true, Rep]; exact ⟨by cases s; simp, Nat.le_of_ble_eq_true h, by trivial⟩
    | false => simp [Rep]
  | _ => simp [avz, Rep]

theorem DenAt.ev {L : Nat → Nat} {B : Nat → Prop} {F0 : Nat → Prop} {w0 : World} {F : Nat → Prop} {own : Nat → Own} {fp fs : Nat → List Nat} {s : AS} {a : Act} {w : World}
    (h : DenAt L B F0 w0 F own fp fs s a w) (x : Operand) : Rep L F w (ev s.t x) (a.eval x) (fpo fp x) := by
  cases x with
  | tmp i => exact h.slots i
  | const v => exact rep_avz v
  | global g => simp [Ab.ev, Rep, Act.eval, fpo]
  | func f => simp [Ab.ev, Rep, Act.eval, fpo]

theorem T_put (t : List (Nat × AV)) (d : Option Nat) (x : AV) (i : Nat) : T (put t d x) i = if d = some i then x else T t i := by
  cases d with
  | none => simp [put]
  | some d =>
    by_cases h : d = i
    · simp [put, T, h]
    · have : (d == i) = false := by simpa using h
      simp [put, T, h, this]

theorem T_kill (t : List (Nat × AV)) (C : List Nat) (i : Nat) : T (killL t C) i = if i ∈ C then .dead else T t i := by
  induction C with
  | nil => simp [killL]
  | cons j C ih =>
    by_cases h : j = i
    · simp [killL, T, h]
    · have : (j == i) = false := by simpa using h
      have h' : ¬ i = j := fun e => h e.symm
      simp [killL, T, this, ih, h']

theorem getD_put (a : Act) (d : Option Nat) (v : Value) (i : Nat) (hd : dstOK a.tmps.size d = true) :
    (a.put d v).tmps.getD i undef = if d = some i then v else a.tmps.getD i undef := by
  cases d with
  | none => simp [Act.put]
  | some d =>
    have hd' : d < a.tmps.size := by simpa [dstOK] using hd
    simp only [Act.put, Array.getD_eq_getD_getElem?, Array.getElem?_setIfInBounds]
    by_cases h : d = i
    · subst h; simp [hd']
    · simp [h]

section
variable {L : Nat → Nat} {B : Nat → Prop} {F0 : Nat → Prop} {w0 : World} {F : Nat → Prop} {own : Nat → Own} {fp fs : Nat → List Nat} {s : AS} {a : Act} {w : World}

theorem DenAt.fp_lt (h : DenAt L B F0 w0 F own fp fs s a w) {i b : Nat} (hb : b ∈ fp i) : ¬ B b ∧ b < w.heap.size :=
  h.ol b (by rw [h.so i b hb]; simp)

/-- an operation that changes nothing that was there, gives a value and takes over what the slots C own -/
theorem DenAt.put (h : DenAt L B F0 w0 F own fp fs s a w) {w' : World} {F' : Nat → Prop} {x : AV} {v : Value} {fx : List Nat} (C : List Nat) (d : Option Nat)
    (hd : dstOK s.n d = true) (hb : Below w.heap.size w w') (hF : ∀ b, F b → F' b) (hF' : ∀ b, F' b → F b ∨ (w.heap.size ≤ b ∧ b < w'.heap.size) ∨ ∃ i, i ∈ C ∧ b ∈ fp i)
    (hx : Rep L F' w' x v fx) (hn : fx.Nodup) (hfx : ∀ b, b ∈ fx → ¬ F' b ∧ ((∃ i, i ∈ C ∧ b ∈ fp i) ∨ (w.heap.size ≤ b ∧ b < w'.heap.size))) :
    Den L B F0 w0 ⟨s.n, Ab.put (killL s.t C) d x, s.o⟩ (a.put d v) w' := by
  have hext := Ext.of_below hb
  have hsz := hb.size
  have hB := h.hB
  have hFS : ∀ b, F b → F' b ∧ b < w.heap.size := fun b hb' => ⟨hF b hb', (h.fl b hb').2.1⟩
  classical
  let own' : Nat → Own := fun b => if b ∈ fx then (match d with | some d => .slot d | none => .none) else if (∃ i, i ∈ C ∧ b ∈ fp i) then .none else own b
  have hother : ∀ b, own b ≠ .none → (∀ i, i ∈ C → own b ≠ .slot i) → b ∉ fx ∧ ¬ ∃ i, i ∈ C ∧ b ∈ fp i := by
    intro b h1 h2
    have h3 : ¬ ∃ i, i ∈ C ∧ b ∈ fp i := fun ⟨i, hi, hbi⟩ => h2 i hi (h.so i b hbi)
    refine ⟨fun hbx => ?_, h3⟩
    rcases (hfx b hbx).2 with e | ⟨h4, _⟩
    · exact h3 e
    · have := (h.ol b h1).2; omega
  refine ⟨F', own', fun i => if d = some i then fx else if i ∈ C then [] else fp i, fs, ?_⟩
  refine { below := ?_, hB := fun b hb' => Nat.lt_of_lt_of_le (hB b hb') hsz, f0 := fun b hb' => hF b (h.f0 b hb'), fl := ?_, ol := ?_, defers := ?_, size := ?_, slots := ?_, sn := ?_, so := ?_, obj := ?_ }
  · exact h.below.trans (Kp.of_ext hb hext hB)
  · intro b hb'
    have hnx : b ∉ fx := fun hbx => (hfx b hbx).1 hb'
    rcases hF' b hb' with h4 | h4 | ⟨i, hi, hbi⟩
    · refine ⟨?_, by have := (h.fl b h4).2.1; omega, (h.fl b h4).2.2⟩
      have : ¬ ∃ i, i ∈ C ∧ b ∈ fp i := fun ⟨i, hi, hbi⟩ => by have e1 := (h.fl b h4).1; rw [h.so i b hbi] at e1; cases e1
      simp only [own', if_neg hnx, if_neg this]; exact (h.fl b h4).1
    · refine ⟨?_, h4.2, .inr fun e => by have := hB b e; omega⟩
      have : ¬ ∃ i, i ∈ C ∧ b ∈ fp i := fun ⟨i, hi, hbi⟩ => by have := (h.fp_lt hbi).2; omega
      simp only [own', if_neg hnx, if_neg this]
      rcases Classical.em (own b = .none) with e | e
      · exact e
      · have := (h.ol b e).2; omega
    · have := h.fp_lt hbi
      exact ⟨by simp only [own', if_neg hnx]; rw [if_pos ⟨i, hi, hbi⟩], by omega, .inr this.1⟩
  · intro b hb'
    simp only [own'] at hb'
    by_cases hbx : b ∈ fx
    · rcases (hfx b hbx).2 with ⟨i, hi, hbi⟩ | ⟨h3, h4⟩
      · have := h.fp_lt hbi; exact ⟨this.1, by omega⟩
      · exact ⟨fun e => by have := hB b e; omega, h4⟩
    · rw [if_neg hbx] at hb'
      by_cases e : ∃ i, i ∈ C ∧ b ∈ fp i
      · rw [if_pos e] at hb'; exact absurd rfl hb'
      · rw [if_neg e] at hb'
        have := h.ol b hb'; exact ⟨this.1, by omega⟩
  · cases d <;> simpa [Act.put] using h.defers
  · cases d <;> simpa [Act.put] using h.size
  · intro i
    simp only [T_put, T_kill]
    rw [getD_put a d v i (by rw [h.size]; exact hd)]
    by_cases e : d = some i
    · simp only [e, if_true]; exact hx
    · simp only [if_neg e]
      by_cases hi : i ∈ C
      · simp only [if_pos hi]; simp [Rep]
      · simp only [if_neg hi]
        exact Rep.ext hext hFS (fun b hb' => (h.fp_lt hb').2) (h.slots i)
  · intro i
    split
    · exact hn
    · split
      · simp
      · exact h.sn i
  · intro i b hb'
    by_cases e : d = some i
    · subst e; simp only [if_true] at hb'
      simp only [own', if_pos hb']
    · rw [if_neg e] at hb'
      by_cases hi : i ∈ C
      · rw [if_pos hi] at hb'; simp at hb'
      · rw [if_neg hi] at hb'
        have ho := h.so i b hb'
        have := hother b (by rw [ho]; simp) (fun j hj e => by rw [ho] at e; cases e; exact hi hj)
        simp only [own', if_neg this.1, if_neg this.2]; exact ho
  · intro b cells hO
    obtain ⟨h1, h2, h3, c, Ty, vals, rest, h4, h5, h6⟩ := h.obj b cells hO
    have hlt := (h.ol b (by rw [h1]; simp)).2
    refine ⟨?_, h2, ?_, c, Ty, vals, rest, ?_, h5, ?_⟩
    · have := hother b (by rw [h1]; simp) (fun j _ e => by rw [h1] at e; cases e)
      simp only [own', if_neg this.1, if_neg this.2]; exact h1
    · intro k hk
      have ho := h3 k hk
      have := hother k (by rw [ho]; simp) (fun j _ e => by rw [ho] at e; cases e)
      simp only [own', if_neg this.1, if_neg this.2]; exact ho
    · rw [hb.block b hlt]; exact h4
    · refine RepL.ext hext hFS (fun k hk => ?_) h6
      exact (h.ol k (by rw [h3 k hk]; simp)).2

theorem DenAt.fp_F (h : DenAt L B F0 w0 F own fp fs s a w) {i b : Nat} (hb : b ∈ fp i) : ¬ F b := fun hf => by
  have e1 := (h.fl b hf).1; rw [h.so i b hb] at e1; cases e1
end
end Go.Ab
