/-
  The logic's steps: memory.
-/
import Derived.Test.YtkdchlggdcmkbaaAbOps2
import Derived.Laws.AppendOwn
import Derived.Laws.MakeOwn
import Derived.Laws.Append
import Derived.Laws.IdiomStrings
set_option linter.unusedSimpArgs false
set_option linter.unusedVariables false
namespace Go.Ab
open Go.RowKit (Below)

def dropO (o : List (Nat × Option (List AV))) : List Nat → List (Nat × Option (List AV))
  | [] => o
  | b :: D => (b, none) :: dropO o D

theorem O_drop (o : List (Nat × Option (List AV))) (D : List Nat) (b : Nat) : O (dropO o D) b = if b ∈ D then none else O o b := by
  induction D with
  | nil => simp [dropO]
  | cons d D ih =>
    by_cases h : d = b
    · simp [dropO, O, h]
    · have h' : ¬ b = d := fun e => h e.symm
      simp [dropO, O, h, h', ih]

section
variable {L : Nat → Nat} {B : Nat → Prop} {F0 : Nat → Prop} {w0 : World} {F : Nat → Prop} {own : Nat → Own} {fp fs : Nat → List Nat} {s : AS} {a : Act} {w : World}

theorem DenAt.own_none (h : DenAt L B F0 w0 F own fp fs s a w) {b : Nat} (hb : w.heap.size ≤ b) : own b = .none := by
  rcases Classical.em (own b = .none) with e | e
  · exact e
  · have := (h.ol b e).2; omega

/-- an operation that makes or changes one object -/
theorem DenAt.renew (h : DenAt L B F0 w0 F own fp fs s a w) {w' : World} {x : AV} {v : Value} (C D : List Nat) (bn : Nat) (cells' : List AV) (fn : List Nat) (d : Option Nat)
    (hd : dstOK s.n d = true) (hst : w'.os = w.os ∧ w'.tape = w.tape ∧ w'.output = w.output) (hext : Ext (fun b => b < w.heap.size ∧ b ∉ D) w w') (hD : ∀ b, b ∈ D → own b = .key)
    (hbn : bn ∈ D ∨ (w.heap.size ≤ bn ∧ bn < w'.heap.size))
    (hblk : ∃ (c : Array Value) (Ty : TypeId) (vals rest : List Value), w'.heap[bn]? = some (.cells c Ty (0, 0)) ∧ c.toList = vals ++ rest ∧ RepL L F w' cells' vals fn)
    (hfn : fn.Nodup) (hfn' : ∀ k, k ∈ fn → (∃ i, i ∈ C ∧ k ∈ fp i) ∨ (∃ b, b ∈ D ∧ own k = .obj b)) (hx : Rep L F w' x v []) :
    Den L B F0 w0 ⟨s.n, Ab.put (killL s.t C) d x, (bn, some cells') :: dropO s.o D⟩ (a.put d v) w' := by
  have hsz := hext.size
  have hB := h.hB
  classical
  have hbn0 : own bn = .key ∨ own bn = .none := by
    rcases hbn with e | e
    · exact .inl (hD _ e)
    · exact .inr (h.own_none e.1)
  have hbnB : ¬ B bn ∧ bn < w'.heap.size := by
    rcases hbn with e | e
    · have := h.ol bn (by rw [hD _ e]; simp); exact ⟨this.1, by omega⟩
    · exact ⟨fun hb => by have := hB bn hb; omega, e.2⟩
  have hfnown : ∀ k, k ∈ fn → (∃ i, i ∈ C ∧ own k = .slot i) ∨ ∃ b, b ∈ D ∧ own k = .obj b := fun k hk => by
    rcases hfn' k hk with ⟨i, hi, hk'⟩ | e
    · exact .inl ⟨i, hi, h.so i k hk'⟩
    · exact .inr e
  have hfnlt : ∀ k, k ∈ fn → ¬ B k ∧ k < w.heap.size ∧ k ≠ bn := fun k hk => by
    have e : own k ≠ .none ∧ own k ≠ .key := by
      rcases hfnown k hk with ⟨i, _, e⟩ | ⟨b, _, e⟩ <;> rw [e] <;> simp
    have := h.ol k e.1
    refine ⟨this.1, this.2, fun e' => ?_⟩
    subst e'
    rcases hbn0 with e' | e'
    · exact e.2 e'
    · exact e.1 e'
  have hFS : ∀ b, F b → F b ∧ (b < w.heap.size ∧ b ∉ D) := fun b hb' => ⟨hb', (h.fl b hb').2.1, fun hd' => by
    have e1 := (h.fl b hb').1; rw [hD b hd'] at e1; cases e1⟩
  let own' : Nat → Own := fun k => if k = bn then .key else if k ∈ fn then .obj bn else if k ∈ D then .none else own k
  refine ⟨F, own', fun i => if d = some i then [] else if i ∈ C then [] else fp i, fun b => if b = bn then fn else fs b, ?_⟩
  refine { below := h.below.trans ⟨hst.1, hst.2.1, hst.2.2, hsz, fun k hk => hext.same k ⟨hB k hk, fun hd => (h.ol k (by rw [hD k hd]; simp)).1 hk⟩, hext.shape⟩, hB := fun b hb => Nat.lt_of_lt_of_le (hB b hb) hsz, f0 := h.f0, fl := ?_, ol := ?_, defers := ?_, size := ?_, slots := ?_, sn := ?_, so := ?_, obj := ?_ }
  · intro b hb
    have h1 := h.fl b hb
    have n1 : b ≠ bn := by
      rintro rfl
      rcases hbn with e | e
      · exact (hFS b hb).2.2 e
      · omega
    have n2 : b ∉ fn := fun hk => by
      rcases hfnown b hk with ⟨i, _, e⟩ | ⟨b', _, e⟩ <;> rw [h1.1] at e <;> cases e
    refine ⟨?_, by omega, h1.2.2⟩
    simp only [own', if_neg n1, if_neg n2, if_neg (hFS b hb).2.2]; exact h1.1
  · intro b hb
    simp only [own'] at hb
    by_cases e1 : b = bn
    · subst e1; exact hbnB
    · rw [if_neg e1] at hb
      by_cases e2 : b ∈ fn
      · have := hfnlt b e2; exact ⟨this.1, by omega⟩
      · rw [if_neg e2] at hb
        by_cases e3 : b ∈ D
        · rw [if_pos e3] at hb; exact absurd rfl hb
        · rw [if_neg e3] at hb; have := h.ol b hb; exact ⟨this.1, by omega⟩
  · cases d <;> simpa [Act.put] using h.defers
  · cases d <;> simpa [Act.put] using h.size
  · intro i
    simp only [T_put, T_kill]
    rw [getD_put a d v i (by rw [h.size]; exact hd)]
    by_cases e : d = some i
    · simp only [e, if_true]; exact hx
    · simp only [if_neg e]
      by_cases hi : i ∈ C
      · simp only [if_pos hi]; simp [Rep]
      · simp only [if_neg hi]
        refine Rep.ext hext hFS (fun b hb' => ⟨(h.fp_lt hb').2, fun hd' => ?_⟩) (h.slots i)
        have e1 := h.so i b hb'; rw [hD b hd'] at e1; cases e1
  · intro i
    split
    · simp
    · split
      · simp
      · exact h.sn i
  · intro i b hb'
    by_cases e : d = some i
    · rw [if_pos e] at hb'; simp at hb'
    · rw [if_neg e] at hb'
      by_cases hi : i ∈ C
      · rw [if_pos hi] at hb'; simp at hb'
      · rw [if_neg hi] at hb'
        have ho := h.so i b hb'
        have n1 : b ≠ bn := by rintro rfl; rcases hbn0 with e' | e' <;> rw [ho] at e' <;> cases e'
        have n2 : b ∉ fn := fun hk => by
          rcases hfnown b hk with ⟨j, hj, e'⟩ | ⟨b', _, e'⟩ <;> rw [ho] at e' <;> cases e'
          exact hi hj
        have n3 : b ∉ D := fun hd' => by have e1 := hD b hd'; rw [ho] at e1; cases e1
        simp only [own', if_neg n1, if_neg n2, if_neg n3]; exact ho
  · intro b cells hO
    simp only [O] at hO
    by_cases e : bn = b
    · subst e
      rw [if_pos rfl] at hO
      cases hO
      obtain ⟨c, Ty, vals, rest, h1, h2, h3⟩ := hblk
      refine ⟨by simp [own'], by simpa using hfn, ?_, c, Ty, vals, rest, h1, h2, by simpa using h3⟩
      intro k hk
      simp only [if_true] at hk
      simp only [own', if_neg (hfnlt k hk).2.2, if_pos hk]
    · rw [if_neg e, O_drop] at hO
      by_cases hdb : b ∈ D
      · rw [if_pos hdb] at hO; cases hO
      · rw [if_neg hdb] at hO
        have e' : ¬ b = bn := fun h => e h.symm
        obtain ⟨h1, h2, h3, c, Ty, vals, rest, h4, h5, h6⟩ := h.obj b cells hO
        have hlt := (h.ol b (by rw [h1]; simp)).2
        have n2 : b ∉ fn := fun hk => by
          rcases hfnown b hk with ⟨j, hj, e'⟩ | ⟨b', _, e'⟩ <;> rw [h1] at e' <;> cases e'
        refine ⟨by simp only [own', if_neg e', if_neg n2, if_neg hdb]; exact h1, by simpa [e'] using h2, ?_, c, Ty, vals, rest, ?_, h5, ?_⟩
        · intro k hk
          simp only [if_neg e'] at hk
          have ho := h3 k hk
          have n1 : k ≠ bn := by rintro rfl; rcases hbn0 with e' | e' <;> rw [ho] at e' <;> cases e'
          have n2 : k ∉ fn := fun hk => by
            rcases hfnown k hk with ⟨j, hj, e'⟩ | ⟨b', hb', e'⟩ <;> rw [ho] at e' <;> cases e'
            exact hdb hb'
          have n3 : k ∉ D := fun hd' => by have e1 := hD k hd'; rw [ho] at e1; cases e1
          simp only [own', if_neg n1, if_neg n2, if_neg n3]; exact ho
        · rw [hext.same b ⟨hlt, hdb⟩]; exact h4
        · simp only [if_neg e']
          refine RepL.ext hext hFS (fun k hk => ⟨?_, fun hd' => ?_⟩) h6
          · exact (h.ol k (by rw [h3 k hk]; simp)).2
          · have e1 := hD k hd'; rw [h3 k hk] at e1; cases e1
end

theorem Ext.alloc (w : World) (o : Obj) (D : List Nat) : Ext (fun b => b < w.heap.size ∧ b ∉ D) w (w.alloc o) := by
  refine ⟨by show _ ≤ (w.heap.push o).size; simp, fun b hb => Below.heap_alloc w o b hb.1, fun b c T z hc => ⟨c, ?_, rfl⟩⟩
  have hb : b < w.heap.size := by
    rcases Nat.lt_or_ge b w.heap.size with h | h
    · exact h
    · rw [Array.getElem?_eq_none h] at hc; cases hc
  rw [Below.heap_alloc w o b hb]; exact hc

theorem Ext.alloc' (w : World) (o : Obj) : Ext (fun b => b < w.heap.size) w (w.alloc o) := by
  obtain ⟨h1, h2, h3⟩ := Ext.alloc w o []
  exact ⟨h1, fun b hb => h2 b ⟨hb, by simp⟩, h3⟩

theorem alloc_at (w : World) (o : Obj) : (w.alloc o).heap[w.heap.size]? = some o := by show (w.heap.push o)[w.heap.size]? = _; simp

/-- the cells of a type's zero value -/
def zer (P : Program) (t : TypeId) : Option (List Value) :=
  match P.info? t with
  | some i => match i.zero with
    | some z => some z.cells.toList
    | none => none
  | none => none

theorem zer_run {P : Program} {t : TypeId} {zs : List Value} (h : zer P t = some zs) : ∃ z : Value, z.cells.toList = zs ∧ ∀ w, (zeroValue t).run P w = .ok z w := by
  unfold zer at h
  split at h
  · rename_i i hi
    split at h
    · rename_i z hz
      simp at h
      exact ⟨z, h, fun w => by simp [zeroValue, typeInfo, hi, hz]⟩
    · cases h
  · cases h

theorem RepL.plain {L : Nat → Nat} {F : Nat → Prop} {w : World} : ∀ vs : List Value, RepL L F w (vs.map avz) vs []
  | [] => by simp [RepL]
  | y :: vs => by simp only [List.map_cons, RepL]; exact ⟨y, vs, [], [], rfl, rfl, rep_avz y, RepL.plain vs⟩

section ops
variable {L : Nat → Nat} {P : Program} {s : AS} {o : Oper}

theorem opw_alloc {t : TypeId} {zs : List Value} (ho : o.op = .alloc t) (hd : dstOK s.n o.dst = true) (hz : zer P t = some zs) {K : AS → Prop}
    (hK : ∀ b, K ⟨s.n, put s.t o.dst (.ptr b 0), (b, some (zs.map avz)) :: s.o⟩) : OpW L P o s K := by
  intro B F0 w0 a w next Q hden hnext
  obtain ⟨F, own, fp, fs, h⟩ := hden
  obtain ⟨z, hzc, hzr⟩ := zer_run hz
  have hrun : (execOp a.eval o).run P w = .ok (.value (.pointer (some ⟨w.heap.size, 0, none⟩))) (w.alloc (.cells z.cells t)) := by
    simp [execOp, ho, Instr.alloc, hzr, newVar, newRow]
  unfold Oper.wp
  rw [hrun]
  refine hnext _ _ _ (hK w.heap.size) ?_
  exact h.renew [] [] w.heap.size (zs.map avz) [] o.dst hd ⟨rfl, rfl, rfl⟩ (Ext.alloc w _ []) (by simp) (.inr ⟨Nat.le_refl _, by simp⟩)
    ⟨z.cells, t, zs, [], alloc_at w _, by simp [hzc], RepL.plain zs⟩ (by simp) (by simp) (by simp [Rep])

/-- a value's cells, of whatever value -/
theorem cells_of {F : Nat → Prop} {w : World} {sz : Nat} {x : AV} {y : Value} {f : List Nat} (h : x.elem sz = true) (r : Rep L F w x y f) : RepL L F w x.cells y.cells.toList f := (cells_rep h r).1

/-- a variable that may be written -/
theorem opw_box {t : TypeId} {x : Operand} {sz : Nat} (ho : o.op = .box t x) (hd : dstOK s.n o.dst = true) (hx : (ev s.t x).elem sz = true) {K : AS → Prop}
    (hK : ∀ b, K ⟨s.n, put (killL s.t (kills s.t [x])) o.dst (.ptr b 0), (b, some (ev s.t x).cells) :: s.o⟩) : OpW L P o s K := by
  intro B F0 w0 a w next Q hden hnext
  obtain ⟨F, own, fp, fs, h⟩ := hden
  have hr := h.ev x
  have hrun : (execOp a.eval o).run P w = .ok (.value (.pointer (some ⟨w.heap.size, 0, none⟩))) (w.alloc (.cells (a.eval x).cells t)) := by
    simp [execOp, ho, Instr.box, newVar, newRow]
  unfold Oper.wp
  rw [hrun]
  refine hnext _ _ _ (hK w.heap.size) ?_
  have hFS : ∀ b, F b → F b ∧ (b < w.heap.size) := fun b hb' => ⟨hb', (h.fl b hb').2.1⟩
  refine h.renew (kills s.t [x]) [] w.heap.size (ev s.t x).cells (fpo fp x) o.dst hd ⟨rfl, rfl, rfl⟩ (Ext.alloc w _ []) (by simp) (.inr ⟨Nat.le_refl _, by simp⟩)
    ⟨(a.eval x).cells, t, (a.eval x).cells.toList, [], alloc_at w _, by simp, ?_⟩ (fpo_nodup h x) (fun k hk => .inl (fpo_kills h (by simp) k hk)) (by simp [Rep])
  refine RepL.ext (Ext.alloc' w _) hFS (fun k hk => ?_) (cells_of hx hr)
  obtain ⟨i, _, hi⟩ := fpo_kills h (xs := [x]) (by simp) k hk
  exact (h.fp_lt hi).2

/-- a variable that is only read -/
theorem lop_box {t : TypeId} {x : Operand} {sz : Nat} (ho : o.op = .box t x) (hx : (ev s.t x).elem sz = true) : LOp L P s o (.vp (AV.frzL (ev s.t x).cells)) (kills s.t [x]) := by
  intro B F0 w0 F own fp fs a w next Q h hnext
  have hr := h.ev x
  have hrun : (execOp a.eval o).run P w = .ok (.value (.pointer (some ⟨w.heap.size, 0, none⟩))) (w.alloc (.cells (a.eval x).cells t)) := by
    simp [execOp, ho, Instr.box, newVar, newRow]
  unfold Oper.wp
  rw [hrun]
  have hlt : ∀ k, k ∈ fpo fp x → k < w.heap.size := fun k hk => by
    obtain ⟨i, _, hi⟩ := fpo_kills h (xs := [x]) (by simp) k hk
    exact (h.fp_lt hi).2
  have hFS : ∀ b, F b → F b ∧ (b < w.heap.size) := fun b hb' => ⟨hb', (h.fl b hb').2.1⟩
  refine hnext _ _ ⟨(Below.refl _ _).alloc (Nat.le_refl _) _, fun b => F b ∨ b = w.heap.size ∨ b ∈ fpo fp x, [], fun _ h => .inl h, ?_, ?_, by simp, by simp⟩
  · rintro b (e | rfl | e)
    · exact .inl e
    · exact .inr (.inl ⟨Nat.le_refl _, by simp⟩)
    · exact .inr (.inr (fpo_kills h (by simp) b e))
  · simp only [Rep]
    refine ⟨trivial, w.heap.size, 0, (a.eval x).cells.toList, rfl, .inr (.inl rfl), ⟨_, _, _, alloc_at w _, fun i _ => by simp⟩, ?_⟩
    refine RepL.frz (F := F) (fun b h => .inl h) (fun b hb => .inr (.inr hb)) ?_
    exact RepL.ext (Ext.alloc' w _) hFS hlt (cells_of hx hr)
end ops
end Go.Ab
