/-
  The logic's steps: values built of parts.
-/
import Derived.Test.YtkdchlggdcmkbaaAbApp2
set_option linter.unusedSimpArgs false
set_option linter.unusedVariables false
namespace Go.Ab
open Go.RowKit (Below)

theorem fold_splice (off : Nat) : ∀ (xs : List Value) (k : Nat) (cells : List Value), off + k + xs.length ≤ cells.length →
    (xs.zipIdx k).foldl (fun (cs : Array Value) (p : Value × Nat) => cs.setIfInBounds (off + p.2) p.1) cells.toArray = (cells.take (off + k) ++ xs ++ cells.drop (off + k + xs.length)).toArray
  | [], k, cells, _ => by simp
  | x :: xs, k, cells, h => by
    simp only [List.length_cons] at h
    simp only [List.zipIdx_cons, List.foldl_cons, List.setIfInBounds_toArray]
    rw [fold_splice off xs (k + 1) (cells.set (off + k) x) (by simp; omega)]
    congr 1
    have h1 : off + k < cells.length := by omega
    rw [List.set_eq_take_append_cons_drop, if_pos h1]
    have ht : (cells.take (off + k)).length = off + k := by simp; omega
    have e1 : (cells.take (off + k) ++ x :: cells.drop (off + k + 1)).take (off + (k + 1)) = cells.take (off + k) ++ [x] := by
      rw [List.take_append, ht, show off + (k + 1) - (off + k) = 1 by omega, List.take_of_length_le (by rw [ht]; omega)]; simp
    have e2 : (cells.take (off + k) ++ x :: cells.drop (off + k + 1)).drop (off + (k + 1) + xs.length) = cells.drop (off + k + (xs.length + 1)) := by
      rw [List.drop_append, ht, List.drop_eq_nil_of_le (by rw [ht]; omega), show off + (k + 1) + xs.length - (off + k) = xs.length + 1 by omega]
      simp only [List.drop_succ_cons, List.drop_drop, List.nil_append]
      congr 1; omega
    rw [e1, e2]
    simp

def fillA (place : Nat → Option (Nat × Nat)) : List AV → List (Nat × AV) → Option (List AV)
  | cells, [] => some cells
  | cells, p :: rest =>
    match place p.1 with
    | none => none
    | some q => bif p.2.elem q.2 && Nat.ble (q.1 + q.2) cells.length then fillA place (cells.take q.1 ++ p.2.cells ++ cells.drop (q.1 + q.2)) rest else none

section
variable {L : Nat → Nat} {B : Nat → Prop} {F0 : Nat → Prop} {w0 : World} {F : Nat → Prop} {own : Nat → Own} {fp fs : Nat → List Nat} {s : AS} {a : Act} {w : World} {P : Program}

theorem fps_nodup (h : DenAt L B F0 w0 F own fp fs s a w) : ∀ xs : List Operand, (kills s.t xs).Nodup → (xs.flatMap (fpo fp)).Nodup
  | [], _ => by simp
  | x :: xs, hk => by
    rw [List.flatMap_cons, List.nodup_append]
    have hk' : (kills s.t xs).Nodup := by
      cases x with
      | tmp i =>
        simp only [kills] at hk
        cases hn : (T s.t i).nown with
        | true => rw [hn] at hk; exact hk
        | false => rw [hn] at hk; simp at hk; exact hk.2
      | const _ => exact hk
      | global _ => exact hk
      | func _ => exact hk
    refine ⟨fpo_nodup h x, fps_nodup h xs hk', fun b hb b' hb' e => ?_⟩
    subst e
    cases x with
    | tmp i =>
      simp only [fpo] at hb
      obtain ⟨y, hy, hby⟩ := List.mem_flatMap.1 hb'
      obtain ⟨j, hj, hbj⟩ := fpo_kills h hy b hby
      have e1 := h.so i b hb
      rw [h.so j b hbj] at e1
      cases e1
      simp only [kills] at hk
      cases hn : (T s.t i).nown with
      | true => rw [Rep.fp_nil hn (h.slots i)] at hb; simp at hb
      | false => rw [hn] at hk; simp at hk; exact hk.1 hj
    | const _ => simp [fpo] at hb
    | global _ => simp [fpo] at hb
    | func _ => simp [fpo] at hb

theorem fps_kills (h : DenAt L B F0 w0 F own fp fs s a w) (xs : List Operand) : ∀ b, b ∈ xs.flatMap (fpo fp) → ∃ i, i ∈ kills s.t xs ∧ b ∈ fp i := by
  intro b hb
  obtain ⟨y, hy, hby⟩ := List.mem_flatMap.1 hb
  exact fpo_kills h hy b hby

theorem fill_rep (h : DenAt L B F0 w0 F own fp fs s a w) (place : Nat → Option (Nat × Nat)) : ∀ (parts : List (Nat × Operand)) (cells cells' : List AV) (vals : List Value) (f0 : List Nat),
    RepL L F w cells vals f0 → fillA place cells (parts.map fun p => (p.1, ev s.t p.2)) = some cells' → (f0 ++ (parts.map Prod.snd).flatMap (fpo fp)).Nodup →
    ∃ (vals' : List Value) (f' : List Nat), Instr.fill place vals.toArray (parts.map fun p => (p.1, a.eval p.2)) = some vals'.toArray ∧ RepL L F w cells' vals' f' ∧ f'.Nodup ∧
      (∀ b, b ∈ f' → b ∈ f0 ∨ b ∈ (parts.map Prod.snd).flatMap (fpo fp)) ∧ cells'.length = cells.length
  | [], cells, cells', vals, f0, r, hf, hn => by
    simp [fillA] at hf
    subst hf
    exact ⟨vals, f0, by simp [Instr.fill], r, by simpa using hn, fun b hb => .inl hb, rfl⟩
  | p :: parts, cells, cells', vals, f0, r, hf, hn => by
    simp only [List.map_cons, fillA] at hf
    cases hp : place p.1 with
    | none => rw [hp] at hf; simp at hf
    | some q =>
      rw [hp] at hf
      simp only at hf
      cases hc : ((ev s.t p.2).elem q.2 && Nat.ble (q.1 + q.2) cells.length) with
      | false => rw [hc] at hf; simp at hf
      | true =>
        rw [hc] at hf
        simp only [cond_true] at hf
        simp at hc
        obtain ⟨hel, hle⟩ := hc
        obtain ⟨hxl, hxs⟩ := cells_rep hel (h.ev p.2)
        have hln : (a.eval p.2).cells.toList.length = q.2 := by simp [hxs]
        obtain ⟨f', hf', hnd, hmem⟩ := r.splice hxl q.1 q.2 (by rw [← hxl.len, hln]) hle
        simp only [List.map_cons, List.flatMap_cons] at hn
        have hn1 : (f0 ++ fpo fp p.2).Nodup := by rw [← List.append_assoc] at hn; exact (List.nodup_append.1 hn).1
        have hn2 : (f' ++ (parts.map Prod.snd).flatMap (fpo fp)).Nodup := by
          rw [← List.append_assoc] at hn
          rw [List.nodup_append] at hn ⊢
          refine ⟨hnd hn1, hn.2.1, fun b hb b' hb' => hn.2.2 b ?_ b' hb'⟩
          rcases hmem b hb with e | e <;> simp [e]
        obtain ⟨vals', f'', h1, h2, h3, h4, h5⟩ := fill_rep h place parts _ cells' _ f' hf' hf hn2
        refine ⟨vals', f'', ?_, h2, h3, fun b hb => ?_, ?_⟩
        · simp only [List.map_cons, Instr.fill, hp]
          have hvl := r.len
          rw [if_neg (by simp [hxs]; omega)]
          rw [← h1]
          congr 1
          rw [← Array.foldl_toList, Array.toList_zipIdx]
          have := fold_splice q.1 (a.eval p.2).cells.toList 0 vals (by rw [hln]; omega)
          simp only [Nat.add_zero, hln] at this
          rw [← this]
        · simp only [List.map_cons, List.flatMap_cons, List.mem_append]
          rcases h4 b hb with e | e
          · rcases hmem b e with e | e
            · exact .inl e
            · exact .inr (.inl e)
          · exact .inr (.inr e)
        · rw [h5]
          have : (ev s.t p.2).cells.length = q.2 := by rw [← hxl.len, hln]
          simp [this]; omega
end

/-- the places of a struct type's fields, its zero cells -/
def plc (P : Program) (t : TypeId) : Option (List (Nat × Nat) × List Value) :=
  match P.info? t, P.underlying t with
  | some it, some (.struct fields) =>
    match it.zero, fields.toList.mapM (fun f => (P.info? f.type).map fun i => (f.offset, i.size)) with
    | some z, some places => some (places, z.cells.toList)
    | _, _ => none
  | _, _ => none

theorem plc_built {P : Program} {t : TypeId} {places : List (Nat × Nat)} {zs : List Value} (h : plc P t = some (places, zs)) (parts : List (Nat × Value)) :
    P.built t parts = Instr.fill (places[·]?) zs.toArray parts := by
  unfold plc at h
  split at h
  · rename_i it fields hi hu
    split at h
    · rename_i z pl hz hp
      simp at h
      obtain ⟨rfl, rfl⟩ := h
      simp [Program.built, hi, hu, hz, hp]
    · cases h
  · cases h

section ops
variable {L : Nat → Nat} {P : Program} {s : AS} {o : Oper}

theorem lop_build {t : TypeId} {parts : Array (Nat × Operand)} {places : List (Nat × Nat)} {zs : List Value} {cells : List AV} (ho : o.op = .build t parts) (hp : plc P t = some (places, zs))
    (hf : fillA (places[·]?) (zs.map avz) (parts.toList.map fun p => (p.1, ev s.t p.2)) = some cells) (hk : (kills s.t (parts.toList.map Prod.snd)).Nodup) :
    LOp L P s o (.agg cells) (kills s.t (parts.toList.map Prod.snd)) := by
  refine LOp.of_run fun B F0 w0 F own fp fs a w h => ?_
  obtain ⟨vals', f', h1, h2, h3, h4, _⟩ := fill_rep h (places[·]?) parts.toList _ cells zs [] (RepL.plain zs) hf (by simpa using fps_nodup h _ hk)
  refine ⟨.agg vals'.toArray, f', ?_, by simp only [Rep]; exact ⟨vals', rfl, h2⟩, h3, fun b hb => ?_⟩
  · have hb := run_build (P := P) w t (parts.map fun p => (p.1, a.eval p.2)) vals'.toArray (by rw [plc_built hp]; simpa using h1)
    simp only [execOp, ho, Sem.run_bind]
    rw [show (fun (x : Nat × Operand) => (x.1, a.eval x.2)) = (fun p : Nat × Operand => (p.1, a.eval p.2)) from rfl] at *
    rw [hb]; rfl
  · rcases h4 b hb with e | e
    · simp at e
    · exact fps_kills h _ b e
end ops
end Go.Ab
