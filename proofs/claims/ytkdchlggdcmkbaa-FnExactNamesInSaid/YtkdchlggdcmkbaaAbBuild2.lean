/-
  The logic's steps: slices and boxes built.
-/
import Derived.Test.YtkdchlggdcmkbaaAbBuild
set_option linter.unusedSimpArgs false
set_option linter.unusedVariables false
namespace Go.Ab
open Go.RowKit (Below)

theorem rep_single {L : Nat → Nat} {F : Nat → Prop} {w : World} {sz : Nat} {x : AV} {y : Value} {f : List Nat} (h : x.elem sz = true) (hx : x.cells = [x]) (r : Rep L F w x y f) (hna : ∀ l, x ≠ .agg l) : y.cells.toList = [y] ∧ sz = 1 := by
  have h2 := cells_rep h r
  cases x with
  | agg l => exact absurd rfl (hna l)
  | dead => simp [AV.elem] at h
  | tup l => simp [AV.elem] at h
  | cnd _ _ => simp [AV.elem] at h
  | v x =>
    simp only [Rep] at r
    obtain ⟨rfl, _⟩ := r
    simp [AV.elem] at h
    exact ⟨by cases y <;> simp_all [Value.cells, Value.oneCell'], h.2⟩
  | str _ => simp only [Rep] at r; simp [AV.elem] at h; rw [r.1]; exact ⟨rfl, h⟩
  | sl _ _ _ => simp only [Rep] at r; simp [AV.elem] at h; rcases r with ⟨rfl | ⟨_, _, rfl⟩, _⟩ | ⟨_, _, _, _, _, rfl, _⟩ <;> exact ⟨rfl, h⟩
  | vp _ => simp only [Rep] at r; simp [AV.elem] at h; obtain ⟨_, _, _, _, rfl, _⟩ := r; exact ⟨rfl, h⟩
  | arr _ _ _ _ => simp only [Rep] at r; simp [AV.elem] at h; obtain ⟨_, _, rfl, _⟩ := r; exact ⟨rfl, h⟩
  | ptr _ _ => simp only [Rep] at r; simp [AV.elem] at h; obtain ⟨rfl, _⟩ := r; exact ⟨rfl, h⟩
  | fn _ _ => simp only [Rep] at r; simp [AV.elem] at h; obtain ⟨_, rfl, _⟩ := r; exact ⟨rfl, h⟩

theorem rep_of_cells {L : Nat → Nat} {F : Nat → Prop} {w : World} {sz : Nat} {x : AV} {us : List Value} {f : List Nat} (h : x.elem sz = true) (r : RepL L F w x.cells us f) : ∃ y, Rep L F w x y f ∧ y.cells.toList = us ∧ y.cells.size = sz := by
  by_cases ha : ∃ l, x = .agg l
  · obtain ⟨l, rfl⟩ := ha
    simp [AV.elem] at h
    exact ⟨.agg us.toArray, by simp only [Rep]; exact ⟨us, rfl, r⟩, by simp [Value.cells], by simp [Value.cells, r.len, AV.cells, h]⟩
  · have hna : ∀ l, x ≠ .agg l := fun l e => ha ⟨l, e⟩
    have hx : x.cells = [x] := by cases x <;> first | rfl | exact absurd rfl (hna _)
    rw [hx] at r
    simp only [RepL] at r
    obtain ⟨y, vs', f1, f2, rfl, rfl, hr, rfl, rfl⟩ := r
    obtain ⟨h1, rfl⟩ := rep_single h hx hr hna
    exact ⟨y, by simpa using hr, h1, by rw [← Array.length_toList, h1]; rfl⟩

theorem RepL.unflat {L : Nat → Nat} {F : Nat → Prop} {w : World} {sz : Nat} : ∀ {l : List AV} {vs : List Value} {fp : List Nat}, (∀ x, x ∈ l → x.elem sz = true) → RepL L F w (l.flatMap AV.cells) vs fp → RepE L F w sz l vs fp
  | [], _, _, _, r => by simpa [RepE, RepL] using r
  | x :: xs, vs, fp, h, r => by
    rw [List.flatMap_cons] at r
    obtain ⟨v1, v2, f1, f2, rfl, rfl, r1, r2⟩ := r.split
    obtain ⟨y, hy, e, hs⟩ := rep_of_cells (h x (by simp)) r1
    simp only [RepE]
    exact ⟨y, v2, f1, f2, by rw [e], hs, rfl, hy, RepL.unflat (fun z hz => h z (by simp [hz])) r2⟩

theorem RepL.deads {L : Nat → Nat} {F : Nat → Prop} {w : World} : ∀ vs : List Value, RepL L F w (List.replicate vs.length .dead) vs []
  | [] => by simp [RepL]
  | y :: vs => by simp only [List.length_cons, List.replicate_succ, RepL]; exact ⟨y, vs, [], [], rfl, rfl, by simp [Rep], RepL.deads vs⟩

def initB (z : Value) (n : Nat) : Array Value := if n = 0 then (Array.range n).map ((#[] : Array Value)[· % (#[] : Array Value).size]!) else (Array.range n).map (z.cells[· % z.cells.size]!)

theorem initB_size (z : Value) (n : Nat) : (initB z n).size = n := by unfold initB; split <;> simp

theorem run_bs {P : Program} {t e : TypeId} {inf : TypeInfo} {z : Value} (w : World) (len : Nat) (pv : Array (Nat × Value)) (cells : Array Value) (hut : P.underlying t = some (.slice e)) (hinf : P.info? e = some inf)
    (hz : inf.zero = some z) (hsm : len * inf.size ≤ 16777216)
    (hfill : Instr.fill (fun i => some (i * inf.size, inf.size)) (initB z (len * inf.size)) pv.toList = some cells) :
    (Instr.buildSlice t len pv).run P w = .ok (.slice (some ⟨w.heap.size, 0, none⟩) len len) (w.alloc (.cells cells e)) := by
  have hsm' : ¬ (len * inf.size > 2 ^ 24) := by omega
  unfold Instr.buildSlice
  simp only [Sem.run_bind, run_underlying hut, Result.andThen_ok, sizeOf, typeInfo, run_program, hinf, Sem.run_pure, zeroValue]
  rw [if_neg hsm']
  by_cases h0 : len * inf.size = 0
  · rw [if_pos h0]
    unfold initB at hfill
    rw [if_pos h0] at hfill
    simp only [Sem.run_pure, Sem.run_bind, Result.andThen_ok, hfill, newRow, run_newObj]
    rfl
  · rw [if_neg h0]
    unfold initB at hfill
    rw [if_neg h0] at hfill
    simp only [Sem.run_pure, Sem.run_bind, Result.andThen_ok, run_program, hinf, hz, hfill, newRow, run_newObj]
    rfl

section ops
variable {L : Nat → Nat} {P : Program} {s : AS} {o : Oper}

theorem buildSlice_run {B : Nat → Prop} {F0 : Nat → Prop} {w0 : World} {F : Nat → Prop} {own : Nat → Own} {fp fs : Nat → List Nat} {a : Act} {w : World} (h : DenAt L B F0 w0 F own fp fs s a w)
    {t e : TypeId} {len sz bytes : Nat} {parts : Array (Nat × Operand)} {zs : List Value} {cells : List AV} (ho : o.op = .buildSlice t len parts) (ht : elm P t = some (e, sz, bytes)) (hz : zer P e = some zs) (hsm : len * sz ≤ 16777216)
    (hf : fillA (fun i => some (i * sz, sz)) (List.replicate (len * sz) .dead) (parts.toList.map fun p => (p.1, ev s.t p.2)) = some cells) (hk : (kills s.t (parts.toList.map Prod.snd)).Nodup) :
    ∃ vals f, (execOp a.eval o).run P w = .ok (.value (.slice (some ⟨w.heap.size, 0, none⟩) len len)) (w.alloc (.cells vals.toArray e)) ∧ RepL L F w cells vals f ∧ f.Nodup ∧ (∀ b, b ∈ f → ∃ i, i ∈ kills s.t (parts.toList.map Prod.snd) ∧ b ∈ fp i) ∧ cells.length = len * sz := by
  obtain ⟨inf, hut, hinf, rfl, rfl⟩ := elm_inv ht
  obtain ⟨z, hzc, hzr⟩ := zer_run hz
  obtain ⟨inf', z', hinf', hzz, _⟩ := zer_inv hz
  rw [hinf] at hinf'
  cases hinf'
  obtain ⟨vals', f', h1, h2, h3, h4, h5⟩ := fill_rep h (fun i => some (i * inf.size, inf.size)) parts.toList (List.replicate (len * inf.size) .dead) cells (initB z' (len * inf.size)).toList [] (by
    have := RepL.deads (L := L) (F := F) (w := w) (initB z' (len * inf.size)).toList
    rwa [Array.length_toList, initB_size] at this) hf (by simpa using fps_nodup h _ hk)
  refine ⟨vals', f', ?_, h2, h3, fun b hb => ?_, by simpa using h5⟩
  · have hr := run_bs (P := P) w len (parts.map fun p => (p.1, a.eval p.2)) vals'.toArray hut hinf hzz hsm (by simpa using h1)
    simp only [execOp, ho, Sem.run_bind]
    rw [hr]; rfl
  · rcases h4 b hb with e' | e'
    · simp at e'
    · exact fps_kills h _ b e'

theorem lop_buildSlice {t e : TypeId} {len sz bytes : Nat} {parts : Array (Nat × Operand)} {zs : List Value} {cells elems : List AV} (ho : o.op = .buildSlice t len parts) (ht : elm P t = some (e, sz, bytes)) (hz : zer P e = some zs) (hsm : len * sz ≤ 16777216)
    (hf : fillA (fun i => some (i * sz, sz)) (List.replicate (len * sz) .dead) (parts.toList.map fun p => (p.1, ev s.t p.2)) = some cells) (hk : (kills s.t (parts.toList.map Prod.snd)).Nodup)
    (hel : elems.flatMap AV.cells = cells) (hall : ∀ x, x ∈ elems → x.elem sz = true) (hlen : elems.length = len) (hL : len ≤ L sz) :
    LOp L P s o (.sl true sz elems) (kills s.t (parts.toList.map Prod.snd)) := by
  intro B F0 w0 F own fp fs a w next Q h hnext
  obtain ⟨vals, f, hrun, hrep, hn, hmem, hcl⟩ := buildSlice_run h ho ht hz hsm hf hk
  unfold Oper.wp
  rw [hrun]
  have hvl := hrep.len
  have hFS : ∀ b, F b → F b ∧ (b < w.heap.size) := fun b hb' => ⟨hb', (h.fl b hb').2.1⟩
  have hlt : ∀ k, k ∈ f → k < w.heap.size := fun k hk => by obtain ⟨i, _, hi⟩ := hmem k hk; exact (h.fp_lt hi).2
  refine hnext _ _ ⟨(Below.refl _ _).alloc (Nat.le_refl _) _, F, w.heap.size :: f, fun _ h => h, fun _ h => .inl h, ?_, ?_, ?_⟩
  · simp only [Rep]
    refine .inr ⟨w.heap.size, 0, len, vals, f, by rw [hlen], by omega, by omega, ⟨_, _, _, alloc_at w _, fun i _ => by simp⟩, ?_, .inl ⟨by trivial, rfl, rfl, _, _, alloc_at w _, by simp; omega⟩⟩
    refine RepL.unflat hall ?_
    rw [hel]
    exact RepL.ext (Ext.alloc' w _) hFS hlt hrep
  · rw [List.nodup_cons]
    exact ⟨fun hm => by have := hlt _ hm; omega, hn⟩
  · intro b hb
    rcases List.mem_cons.1 hb with rfl | hb
    · exact ⟨fun hF => by have := (hFS _ hF).2; omega, .inr ⟨Nat.le_refl _, by simp⟩⟩
    · obtain ⟨i, hi, hbi⟩ := hmem b hb
      exact ⟨h.fp_F hbi, .inl ⟨i, hi, hbi⟩⟩

/-- a slice of one's own that will grow or be written -/
theorem opw_buildSlice {t e : TypeId} {len sz bytes : Nat} {parts : Array (Nat × Operand)} {zs : List Value} {cells : List AV} (ho : o.op = .buildSlice t len parts) (hd : dstOK s.n o.dst = true) (ht : elm P t = some (e, sz, bytes)) (hz : zer P e = some zs) (hsm : len * sz ≤ 16777216)
    (hf : fillA (fun i => some (i * sz, sz)) (List.replicate (len * sz) .dead) (parts.toList.map fun p => (p.1, ev s.t p.2)) = some cells) (hk : (kills s.t (parts.toList.map Prod.snd)).Nodup) (hL : len ≤ L sz) {K : AS → Prop}
    (hK : ∀ b, K ⟨s.n, put (killL s.t (kills s.t (parts.toList.map Prod.snd))) o.dst (.arr b 0 len sz), (b, some cells) :: s.o⟩) : OpW L P o s K := by
  intro B F0 w0 a w next Q hden hnext
  obtain ⟨F, own, fp, fs, h⟩ := hden
  obtain ⟨vals, f, hrun, hrep, hn, hmem, hcl⟩ := buildSlice_run h ho ht hz hsm hf hk
  unfold Oper.wp
  rw [hrun]
  have hvl := hrep.len
  have hFS : ∀ b, F b → F b ∧ (b < w.heap.size) := fun b hb' => ⟨hb', (h.fl b hb').2.1⟩
  have hlt : ∀ k, k ∈ f → k < w.heap.size := fun k hk => by obtain ⟨i, _, hi⟩ := hmem k hk; exact (h.fp_lt hi).2
  refine hnext _ _ _ (hK w.heap.size) ?_
  refine h.renew (kills s.t (parts.toList.map Prod.snd)) [] w.heap.size cells f o.dst hd ⟨rfl, rfl, rfl⟩ (Ext.alloc w _ []) (by simp) (.inr ⟨Nat.le_refl _, by simp⟩)
    ⟨_, _, vals, [], alloc_at w _, by simp, RepL.ext (Ext.alloc' w _) hFS hlt hrep⟩ hn (fun k hk => .inl (hmem k hk)) ?_
  simp only [Rep]
  exact ⟨trivial, len, rfl, Nat.le_refl _, hL, _, _, alloc_at w _, by simp; omega⟩

theorem madeCells_list (z : Array Value) (n m : Nat) (hz : z.size = m) : (madeCells z (n * m)).toList = (List.replicate n z.toList).flatten := by
  have key : ∀ n, ((List.range (n * m)).map fun j => z[j % m]!) = (List.replicate n z.toList).flatten := by
    intro n
    induction n with
    | zero => simp
    | succ n ih =>
      rw [List.replicate_succ', List.flatten_append, ← ih, Nat.add_mul, Nat.one_mul, List.range_add, List.map_append, List.map_map]
      congr 1
      simp only [List.flatten_cons, List.flatten_nil, List.append_nil]
      apply List.ext_getElem
      · simp [hz]
      · intro j h1 h2
        simp only [List.length_map, List.length_range] at h1
        simp only [List.getElem_map, List.getElem_range, Function.comp_apply]
        rw [Nat.mul_comm, Nat.mul_add_mod, Nat.mod_eq_of_lt h1, getElem!_pos z j (by omega)]
        simp
  have := key n
  rw [← this]
  simp [madeCells, hz]

theorem opw_makeSlice {t e : TypeId} {x y : Operand} {sz bytes n : Nat} {k k' : IntKind} {zs : List Value} (ho : o.op = .makeSlice t x y) (hd : dstOK s.n o.dst = true) (ht : elm P t = some (e, sz, bytes)) (hz : zer P e = some zs) (hzl : zs.length = sz)
    (hx : ev s.t x = .v (.int k n)) (hy : ev s.t y = .v (.int k' n)) (hL : n ≤ L sz) (hby : n * bytes ≤ 140737488355328) (h63 : n ≤ 9223372036854775807) {K : AS → Prop}
    (hK : ∀ b, K ⟨s.n, put s.t o.dst (.arr b 0 n sz), (b, some ((List.replicate n zs).flatten.map avz)) :: s.o⟩) : OpW L P o s K := by
  intro B F0 w0 a w next Q hden hnext
  obtain ⟨F, own, fp, fs, h⟩ := hden
  obtain ⟨inf, hut, hinf, rfl, rfl⟩ := elm_inv ht
  obtain ⟨inf', z, hinf', hzz, hzc⟩ := zer_inv hz
  rw [hinf] at hinf'
  cases hinf'
  have hrun := run_make (P := P) w t e inf z hut hinf hzz k k' (n : Int) n (by omega) (Int.le_refl _) (by
    have : (inf.bytes : Int) * n = ((n * inf.bytes : Nat) : Int) := by push_cast; rw [Int.mul_comm]
    omega) (by omega)
  have hzs : z.cells.size = inf.size := by rw [← hzl, ← hzc]; simp
  have hex : (execOp a.eval o).run P w = .ok (.value (.slice (some ⟨w.heap.size, 0, none⟩) n n)) (w.alloc (.cells (madeCells z.cells (n * inf.size)) e)) := by
    simp only [execOp, ho, h.val hx, h.val hy, Sem.run_bind, hrun, Int.toNat_natCast]
    rfl
  unfold Oper.wp
  rw [hex]
  refine hnext _ _ _ (hK w.heap.size) ?_
  refine h.renew [] [] w.heap.size _ [] o.dst hd ⟨rfl, rfl, rfl⟩ (Ext.alloc w _ []) (by simp) (.inr ⟨Nat.le_refl _, by simp⟩)
    ⟨_, _, (List.replicate n zs).flatten, [], alloc_at w _, by rw [madeCells_list z.cells n inf.size hzs, hzc]; simp, RepL.plain _⟩ (by simp) (by simp) ?_
  simp only [Rep]
  refine ⟨trivial, n, rfl, Nat.le_refl _, hL, _, _, alloc_at w _, ?_⟩
  have := congrArg List.length (madeCells_list z.cells n inf.size hzs)
  simp at this
  rw [hzs] at this
  omega
end ops
end Go.Ab
