/-
  The logic's effects: new blocks, stores, taken values.
-/
import Derived.Test.YtkdchlggdcmkbaaAbEnds
set_option linter.unusedSimpArgs false
set_option linter.unusedVariables false
namespace Go.Ab
open Go.RowKit (Below)

/-- the number is none of an object's -/
def Fresh (o : List (Nat × Option (List AV))) (b : Nat) : Prop := ∀ b' cells, O o b' = some cells → b' ≠ b

section
variable {L : Nat → Nat} {P : Program} {n : Nat} {t : List (Nat × AV)} {o : List (Nat × Option (List AV))} {ops : Array Oper} {i : Nat} {l : List Nat} {K' : AS → Prop} {oo : Oper}

theorem DenAt.fresh {B : Nat → Prop} {F0 : Nat → Prop} {w0 : World} {F : Nat → Prop} {own : Nat → Own} {fp fs : Nat → List Nat} {s : AS} {a : Act} {w : World} (h : DenAt L B F0 w0 F own fp fs s a w) : Fresh s.o w.heap.size := by
  intro b' cells hb e
  have := (h.ol b' (by rw [(h.obj b' cells hb).1]; simp)).2
  omega

theorem OpW.withFresh {s : AS} {K : AS → Prop} (h : ∀ N, (∀ b, N ≤ b → Fresh s.o b) → OpW L P oo s K) : OpW L P oo s K := by
  intro B F0 w0 a w next Q hd hnext
  have hd' := hd
  obtain ⟨F, own, fp, fs, hden⟩ := hd'
  refine h w.heap.size (fun b hb b' cells hO e => ?_) B F0 w0 a w next Q hd hnext
  have := (hden.ol b' (by rw [(hden.obj b' cells hO).1]; simp)).2
  omega

/-- a new variable -/
theorem OpsW.alloc {ty' : TypeId} {zs : List Value} (ho : ops[i]? = some oo) (hg : oo.guard = none) (hop : oo.op = .alloc ty') (hd : dstOK n oo.dst = true) (hz : zer P ty' = some zs)
    (h : ∀ K : List (Nat × AV) → List (Nat × Option (List AV)) → Prop, (∀ t o, OpsW L P ops l ⟨n, t, o⟩ K' → K t o) → ∀ b, Fresh o b → K (put t oo.dst (.ptr b 0)) ((b, some (zs.map avz)) :: o)) : OpsW L P ops (i :: l) ⟨n, t, o⟩ K' := by
  refine OpsW.cons ho hg ?_
  intro B F0 w0 a w next Q hden hnext
  have hfr : Fresh o w.heap.size := by obtain ⟨F, own, fp, fs, hd'⟩ := hden; exact hd'.fresh
  obtain ⟨F, own, fp, fs, hD⟩ := hden
  obtain ⟨z, hzc, hzr⟩ := zer_run hz
  have hrun : (execOp a.eval oo).run P w = .ok (.value (.pointer (some ⟨w.heap.size, 0, none⟩))) (w.alloc (.cells z.cells ty')) := by
    simp [execOp, hop, Instr.alloc, hzr, newVar, newRow]
  unfold Oper.wp
  rw [hrun]
  refine hnext _ _ _ (h (fun t o => OpsW L P ops l ⟨n, t, o⟩ K') (fun _ _ h => h) w.heap.size hfr) ?_
  exact hD.renew [] [] w.heap.size (zs.map avz) [] oo.dst hd ⟨rfl, rfl, rfl⟩ (Ext.alloc w _ []) (by simp) (.inr ⟨Nat.le_refl _, by simp⟩)
    ⟨z.cells, ty', zs, [], alloc_at w _, by simp [hzc], RepL.plain zs⟩ (by simp) (by simp) (by simp [Rep])

/-- a store into an object -/
theorem OpsW.store {ty' : TypeId} {ad x : Operand} {b off m : Nat} {g : Bool} {cells : List AV} {xv : AV} (ho : ops[i]? = some oo) (hg : oo.guard = none) (hop : oo.op = .store ty' ad x) (hd : oo.dst = none) (ha : ev t ad = .ptr b off) (hO : O o b = some cells)
    (ht : ty P ty' = some (g, m)) (hx : ev t x = xv) (he : xv.elem m = true) (hone : xv.cells.all AV.one = true) (hle : off + m ≤ cells.length)
    (h : ∀ K : List (Nat × AV) → List (Nat × Option (List AV)) → Prop, (∀ t o, OpsW L P ops l ⟨n, t, o⟩ K' → K t o) → K (killL t (kills t [x])) ((b, some (cells.take off ++ xv.cells ++ cells.drop (off + m))) :: o)) : OpsW L P ops (i :: l) ⟨n, t, o⟩ K' := by
  refine OpsW.cons ho hg (opw_store (s := ⟨n, t, o⟩) hop hd ha hO ht (by rw [hx]; exact he) (by rw [hx]; exact hone) hle ?_)
  simp only [hx]
  have := h (fun t o => OpsW L P ops l ⟨n, t, o⟩ K') (fun _ _ h => h)
  intro B F0 w0 a w Q hd' hQ
  refine this B F0 w0 a w Q (hd'.weaken rfl (fun _ => .inl rfl) ?_) hQ
  intro q cs hq
  simp only [O, dropO] at hq ⊢
  split at hq
  · rename_i e; rw [if_pos e]; exact hq
  · rename_i e; rw [if_neg e, if_neg e]; exact hq

/-- a load that takes over what an object holds; the object is gone -/
theorem OpsW.take {ty' : TypeId} {x : Operand} {b off m : Nat} {g : Bool} {cells : List AV} {y : AV} (ho : ops[i]? = some oo) (hg : oo.guard = none) (hop : oo.op = .load ty' x) (hd : dstOK n oo.dst = true) (hx : ev t x = .ptr b off)
    (hb : O o b = some cells) (ht : ty P ty' = some (g, m)) (hy : val g m (cells.drop off) = some y)
    (h : ∀ K : List (Nat × AV) → List (Nat × Option (List AV)) → Prop, (∀ t o, OpsW L P ops l ⟨n, t, o⟩ K' → K t o) → K (put t oo.dst y) ((b, none) :: o)) : OpsW L P ops (i :: l) ⟨n, t, o⟩ K' :=
  OpsW.cons ho hg (opw_take (s := ⟨n, t, o⟩) hop hd hx hb ht hy (h (fun t o => OpsW L P ops l ⟨n, t, o⟩ K') (fun _ _ h => h)))

/-- make -/
theorem OpsW.mk {ty' e : TypeId} {x y : Operand} {sz bytes m : Nat} {k k' : IntKind} {zs : List Value} (ho : ops[i]? = some oo) (hg : oo.guard = none) (hop : oo.op = .makeSlice ty' x y) (hd : dstOK n oo.dst = true) (ht : elm P ty' = some (e, sz, bytes)) (hz : zer P e = some zs) (hzl : zs.length = sz)
    (hx : ev t x = .v (.int k m)) (hy : ev t y = .v (.int k' m)) (hL : m ≤ L sz) (hby : m * bytes ≤ 140737488355328)
    (h : ∀ K : List (Nat × AV) → List (Nat × Option (List AV)) → Prop, (∀ t o, OpsW L P ops l ⟨n, t, o⟩ K' → K t o) → ∀ b, Fresh o b → K (put t oo.dst (.arr b 0 m sz)) ((b, some ((List.replicate m zs).flatten.map avz)) :: o))
    (h63 : m ≤ 9223372036854775807) : OpsW L P ops (i :: l) ⟨n, t, o⟩ K' := by
  refine OpsW.cons ho hg ?_
  intro B F0 w0 a w next Q hden hnext
  obtain ⟨F, own, fp, fs, hD⟩ := hden
  obtain ⟨inf, hut, hinf, rfl, rfl⟩ := elm_inv ht
  obtain ⟨inf', z, hinf', hzz, hzc⟩ := zer_inv hz
  rw [hinf] at hinf'
  cases hinf'
  have hrun := run_make (P := P) w ty' e inf z hut hinf hzz k k' (m : Int) m (by omega) (Int.le_refl _) (by
    have : (inf.bytes : Int) * m = ((m * inf.bytes : Nat) : Int) := by push_cast; rw [Int.mul_comm]
    omega) (by omega)
  have hzs : z.cells.size = inf.size := by rw [← hzl, ← hzc]; simp
  have hex : (execOp a.eval oo).run P w = .ok (.value (.slice (some ⟨w.heap.size, 0, none⟩) m m)) (w.alloc (.cells (madeCells z.cells (m * inf.size)) e)) := by
    simp only [execOp, hop, hD.val hx, hD.val hy, Sem.run_bind, hrun, Int.toNat_natCast]
    rfl
  unfold Oper.wp
  rw [hex]
  refine hnext _ _ _ (h (fun t o => OpsW L P ops l ⟨n, t, o⟩ K') (fun _ _ h => h) w.heap.size hD.fresh) ?_
  refine hD.renew [] [] w.heap.size _ [] oo.dst hd ⟨rfl, rfl, rfl⟩ (Ext.alloc w _ []) (by simp) (.inr ⟨Nat.le_refl _, by simp⟩)
    ⟨_, _, (List.replicate m zs).flatten, [], alloc_at w _, by rw [madeCells_list z.cells m inf.size hzs, hzc]; simp, RepL.plain _⟩ (by simp) (by simp) ?_
  simp only [Rep]
  refine ⟨trivial, m, rfl, Nat.le_refl _, hL, _, _, alloc_at w _, ?_⟩
  have := congrArg List.length (madeCells_list z.cells m inf.size hzs)
  simp at this
  rw [hzs] at this
  omega
end

/-- a slice that make has made and a loop fills: the cells behind k rounds -/
def mkC {α : Type} (f : α → AV) (zs : List Value) (l : List α) (k : Nat) : List AV := ((l.take k).map f).flatMap AV.cells ++ (List.replicate (l.length - k) zs).flatten.map avz

theorem flat_len {α : Type} (f : α → AV) (sz : Nat) (hf : ∀ x, (f x).cells.length = sz) : ∀ l : List α, ((l.map f).flatMap AV.cells).length = l.length * sz
  | [] => by simp
  | x :: xs => by
    rw [List.map_cons, List.flatMap_cons, List.length_append, hf, flat_len f sz hf xs, List.length_cons, Nat.add_mul]; omega

theorem rep_len (zs : List Value) (sz : Nat) (hz : zs.length = sz) (m : Nat) : ((List.replicate m zs).flatten.map avz).length = m * sz := by
  simp [hz]

theorem mkC_zero {α : Type} (f : α → AV) (zs : List Value) (l : List α) : mkC f zs l 0 = (List.replicate l.length zs).flatten.map avz := by simp [mkC]

theorem mkC_len {α : Type} (f : α → AV) (zs : List Value) (sz : Nat) (hf : ∀ x, (f x).cells.length = sz) (hz : zs.length = sz) (l : List α) (k : Nat) (hk : k ≤ l.length) : (mkC f zs l k).length = l.length * sz := by
  rw [mkC, List.length_append, flat_len f sz hf, rep_len zs sz hz, List.length_take, Nat.min_eq_left hk, ← Nat.add_mul]; congr 1; omega

theorem mkC_step {α : Type} (f : α → AV) (zs : List Value) (sz : Nat) (hf : ∀ x, (f x).cells.length = sz) (hz : zs.length = sz) (l : List α) (k : Nat) (hk : k < l.length) :
    (mkC f zs l k).take (k * sz) ++ (f l[k]).cells ++ (mkC f zs l k).drop (k * sz + sz) = mkC f zs l (k + 1) := by
  have hA : (((l.take k).map f).flatMap AV.cells).length = k * sz := by rw [flat_len f sz hf, List.length_take, Nat.min_eq_left (by omega)]
  have e1 : (mkC f zs l k).take (k * sz) = ((l.take k).map f).flatMap AV.cells := by rw [mkC, ← hA, List.take_left]
  have e2 : (mkC f zs l k).drop (k * sz + sz) = (List.replicate (l.length - (k + 1)) zs).flatten.map avz := by
    rw [mkC, ← List.drop_drop, ← hA, List.drop_left, show l.length - k = (l.length - (k + 1)) + 1 by omega, List.replicate_succ, List.flatten_cons, List.map_append]
    have : (zs.map avz).length = sz := by simpa using hz
    rw [← this, List.drop_left]
  rw [e1, e2, mkC, List.take_succ_eq_append_getElem hk, List.map_append, List.flatMap_append]
  simp

theorem mkC_end {α : Type} (f : α → AV) (zs : List Value) (l : List α) : mkC f zs l l.length = (l.map f).flatMap AV.cells := by simp [mkC]
end Go.Ab
