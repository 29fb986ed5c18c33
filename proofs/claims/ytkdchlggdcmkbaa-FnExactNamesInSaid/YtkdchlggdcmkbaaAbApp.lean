/-
  The logic's steps: append.
-/
import Derived.Test.YtkdchlggdcmkbaaAbMem
set_option linter.unusedSimpArgs false
set_option linter.unusedVariables false
namespace Go.Ab
open Go.RowKit (Below)

theorem RepE.flat {L : Nat → Nat} {F : Nat → Prop} {w : World} {sz : Nat} : ∀ {l : List AV} {vs : List Value} {fp : List Nat}, (∀ x, x ∈ l → x.elem sz = true) → RepE L F w sz l vs fp → RepL L F w (l.flatMap AV.cells) vs fp
  | [], _, _, _, r => by simpa [RepE, RepL] using r
  | x :: xs, vs, fp, h, r => by
    simp only [RepE] at r
    obtain ⟨y, vs', f1, f2, rfl, hsz, rfl, hx, hxs⟩ := r
    rw [List.flatMap_cons]
    exact RepL.join (cells_of (h x (by simp)) hx) (RepE.flat (fun z hz => h z (by simp [hz])) hxs)

/-- a cell -/
def AV.one : AV → Bool
  | .v x => x.oneCell'
  | .str _ | .sl .. | .vp _ | .arr .. | .ptr .. | .fn .. => true
  | _ => false

theorem Rep.one {L : Nat → Nat} {F : Nat → Prop} {w : World} {x : AV} {y : Value} {f : List Nat} (r : Rep L F w x y f) (h : x.one = true) : y.oneCell' = true := by
  cases x with
  | dead => simp [AV.one] at h
  | agg l => simp [AV.one] at h
  | tup l => simp [AV.one] at h
  | cnd _ _ => simp [AV.one] at h
  | v x => simp only [Rep] at r; rw [r.1]; simpa [AV.one] using h
  | str _ => simp only [Rep] at r; rw [r.1]; rfl
  | sl _ _ _ => simp only [Rep] at r; rcases r with ⟨rfl | ⟨_, _, rfl⟩, _⟩ | ⟨_, _, _, _, _, rfl, _⟩ <;> rfl
  | vp _ => simp only [Rep] at r; obtain ⟨_, _, _, _, rfl, _⟩ := r; rfl
  | arr _ _ _ _ => simp only [Rep] at r; obtain ⟨_, _, rfl, _⟩ := r; rfl
  | ptr _ _ => simp only [Rep] at r; rw [r.1]; rfl
  | fn _ _ => simp only [Rep] at r; obtain ⟨_, rfl, _⟩ := r; rfl

theorem RepL.ones {L : Nat → Nat} {F : Nat → Prop} {w : World} : ∀ {l : List AV} {vs : List Value} {fp : List Nat}, RepL L F w l vs fp → l.all AV.one = true → ∀ u, u ∈ vs → u.oneCell' = true
  | [], _, _, r, _, u, hu => by simp only [RepL] at r; rw [r.1] at hu; simp at hu
  | x :: xs, vs, fp, r, h, u, hu => by
    simp only [RepL] at r
    obtain ⟨y, vs', f1, f2, rfl, rfl, hx, hxs⟩ := r
    simp at h
    rcases List.mem_cons.1 hu with rfl | hu
    · exact hx.one h.1
    · exact RepL.ones hxs (by simpa using h.2) u hu

/-- what is appended -/
structure Src (P : Program) (w : World) (size : Nat) (u : TypeId) (x : Value) (n : Nat) (news : List Value) : Prop where
  ty : (∃ e', P.underlying u = some (.slice e')) ∨ P.underlying u = some .string
  len : ∀ w', (Builtin.lenOf x).run P w' = .ok n w'
  first : ∀ w' : World, w'.heap = w.heap → (Builtin.firstCells size n x).run P w' = .ok news.toArray w'

section
variable {P : Program} {w : World} {t u tyr e : TypeId} {i : TypeInfo} {x : Value} {n : Nat} {news : List Value}

theorem app_room (ht : P.underlying t = some (.slice e)) (hi : P.info? e = some i) (hs : Src P w i.size u x n news) (g sLen sCap : Nat) (cur : Array Value) (Ty : TypeId) (hg : w.heap[g]? = some (.cells cur Ty (0, 0)))
    (h1 : ∀ v, v ∈ news → v.oneCell' = true) (hroom : sLen + n ≤ sCap) (hfit : sLen * i.size + news.length ≤ cur.size) :
    (Builtin.append_ #[t, u] tyr #[.slice (some ⟨g, 0, none⟩) sLen sCap, x]).run P w =
      .ok (.slice (some ⟨g, 0, none⟩) (sLen + n) sCap) (w.setRow g (cur.toList.take (sLen * i.size) ++ news ++ cur.toList.drop (sLen * i.size + news.length)).toArray) := by
  have hst := run_storeCells_at P g (sLen * i.size) Ty news 0 cur w hg (by simpa using hfit) h1
  simp only [Nat.add_zero] at hst
  have hf := hs.first w rfl
  rcases hs.ty with ⟨e', hu⟩ | hu <;> simp [Builtin.append_, run_underlying ht, run_underlying hu, sizeOf, typeInfo, hi, hs.len, hroom, hf, add_mk, hst]

theorem app_grow {z : Value} (ht : P.underlying t = some (.slice e)) (hi : P.info? e = some i) (hzr : i.zero = some z) (hs : Src P w i.size u x n news) (b : Addr) (sLen sCap : Nat) (olds : List Value) (hlo : olds.length = sLen * i.size)
    (holds : ∀ j v, olds[j]? = some v → w.cell? (b.add j) = some v) (hg : sCap < sLen + n) (h63 : sLen + n ≤ 9223372036854775807) (hfit : (sLen + n) * i.bytes ≤ 140737488355328) :
    (Builtin.append_ #[t, u] tyr #[.slice (some b) sLen sCap, x]).run P w =
      .ok (.slice (some ⟨w.heap.size, 0, none⟩) (sLen + n) (grownCap w (sLen + n) sCap e))
        (w.drew.alloc (.cells (olds.toArray ++ news.toArray ++ Builtin.zeroCells z.cells (grownCap w (sLen + n) sCap e - (sLen + n))) e)) := by
  have hn : ¬ (sLen + n ≤ sCap) := by omega
  have h63' : ¬ (9223372036854775807 < ((sLen : Int) + (n : Int))) := by omega
  have h48' : ¬ (281474976710656 < Builtin.nextslicecap (sLen + n) sCap * i.bytes) := by
    have := growslice_fits (bytes := i.bytes) hg hfit; omega
  have hf := hs.first w.drew rfl
  have hfo := run_firstCells_some (P := P) w.drew i.size sLen b sLen sCap olds hlo (by simpa using holds)
  rcases hs.ty with ⟨e', hu⟩ | hu
  all_goals
    simp [Builtin.append_, run_underlying ht, run_underlying hu, sizeOf, typeInfo, zeroValue, hi, hzr, hs.len, hn, h63', h48', Question.forced, hf, hfo, newRow, grownCap]
    try (congr 2; apply Array.ext'; simp [List.append_assoc])

theorem app_nil {z : Value} (ht : P.underlying t = some (.slice e)) (hi : P.info? e = some i) (hzr : i.zero = some z) (hs : Src P w i.size u x n news)
    (h0 : 0 < n) (h63 : n ≤ 9223372036854775807) (hfit : n * i.bytes ≤ 140737488355328) :
    (Builtin.append_ #[t, u] tyr #[.slice none 0 0, x]).run P w =
      .ok (.slice (some ⟨w.heap.size, 0, none⟩) n (grownCap w n 0 e)) (w.drew.alloc (.cells (news.toArray ++ Builtin.zeroCells z.cells (grownCap w n 0 e - n)) e)) := by
  have hn : n ≠ 0 := by omega
  have h63' : ¬ (9223372036854775807 < (n : Int)) := by omega
  have h48' : ¬ (281474976710656 < Builtin.nextslicecap n 0 * i.bytes) := by rw [nextslicecap_zero h0]; omega
  have hf := hs.first w.drew rfl
  rcases hs.ty with ⟨e', hu⟩ | hu <;> simp [Builtin.append_, run_underlying ht, run_underlying hu, sizeOf, typeInfo, zeroValue, hi, hzr, hs.len, hn, h63', h48', Question.forced, run_firstCells_none, hf, newRow, grownCap]
end

theorem heap_setRow_other (w : World) (g : Nat) (cs : Array Value) (b : Nat) (h : b ≠ g) : (w.setRow g cs).heap[b]? = w.heap[b]? := by
  simp only [World.setRow, Array.getElem?_modify]
  rw [if_neg (by omega)]

theorem heap_setRow_same (w : World) (g : Nat) (cs cur : Array Value) (Ty : TypeId) (z : Nat × Nat) (h : w.heap[g]? = some (.cells cur Ty z)) : (w.setRow g cs).heap[g]? = some (.cells cs Ty z) := by
  simp only [World.setRow, Array.getElem?_modify, if_true, h, Option.map_some]

theorem Ext.setRow (w : World) (g : Nat) (cs cur : Array Value) (Ty : TypeId) (z : Nat × Nat) (h : w.heap[g]? = some (.cells cur Ty z)) (hs : cs.size = cur.size) : Ext (fun b => b < w.heap.size ∧ b ∉ [g]) w (w.setRow g cs) := by
  refine ⟨by simp [World.setRow], fun b hb => heap_setRow_other w g cs b (by simpa using hb.2), fun b c T z' hc => ?_⟩
  by_cases e : b = g
  · subst e
    rw [h] at hc
    cases hc
    exact ⟨cs, heap_setRow_same w b cs cur Ty z h, hs⟩
  · exact ⟨c, by rw [heap_setRow_other w g cs b e]; exact hc, rfl⟩

theorem Ext.drewAlloc (w : World) (o : Obj) (D : List Nat) : Ext (fun b => b < w.heap.size ∧ b ∉ D) w (w.drew.alloc o) := by
  obtain ⟨h1, h2, h3⟩ := Ext.alloc w.drew o D
  exact ⟨h1, h2, h3⟩

/-- the operand that is appended: its cells, and what it takes over -/
def srcA (os : List (Nat × Option (List AV))) (sz : Nat) : AV → Option (Nat × List AV)
  | .sl _ z l => bif z == sz && l.all (AV.elem sz) then some (l.length, l.flatMap AV.cells) else none
  | .arr b off len z => match O os b with
    | some cells => if z = sz ∧ AV.nownL ((cells.drop off).take (len * sz)) = true ∧ off + len * sz ≤ cells.length then some (len, (cells.drop off).take (len * sz)) else none
    | none => none
  | .v (.slice none 0 0) => some (0, [])
  | .str l => bif sz == 1 then some (l.length, l.map fun c => .v (.int .u8 c.toNat)) else none
  | _ => none

section
variable {L : Nat → Nat} {B : Nat → Prop} {F0 : Nat → Prop} {w0 : World} {F : Nat → Prop} {own : Nat → Own} {fp fs : Nat → List Nat} {s : AS} {a : Act} {w : World} {P : Program}

theorem src_of (h : DenAt L B F0 w0 F own fp fs s a w) {x : Operand} {sz n : Nat} {cells : List AV} {u : TypeId} (hs : srcA s.o sz (ev s.t x) = some (n, cells)) (hu : (∃ e', P.underlying u = some (.slice e')) ∨ P.underlying u = some .string) :
    ∃ news f, Src P w sz u (a.eval x) n news ∧ news.length = n * sz ∧ RepL L F w cells news f ∧ f.Nodup ∧ ∀ b, b ∈ f → ∃ i, i ∈ kills s.t [x] ∧ b ∈ fp i := by
  have hr := h.ev x
  have hn := fpo_nodup h x
  have hk := fpo_kills h (x := x) (xs := [x]) (by simp)
  cases hx : ev s.t x with
  | sl own' z l =>
    rw [hx] at hs hr
    simp only [srcA] at hs
    cases hc : (z == sz && l.all (AV.elem sz)) with
    | false => rw [hc] at hs; simp at hs
    | true =>
      rw [hc] at hs
      simp at hs hc
      obtain ⟨rfl, rfl⟩ := hs
      obtain ⟨rfl, hel⟩ := hc
      simp only [Rep] at hr
      rcases hr with ⟨hv | ⟨_, aa, hv⟩, rfl, hf⟩ | ⟨b, off, cap, vals, fp', hv, _, _, hrow, hE, hown⟩
      · refine ⟨[], [], ⟨hu, fun w' => by simp [hv, Builtin.lenOf], fun w' _ => by simp [hv, Builtin.firstCells]⟩, by simp, by simp [RepL], by simp, by simp⟩
      · refine ⟨[], [], ⟨hu, fun w' => by simp [hv, Builtin.lenOf], fun w' _ => by rw [hv]; exact run_firstCells_some (P := P) w' z 0 aa 0 0 [] (by simp) (by simp)⟩, by simp, by simp [RepL], by simp, by simp⟩
      · have hlen := hE.len
        refine ⟨vals, fp', ⟨hu, fun w' => by simp [hv, Builtin.lenOf], fun w' hw' => ?_⟩, hlen, hE.flat hel, ?_, ?_⟩
        · rw [hv]
          refine run_firstCells_some (P := P) w' z l.length ⟨b, off, none⟩ l.length cap vals hlen fun j v hj => ?_
          rw [add_mk]
          have := hrow.cell hj
          simpa [World.cell?, hw'] using this
        · rcases hown with ⟨_, e, _⟩ | ⟨_, _, e, _⟩
          · rw [e] at hn; exact (List.nodup_cons.1 hn).2
          · rw [e]; simp
        · intro b' hb'
          rcases hown with ⟨_, e, _⟩ | ⟨_, _, e, _⟩
          · exact hk b' (by rw [e]; simp [hb'])
          · rw [e] at hb'; simp at hb'
  | arr b off len z =>
    rw [hx] at hs hr
    simp only [srcA] at hs
    cases hO : O s.o b with
    | none => rw [hO] at hs; simp at hs
    | some cs =>
      rw [hO] at hs
      simp only at hs
      split at hs
      · rename_i hc
        obtain ⟨rfl, hnown, hle⟩ := hc
        simp at hs
        obtain ⟨rfl, rfl⟩ := hs
        simp only [Rep] at hr
        obtain ⟨_, cap, hv, _⟩ := hr
        obtain ⟨vals, f, hrow, hl, _⟩ := h.row hO off
        obtain ⟨f', hl', _⟩ := hl.cut 0 (len * z)
        simp only [List.drop_zero] at hl'
        have hf' := RepL.fp_nil hnown hl'
        subst hf'
        have hlen := hl'.len
        have hlen' : (vals.take (len * z)).length = len * z := by rw [hlen]; simp; omega
        refine ⟨vals.take (len * z), [], ⟨hu, fun w' => by simp [hv, Builtin.lenOf], fun w' hw' => ?_⟩, hlen', hl', by simp, by simp⟩
        rw [hv]
        refine run_firstCells_some (P := P) w' z len ⟨b, off, none⟩ len cap _ hlen' fun j v hj => ?_
        rw [add_mk]
        have := (hrow.cut 0 (len * z)).cell (i := j) (v := v) (by simpa using hj)
        simpa [World.cell?, hw'] using this
      · cases hs
  | v y =>
    rw [hx] at hs hr
    simp only [Rep] at hr
    cases y with
    | slice q len cap =>
      cases q with
      | some q => simp [srcA] at hs
      | none =>
        cases len with
        | succ _ => simp [srcA] at hs
        | zero =>
          cases cap with
          | succ _ => simp [srcA] at hs
          | zero =>
            simp [srcA] at hs
            obtain ⟨rfl, rfl⟩ := hs
            refine ⟨[], [], ⟨hu, fun w' => by simp [hr.1, Builtin.lenOf], fun w' _ => by simp [hr.1, Builtin.firstCells]⟩, by simp, by simp [RepL], by simp, by simp⟩
    | _ => simp [srcA] at hs
  | str st =>
    rw [hx] at hs hr
    simp only [Rep] at hr
    simp only [srcA] at hs
    cases hc : (sz == 1) with
    | false => rw [hc] at hs; simp at hs
    | true =>
      rw [hc] at hs
      simp at hs hc
      obtain ⟨rfl, rfl⟩ := hs
      subst hc
      refine ⟨st.map fun c => .int .u8 c.toNat, [], ⟨hu, fun w' => by simp [hr.1, Builtin.lenOf, ByteArray.size], fun w' _ => ?_⟩, by simp, ?_, by simp, by simp⟩
      · simp only [hr.1, Builtin.firstCells, Sem.run_pure]
        congr 1
        apply Array.ext'
        have he : (ByteArray.mk st.toArray).extract 0 st.length = ⟨st.toArray⟩ := by
          apply WideShapes.bytes_inj
          rw [ByteArray.data_extract]
          simp
        rw [he]; simp
      · have := RepL.plain (L := L) (F := F) (w := w) (st.map fun c => Value.int .u8 c.toNat)
        simpa [Function.comp_def, avz] using this
  | dead => rw [hx] at hs; simp [srcA] at hs
  | vp _ => rw [hx] at hs; simp [srcA] at hs
  | ptr _ _ => rw [hx] at hs; simp [srcA] at hs
  | agg _ => rw [hx] at hs; simp [srcA] at hs
  | tup _ => rw [hx] at hs; simp [srcA] at hs
  | fn _ _ => rw [hx] at hs; simp [srcA] at hs
  | cnd _ _ => rw [hx] at hs; simp [srcA] at hs
end
end Go.Ab
