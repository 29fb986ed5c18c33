/-
  Part of a proof: AbDa, AbPm, AbDl, AbAny.
-/
import Derived.Deep.RegionLaw
import Derived.WalkKit
import Derived.Orders
import Derived.Test.YtfglembdjbhanaaGreatDoorG15
set_option linter.unusedSimpArgs false
set_option linter.unusedVariables false
namespace Go.Ab
open Go.RowKit (Below)
section
variable {L : Nat → Nat} {P : Program} {n : Nat}

theorem LOp.more {t : List (Nat × AV)} {os os' : Sto} {o : Oper} {x : AV} {C : List Nat} (h : LOp L P ⟨n, t, os⟩ o x C) (ho : ∀ c cells, O os c = some cells → O os' c = some cells) : LOp L P ⟨n, t, os'⟩ o x C := by
  intro B F0 w0 F own fp fs a w next Q hd hnext
  exact h B F0 w0 F own fp fs a w next Q { hd with obj := fun b cells hb => hd.obj b cells (ho b cells hb) } hnext

def wA (D : List (AV × List Nat)) (b : Nat) : List (AV × List Nat) := D ++ [(.ptr b 0, [])]
def StA (L : Nat → Nat) (n : Nat) (ops : Array Oper) (D : List (AV × List Nat)) (t0 : List (Nat × AV)) (os : Sto) (cs : List AV) (B F0 : Nat → Prop) (w0 : World) (S : Nat → Bool) (a : Act) (w : World) : Prop :=
  ∃ b os', ((S D.length = false ∧ os' = os) ∨ (S D.length = true ∧ Fresh os b ∧ os' = (b, some cs) :: os)) ∧ Den L B F0 w0 ⟨n, runD ops (wA D b) t0 ((List.range (D.length + 1)).filter S), os'⟩ a w

def TailA (P : Program) (ops : Array Oper) (n : Nat) (o : Sto) (D : List (AV × List Nat)) (t : List (Nat × AV)) (R : List Nat → List (Nat × AV) → Sto → Prop) : Prop :=
  match ops[D.length]? with
  | some oa => match oa.op with
    | .alloc ty' => match zer P ty' with
      | some zs => oa.guard.isNone = true ∧ dstOK n oa.dst = true ∧ drawOK ops (D.map Prod.snd ++ [[]]) = true ∧
        ∀ b, nfO o b → R (List.range' (D.length + 1) (ops.size - (D.length + 1))) (upd oa (.ptr b 0) [] t) ((b, some (zs.map avz)) :: o)
      | none => False
    | _ => False
  | none => False

theorem TailA.out {ops : Array Oper} {o : Sto} {D : List (AV × List Nat)} {t : List (Nat × AV)} {R : List Nat → List (Nat × AV) → Sto → Prop} (h : TailA P ops n o D t R) :
    ∃ oa ty' zs, ops[D.length]? = some oa ∧ oa.guard = none ∧ oa.op = .alloc ty' ∧ dstOK n oa.dst = true ∧ zer P ty' = some zs ∧ drawOK ops (D.map Prod.snd ++ [[]]) = true ∧
      ∀ b, Fresh o b → R (List.range' (D.length + 1) (ops.size - (D.length + 1))) (upd oa (.ptr b 0) [] t) ((b, some (zs.map avz)) :: o) := by
  unfold TailA at h
  split at h
  · rename_i oa hoa
    split at h
    · rename_i ty' hop
      split at h
      · rename_i zs hz
        obtain ⟨h1, h2, h3, h4⟩ := h
        exact ⟨oa, ty', zs, hoa, by simpa using h1, hop, h2, hz, h3, fun b hb => h4 b hb.nf⟩
      · exact h.elim
    · exact h.elim
  · exact h.elim

section
variable {t : List (Nat × AV)} {o : Sto} {Q : Exit → AS → Prop} {id : Nat} {ops : Array Oper}
end
attribute [go_sem] TailA
end
end Go.Ab
namespace Go.Ab
section
variable {L : Nat → Nat} {n : Nat} {t : List (Nat × AV)} {o : Sto} {Q : AS → Prop}
end
end Go.Ab
namespace Go.Ab
open Go.RowKit (Below)

theorem list_cut3 {α : Type} (l : List α) {i j : Nat} (hij : i ≤ j) : l = l.take i ++ ((l.take j).drop i ++ l.drop j) := by
  have h1 : l.take i = (l.take j).take i := by rw [List.take_take, Nat.min_eq_left hij]
  rw [← List.append_assoc, h1, List.take_append_drop, List.take_append_drop]

def CutsW (P : Program) (f : FuncId) (sz : Nat) : Prop :=
  ∀ (w : World) (b n cap i j : Nat) (c : Array Value) (Ty : TypeId), w.heap[b]? = some (.cells c Ty (0, 0)) → n ≤ cap → cap * sz ≤ c.size → n ≤ 4611686018427387904 → i < j → j ≤ n → (∀ (k : Nat) (v : Value), k < n * sz → c[k]? = some v → v.oneCell' = true) →
    Calls P f #[.slice (some ⟨b, 0, none⟩) n cap, .int .i64 i, .int .i64 j] w fun e w' => e = .returned (.slice (some ⟨b, 0, none⟩) (n - (j - i)) cap) ∧
      ∃ c' : Array Value, w'.heap[b]? = some (.cells c' Ty (0, 0)) ∧ c'.size = c.size ∧ (∀ k, k < i * sz → c'[k]? = c[k]?) ∧ (∀ k, k < (n - j) * sz → c'[i * sz + k]? = c[j * sz + k]?) ∧ Kp (fun k => k < w.heap.size ∧ k ≠ b) w w'

theorem CutsW.ctr {L : Nat → Nat} {P : Program} {f : FuncId} {sz : Nat} (he : enters P f = true) (hf : CutsW P f sz) (hL : L sz ≤ 4611686018427387904) {b i j : Nat} {l : List AV} (hel : ∀ x, x ∈ l → x.elem sz = true) (hone : (l.flatMap AV.cells).all AV.one = true) :
    Ctr L P f [(b, some (l.flatMap AV.cells))] [.arr b 0 l.length sz, .v (.int .i64 i), .v (.int .i64 j)] (.sl true sz (l.take i ++ l.drop j)) [none] (i < j ∧ j ≤ l.length) := by
  refine ⟨he, ?_⟩
  rintro ⟨hij, hj⟩ B F own fs w vs hS hr
  obtain ⟨hkey, hnd, hfo, c, Ty, vals, rst, hc, hcl, hl⟩ := hS.obj b _ (O_eq b _ _)
  simp only [RepL, Rep] at hr
  obtain ⟨y1, _, _, _, rfl, _, ⟨_, cap, rfl, hncap, hnL, hblk⟩, y2, _, _, _, rfl, _, ⟨rfl, _⟩, y3, _, _, _, rfl, _, ⟨rfl, _⟩, rfl, _⟩ := hr
  obtain ⟨c0, Ty0, hc0, hcs⟩ := hblk
  rw [hc] at hc0; cases hc0
  rw [Nat.zero_add] at hcs
  have hlen := flat_elem_len hel
  have hvl := hl.len
  rw [hlen] at hvl
  have hget : ∀ k, k < vals.length → c[k]? = vals[k]? := fun k hk => by
    rw [← Array.getElem?_toList, hcl, List.getElem?_append_left hk]
  have e3 := list_cut3 l (Nat.le_of_lt hij)
  have hl' := hl
  rw [e3, List.flatMap_append, List.flatMap_append] at hl'
  obtain ⟨v1, v23, f1, f23, hv, hfs, r1, r23⟩ := hl'.split
  obtain ⟨v2, v3, f2, f3, rfl, rfl, r2, r3⟩ := r23.split
  have hel1 : ∀ x, x ∈ l.take i → x.elem sz = true := fun x hx => hel x (List.mem_of_mem_take hx)
  have hel2 : ∀ x, x ∈ (l.take j).drop i → x.elem sz = true := fun x hx => hel x (List.mem_of_mem_take (List.mem_of_mem_drop hx))
  have hel3 : ∀ x, x ∈ l.drop j → x.elem sz = true := fun x hx => hel x (List.mem_of_mem_drop hx)
  have n1 : v1.length = i * sz := by rw [r1.len, flat_elem_len hel1, List.length_take, Nat.min_eq_left (by omega)]
  have n2 : v2.length = (j - i) * sz := by rw [r2.len, flat_elem_len hel2, List.length_drop, List.length_take, Nat.min_eq_left hj]
  have n3 : v3.length = (l.length - j) * sz := by rw [r3.len, flat_elem_len hel3, List.length_drop]
  have hones := hl.ones hone
  refine (hf w b l.length cap i j c Ty hc hncap hcs (Nat.le_trans hnL hL) hij hj (fun k v hk hv' => ?_)).mono ?_
  · rw [hget k (by omega)] at hv'
    exact hones v (List.mem_of_getElem? hv')
  rintro e w' ⟨rfl, c', hc', hsz, h1, h2, hK⟩
  have hFS : ∀ k, F k → F k ∧ (k < w.heap.size ∧ k ≠ b) := fun k hk => ⟨hk, (hS.fl k hk).2.1, fun e => by have := (hS.fl k hk).1; rw [e, hkey] at this; cases this⟩
  have hsub : ∀ k, k ∈ f1 ∨ k ∈ f3 → k ∈ fs b := fun k hk => by rw [hfs]; rcases hk with h | h <;> simp [h]
  have hin : ∀ k, k ∈ f1 ∨ k ∈ f3 → k < w.heap.size ∧ k ≠ b := fun k hk => by
    have := hfo k (hsub k hk)
    exact ⟨(hS.ol k (by rw [this]; simp)).2, fun e => by rw [e, hkey] at this; cases this⟩
  have hext : Ext (fun k => k < w.heap.size ∧ k ≠ b) w w' := ⟨hK.size, hK.block, hK.shape⟩
  have q1 := RepL.ext hext hFS (fun k hk => hin k (.inl hk)) r1
  have q3 := RepL.ext hext hFS (fun k hk => hin k (.inr hk)) r3
  have hbB : ¬ B b := (hS.ol b (by rw [hkey]; simp)).1
  have hbw : b < w.heap.size := (hS.ol b (by rw [hkey]; simp)).2
  have hnd2 : f1.Nodup ∧ f3.Nodup ∧ ∀ a ∈ f1, ∀ a' ∈ f3, a ≠ a' := by
    rw [hfs, List.nodup_append, List.nodup_append] at hnd
    exact ⟨hnd.1, hnd.2.1.2.1, fun a ha a' ha' => hnd.2.2 a ha a' (by simp [ha'])⟩
  have hll : (l.take i ++ l.drop j).length = l.length - (j - i) := by
    rw [List.length_append, List.length_take, List.length_drop]; omega
  have ho : ∀ k, k ∈ b :: (f1 ++ f3) → ¬ B k ∧ k < w.heap.size ∧ ¬ F k := fun k hk => by
    have : own k ≠ .none := by
      rcases List.mem_cons.1 hk with rfl | hk
      · rw [hkey]; simp
      · rw [hfo k (hsub k (List.mem_append.1 hk))]; simp
    exact ⟨(hS.ol k this).1, (hS.ol k this).2, fun hF => this (hS.fl k hF).1⟩
  classical
  refine ⟨_, _, [(b, none)], F, fun k => if k ∈ b :: (f1 ++ f3) then .slot 0 else .none, fun _ => [], b :: (f1 ++ f3), rfl, ⟨rfl, rfl⟩, { below := hK.mono fun k hk => ⟨hS.hB k hk, fun e => hbB (e ▸ hk)⟩, hB := fun k hk => Nat.lt_of_lt_of_le (hS.hB k hk) hK.size, tb := hS.tb, f0 := hS.f0, fl := fun k hk => ⟨?_, Nat.lt_of_lt_of_le (hS.fl k hk).2.1 hK.size, (hS.fl k hk).2.2⟩, ol := fun k hk => ?_, obj := ?_ }, ?_, ?_, fun k hk => if_pos hk⟩
  · rw [if_neg fun hm => (ho k hm).2.2 hk]
  · by_cases hm : k ∈ b :: (f1 ++ f3)
    · exact ⟨(ho k hm).1, Nat.lt_of_lt_of_le (ho k hm).2.1 hK.size⟩
    · rw [if_neg hm] at hk; exact absurd rfl hk
  · intro q cs hq
    simp only [O] at hq
    split at hq <;> cases hq
  · simp only [Rep]
    refine .inr ⟨b, 0, cap, v1 ++ v3, f1 ++ f3, by rw [hll], by rw [hll]; omega, by rw [hll]; omega, ⟨c', Ty, _, hc', fun k hk => ?_⟩, RepL.unflat (fun x hx => ?_) ?_, .inl ⟨by trivial, rfl, rfl, c', Ty, hc', by omega⟩⟩
    · rw [Nat.zero_add]
      rw [List.length_append, n1, n3] at hk
      by_cases hk1 : k < i * sz
      · rw [h1 k hk1, List.getElem?_append_left (by omega), hget k (by rw [hv]; simp only [List.length_append]; omega), hv, List.getElem?_append_left (by omega)]
      · have e4 := h2 (k - i * sz) (by omega)
        rw [show i * sz + (k - i * sz) = k by omega] at e4
        have hjj : j * sz = i * sz + (j - i) * sz := by rw [← Nat.add_mul]; congr 1; omega
        rw [e4, List.getElem?_append_right (by omega), hget _ (by rw [hv]; simp only [List.length_append]; omega), hv, List.getElem?_append_right (by omega), List.getElem?_append_right (by omega)]
        congr 1
        omega
    · rcases List.mem_append.1 hx with hx | hx
      · exact hel1 x hx
      · exact hel3 x hx
    · rw [List.flatMap_append]; exact q1.join q3
  · rw [List.nodup_cons, List.nodup_append]
    refine ⟨fun hm => ?_, hnd2.1, hnd2.2.1, hnd2.2.2⟩
    exact (hin b (List.mem_append.1 hm)).2 rfl
end Go.Ab
namespace Go.Ab
open Go.RowKit (Below)
def nrm (R : Act → World → Prop) : Exit → Act → World → Prop := fun e a w => e = .normal ∧ R a w
def AnyW (L : Nat → Nat) (P : Program) (ops : Array Oper) (fuel : Nat) (listed : Array Bool) (s : AS) (K : AS → Prop) : Prop :=
  ∀ B F0 w0 a w (R : Act → World → Prop), Den L B F0 w0 s a w → (∀ s' a' w', K s' → Den L B F0 w0 s' a' w' → R a' w') → wpAny P .any ops (nrm R) fuel listed a w

section
variable {L : Nat → Nat} {P : Program} {ops : Array Oper} {n fuel : Nat} {listed : Array Bool} {t : List (Nat × AV)} {os : Sto} {K : AS → Prop}

theorem AnyW.done (hr : Region.ready .any ops listed = []) (h : K ⟨n, t, os⟩) : AnyW L P ops fuel listed ⟨n, t, os⟩ K :=
  fun B F0 w0 a w R hd hR => wpAny_done hr ⟨rfl, hR _ _ _ h hd⟩ fuel

theorem AnyW.doneK (live : List Nat) (o0 : Sto) (hr : Region.ready .any ops listed = []) (ho : subO o0 os) (h : K ⟨n, keepT t live, o0⟩) : AnyW L P ops fuel listed ⟨n, t, os⟩ K :=
  fun B F0 w0 a w R hd hR => wpAny_done hr ⟨rfl, hR _ _ _ h (hd.weaken rfl (T_keep t live) fun _ _ hb => subO_O ho hb)⟩ fuel

def allR (L : Nat → Nat) (P : Program) (ops : Array Oper) (n fuel : Nat) (listed : Array Bool) (t : List (Nat × AV)) (os : Sto) (K : AS → Prop) : List Nat → Prop
  | [] => True
  | i :: rs => (match ops[i]? with
    | some o => (o.guard = none ∧ dstOK n o.dst = true) ∧ nvc L P os t o.dst o.op (fun t' os' => AnyW L P ops fuel (listed.setIfInBounds i true) ⟨n, t', os'⟩ K)
    | none => False) ∧ allR L P ops n fuel listed t os K rs

theorem allR_mem : ∀ {rs : List Nat}, allR L P ops n fuel listed t os K rs → ∀ i, i ∈ rs → ∃ o, ops[i]? = some o ∧ o.guard = none ∧ dstOK n o.dst = true ∧ nvc L P os t o.dst o.op (fun t' os' => AnyW L P ops fuel (listed.setIfInBounds i true) ⟨n, t', os'⟩ K)
  | [], _, i, hi => by simp at hi
  | j :: rs, h, i, hi => by
    simp only [allR] at h
    rcases List.mem_cons.1 hi with rfl | hi
    · have h1 := h.1
      split at h1
      · rename_i o ho
        exact ⟨o, ho, h1.1.1, h1.1.2, h1.2⟩
      · exact h1.elim
    · exact allR_mem h.2 i hi

theorem AnyW.step (rs : List Nat) (hr : Region.ready .any ops listed = rs) (hne : rs ≠ []) (h : allR L P ops n fuel listed t os K rs) : AnyW L P ops (fuel + 1) listed ⟨n, t, os⟩ K := by
  intro B F0 w0 a w R hd hR
  refine wpAny_all hr hne fun i hi => ?_
  obtain ⟨o, ho, hg, hdst, hn⟩ := allR_mem h i hi
  unfold wpOp
  simp only [ho]
  have hw : Region.wanted o (yielded ops a.tmps) = true := by simp [Region.wanted, hg]
  rw [if_pos hw]
  refine .inl (nvc_sound hdst hn B F0 w0 a w _ _ hd fun s' a' w' hs hd' => ?_)
  obtain ⟨hn', hK⟩ := hs
  obtain ⟨n', t', o'⟩ := s'
  simp only at hn' hK
  subst hn'
  exact hK B F0 w0 a' w' R hd' hR

def fixV (P : Program) (t : List (Nat × AV)) : Op → Option (AV × Value)
  | .fieldAddr xt x k => match ev t x, fld P xt k with
    | .ptr b o, some (off, _, m) => bif Nat.blt 0 m then some (.ptr b (o + off), .pointer (some ⟨b, o + off, none⟩)) else none
    | _, _ => none
  | .move x => match ev t x with
    | .v u => some (.v u, u)
    | _ => none
  | _ => none

theorem AnyW.take (i : Nat) {oi : Oper} {x : AV} {u : Value} (hi : ops[i]? = some oi) (hs : Region.noSelect ops = true) (hf : Region.free .any ops listed i = true) (hr : (Region.ready .any ops listed).contains i = true)
    (hg : oi.guard = none) (hd : dstOK n oi.dst = true) (hx : fixV P t oi.op = some (x, u)) (h : AnyW L P ops fuel (listed.setIfInBounds i true) ⟨n, put t oi.dst x, os⟩ K) : AnyW L P ops (fuel + 1) listed ⟨n, t, os⟩ K := by
  intro B F0 w0 a w R hden hR
  have hw : Region.wanted oi (yielded ops a.tmps) = true := by simp [Region.wanted, hg]
  obtain ⟨F, own, fp, fs, hD⟩ := hden
  have key : (∀ w : World, (execOp a.eval oi).run P w = .ok (.value u) w) ∧ ∀ F' w', Rep L F' w' x u [] := by
    unfold fixV at hx
    split at hx
    · rename_i xt y k hop
      split at hx
      · rename_i b o off _ m hy hfl
        cases hm : Nat.blt 0 m with
        | false => rw [hm] at hx; cases hx
        | true =>
          rw [hm] at hx; cases hx
          obtain ⟨fs', f, hu, hk, ht, rfl⟩ := fld_inv hfl
          have hn' : ¬ m = 0 := by simp at hm; omega
          have hr := hD.ev y
          rw [hy] at hr
          simp only [Rep] at hr
          refine ⟨fun w => ?_, fun F' w' => by simp [Rep]⟩
          obtain ⟨ha, hs⟩ := ty_run ht w
          simp [execOp, hop, hr.1, Instr.fieldAt, run_underlying hu, hk, Instr.sureAddr, fieldPlace, hs, hn', add_mk]
      · cases hx
    · rename_i y hop
      split at hx
      · rename_i v hy
        cases hx
        have hr := hD.ev y
        rw [hy] at hr
        simp only [Rep] at hr
        exact ⟨fun w => by simp [execOp, hop, hr.1], fun F' w' => by simp [Rep]⟩
      · cases hx
    · cases hx
  refine wpAny_take hi hs hf hr (fun c a w h => by cases h.1) (.inl ⟨hw, key.1⟩) ?_
  refine h B F0 w0 _ w R ?_ hR
  have := hD.put (x := x) (v := u) (fx := []) [] oi.dst hd (w' := w) (F' := F) (Kp.refl _ _) (fun _ h => h) (fun b h => .inl h) (key.2 F w) (by simp) (by simp)
  simpa [killL] using this
end

theorem AW.any {L : Nat → Nat} {P : Program} {ops : Array Oper} {n id : Nat} {t : List (Nat × AV)} {os : Sto} {Q : Exit → AS → Prop} (hm : P.follows .mixedOrders = true)
    (h : AnyW L P ops ops.size (Array.replicate ops.size false) ⟨n, t, os⟩ (fun s' => Q .normal s')) : AW L P (.region id ops true) ⟨n, t, os⟩ Q := by
  intro B F0 w0 a w hd
  refine wp_mono (wp_region_any (id := id) hm (h B F0 w0 a _ (fun a' w' => ∃ s', Q .normal s' ∧ Den L B F0 w0 s' a' w') hd.drew fun s' a' w' h1 h2 => ⟨s', h1, h2⟩)) ?_
  rintro e a' w' ⟨rfl, h⟩
  exact h
theorem AW.anyT {L : Nat → Nat} {P : Program} {ops : Array Oper} {n id : Nat} {t : List (Nat × AV)} {os : Sto} {Q : Exit → AS → Prop} (t0 : List (Nat × AV)) (o0 : Sto) (hm : P.follows .mixedOrders = true)
    (h : ∀ K : AS → Prop, K ⟨n, t0, o0⟩ → AnyW L P ops ops.size (Array.replicate ops.size false) ⟨n, t, os⟩ K) (h2 : Q .normal ⟨n, t0, o0⟩) : AW L P (.region id ops true) ⟨n, t, os⟩ Q :=
  AW.any hm (h _ h2)
end Go.Ab
