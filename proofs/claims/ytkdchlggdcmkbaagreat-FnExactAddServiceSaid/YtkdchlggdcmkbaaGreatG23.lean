/-
  Part of a proof: AbDa, AbPm, AbDl, AbAny, AbInc, AbFz.
-/
import Derived.Deep.RegionLaw
import Derived.WalkKit
import Derived.Orders
import Derived.Test.YtkdchlggdcmkbaaGreatG0
import Derived.Test.YtkdchlggdcmkbaaGreatG19
set_option linter.unusedSimpArgs false
set_option linter.unusedVariables false
namespace Go.Ab
open Go.RowKit (Below)
section
variable {L : Nat → Nat} {P : Program} {n : Nat}

theorem LOp.more {t : List (Nat × AV)} {os os' : Sto} {o : Oper} {x : AV} {C : List Nat} (h : LOp L P ⟨n, t, os⟩ o x C) (ho : ∀ c cells, O os c = some cells → O os' c = some cells) : LOp L P ⟨n, t, os'⟩ o x C := by
  intro B F0 w0 F own fp fs a w next Q hd hnext
  exact h B F0 w0 F own fp fs a w next Q { hd with obj := fun b cells hb => hd.obj b cells (ho b cells hb) } hnext

theorem alloc_soundF {t : List (Nat × AV)} {os : Sto} {o : Oper} {ty' : TypeId} {zs : List Value} (hop : o.op = .alloc ty') (hd : dstOK n o.dst = true) (hz : zer P ty' = some zs) :
    OpW L P o ⟨n, t, os⟩ (fun s' => ∃ b, Fresh os b ∧ s' = ⟨n, upd o (.ptr b 0) [] t, (b, some (zs.map avz)) :: os⟩) := by
  intro B F0 w0 a w next Q hden hnext
  have hfr : Fresh os w.heap.size := by obtain ⟨F, own, fp, fs, hd'⟩ := hden; exact hd'.fresh
  obtain ⟨F, own, fp, fs, hD⟩ := hden
  obtain ⟨z, hzc, hzr⟩ := zer_run hz
  have hrun : (execOp a.eval o).run P w = .ok (.value (.pointer (some ⟨w.heap.size, 0, none⟩))) (w.alloc (.cells z.cells ty')) := by
    simp [execOp, hop, Instr.alloc, hzr, newVar, newRow]
  unfold Oper.wp
  rw [hrun]
  refine hnext ⟨n, upd o (.ptr w.heap.size 0) [] t, (w.heap.size, some (zs.map avz)) :: os⟩ _ _ ⟨_, hfr, rfl⟩ ?_
  exact hD.renew [] [] w.heap.size (zs.map avz) [] o.dst hd ⟨rfl, rfl, rfl⟩ (Ext.alloc w _ []) (by simp) (.inr ⟨Nat.le_refl _, by simp⟩)
    ⟨z.cells, ty', zs, [], alloc_at w _, by simp [hzc], RepL.plain zs⟩ (by simp) (by simp) (by simp [Rep])

theorem runD_ext (ops : Array Oper) {D D' : List (AV × List Nat)} : ∀ (l : List Nat) (t : List (Nat × AV)), (∀ i, i ∈ l → D[i]? = D'[i]?) → runD ops D t l = runD ops D' t l
  | [], t, _ => rfl
  | i :: l, t, h => by
    simp only [runD]
    rw [h i (by simp)]
    exact runD_ext ops l _ fun k hk => h k (by simp [hk])

def wA (D : List (AV × List Nat)) (b : Nat) : List (AV × List Nat) := D ++ [(.ptr b 0, [])]
theorem wA_snd (D : List (AV × List Nat)) (b : Nat) : (wA D b).map Prod.snd = D.map Prod.snd ++ [[]] := by simp [wA]
theorem wA_len (D : List (AV × List Nat)) (b : Nat) : (wA D b).length = D.length + 1 := by simp [wA]
theorem wA_lt {D : List (AV × List Nat)} {b i : Nat} (h : i < D.length) : (wA D b)[i]? = D[i]? := List.getElem?_append_left h
theorem wA_at (D : List (AV × List Nat)) (b : Nat) : (wA D b)[D.length]? = some (.ptr b 0, []) := by simp [wA]
theorem wA_run (ops : Array Oper) (D : List (AV × List Nat)) (b : Nat) (t : List (Nat × AV)) {j : Nat} (h : j ≤ D.length) : runD ops (wA D b) t (List.range j) = runD ops D t (List.range j) :=
  runD_ext ops _ _ fun i hi => wA_lt (by simp at hi; omega)

def StA (L : Nat → Nat) (n : Nat) (ops : Array Oper) (D : List (AV × List Nat)) (t0 : List (Nat × AV)) (os : Sto) (cs : List AV) (B F0 : Nat → Prop) (w0 : World) (S : Nat → Bool) (a : Act) (w : World) : Prop :=
  ∃ b os', ((S D.length = false ∧ os' = os) ∨ (S D.length = true ∧ Fresh os b ∧ os' = (b, some cs) :: os)) ∧ Den L B F0 w0 ⟨n, runD ops (wA D b) t0 ((List.range (D.length + 1)).filter S), os'⟩ a w

theorem go_allA {ops : Array Oper} {os : Sto} {t0 : List (Nat × AV)} {D : List (AV × List Nat)} {K : AS → Prop} {B : Nat → Prop} {F0 : Nat → Prop} {w0 : World} {Q : Exit → Act → World → Prop} {oa : Oper} {ty' : TypeId} {zs : List Value} (hF : DrawFacts ops (D.map Prod.snd ++ [[]]))
    (hoa : ops[D.length]? = some oa) (hga : oa.guard = none) (hop : oa.op = .alloc ty') (hda : dstOK n oa.dst = true) (hz : zer P ty' = some zs)
    (hst : ∀ j o d, ops[j]? = some o → D[j]? = some d → StepOK L P ops n os (runD ops D t0 (List.range j)) o d.1 d.2)
    (htl : ∀ b, Fresh os b → OpsW L P ops (List.range' (D.length + 1) (ops.size - (D.length + 1))) ⟨n, upd oa (.ptr b 0) [] (runD ops D t0 (List.range D.length)), (b, some (zs.map avz)) :: os⟩ K) (hQ : ∀ s' a' w', K s' → Den L B F0 w0 s' a' w' → Q .normal a' w') :
    ∀ (fuel t : Nat) (listed : Array Bool) (acc : List Nat), listed.size = ops.size → Closed ops (fun i => listed.getD i false = true) → (∀ j, D.length + 1 ≤ j → listed.getD j false = false) → ((List.range ops.size).filter fun i => !listed.getD i false).length ≤ fuel →
    ∃ rest, Region.linearise.go .any ops fuel t listed acc = acc.reverse ++ rest ∧ ∀ a w, StA L n ops D t0 os (zs.map avz) B F0 w0 (fun i => listed.getD i false) a w → wpOps P ops Q rest a w := by
  intro fuel
  have hDle : D.length + 1 ≤ ops.size := by have := hF.le; simpa using this
  have hend : ∀ (listed : Array Bool), (∀ i, i < D.length + 1 → listed.getD i false = true) → ∀ a w, StA L n ops D t0 os (zs.map avz) B F0 w0 (fun i => listed.getD i false) a w → wpOps P ops Q (List.range' (D.length + 1) (ops.size - (D.length + 1))) a w := by
    rintro listed hall a w ⟨b, os', hor, hd⟩
    rcases hor with ⟨h, _⟩ | ⟨_, hb, rfl⟩
    · have h : listed.getD D.length false = false := h
      rw [hall D.length (by omega)] at h; cases h
    have hfil : (List.range (D.length + 1)).filter (fun i => listed.getD i false) = List.range (D.length + 1) := by
      rw [List.filter_eq_self]; intro i hi; exact hall i (by simpa using hi)
    rw [hfil, List.range_succ, runD_snoc, hoa, wA_at, wA_run ops D b t0 (Nat.le_refl _)] at hd
    exact htl b hb B F0 w0 a w Q hd hQ
  induction fuel with
  | zero =>
    intro t listed acc hs hS hno hcnt
    have hnil : (List.range ops.size).filter (fun i => !listed.getD i false) = [] := List.eq_nil_of_length_eq_zero (by omega)
    rw [List.filter_eq_nil_iff] at hnil
    have hall : ∀ i, i < ops.size → listed.getD i false = true := fun i hi => by simpa using hnil i (by simpa using hi)
    have hD : D.length + 1 = ops.size := by
      rcases Nat.lt_or_ge (D.length + 1) ops.size with h | h
      · have := hall (D.length + 1) h; rw [hno (D.length + 1) (Nat.le_refl _)] at this; cases this
      · omega
    refine ⟨[], by simp [Region.linearise.go], fun a w hd => ?_⟩
    have := hend listed (fun i hi => hall i (by omega)) a w hd
    rw [show ops.size - (D.length + 1) = 0 by omega] at this
    exact this
  | succ fuel ih =>
    intro t listed acc hs hS hno hcnt
    by_cases hall : ∀ i, i < D.length + 1 → listed.getD i false = true
    · refine ⟨List.range' (D.length + 1) (ops.size - (D.length + 1)), ?_, hend listed hall⟩
      refine go_tail hF (fuel + 1) t (D.length + 1) acc listed (by simp) hDle hs (fun i => ?_) ?_
      · by_cases e : i < D.length + 1
        · rw [hall i e]; simp [e]
        · rw [hno i (by omega)]; simp [e]
      · refine Nat.le_trans ?_ hcnt
        have hsplit : List.range ops.size = List.range (D.length + 1) ++ (List.range (ops.size - (D.length + 1))).map (D.length + 1 + ·) := by
          rw [← List.range_add]; congr 1; omega
        rw [hsplit, List.filter_append, List.length_append]
        have : ((List.range (ops.size - (D.length + 1))).map (D.length + 1 + ·)).filter (fun i => !listed.getD i false) = (List.range (ops.size - (D.length + 1))).map (D.length + 1 + ·) := by
          rw [List.filter_eq_self]; intro i hi
          simp only [List.mem_map, List.mem_range] at hi
          obtain ⟨q, _, rfl⟩ := hi
          rw [hno _ (by omega)]; rfl
        rw [this]; simp
    · have hex : ∃ i, i < D.length + 1 ∧ listed.getD i false = false := by
        rcases Classical.em (∃ i, i < D.length + 1 ∧ listed.getD i false = false) with h | h
        · exact h
        · exact absurd (fun i hi => by
            rcases hb : listed.getD i false with _ | _
            · exact absurd ⟨i, hi, hb⟩ h
            · rfl) hall
      have hmin := least hex
      obtain ⟨i0, ⟨hi0, hl0⟩, hmin⟩ := hmin
      have hr0 : ready ops listed i0 = true := by
        refine (ready_iff hF.dep hs (by omega)).2 ⟨hl0, fun e he => ?_⟩
        have hlt := hF.edge i0 _ (Array.getElem?_eq_getElem (by omega)) e he
        rcases hb : listed.getD e.on false with _ | _
        · have := hmin e.on ⟨by omega, hb⟩; omega
        · rfl
      have hmem0 : i0 ∈ (List.range ops.size).filter (ready ops listed) := List.mem_filter.2 ⟨by simp; omega, hr0⟩
      have hpos : 0 < ((List.range ops.size).filter (ready ops listed)).length := List.length_pos_of_mem hmem0
      have hlt := Nat.mod_lt t hpos
      rw [go_succ, List.getElem?_eq_getElem hlt]
      have hmemj : ((List.range ops.size).filter (ready ops listed))[t % ((List.range ops.size).filter (ready ops listed)).length] ∈ (List.range ops.size).filter (ready ops listed) := List.getElem_mem hlt
      generalize ((List.range ops.size).filter (ready ops listed))[t % ((List.range ops.size).filter (ready ops listed)).length] = j at hmemj
      obtain ⟨hjn, hrj⟩ := List.mem_filter.1 hmemj
      simp only [List.mem_range] at hjn
      obtain ⟨hlj, hej⟩ := (ready_iff hF.dep hs hjn).1 hrj
      have hoj : ops[j]? = some ops[j] := Array.getElem?_eq_getElem hjn
      have hjD : j < D.length + 1 := by
        rcases Nat.lt_or_ge j (D.length + 1) with h | h
        · exact h
        · have hb := hF.tail i0 j (by omega) hjn (by simpa using h)
          have := before_mem hS hoj hb hej
          rw [hl0] at this; cases this
      have hS' : ∀ i, (listed.setIfInBounds j true).getD i false = (listed.getD i false || i == j) := set_getD (by omega)
      obtain ⟨rest, hrest, hwp⟩ := ih (t / ((List.range ops.size).filter (ready ops listed)).length) (listed.setIfInBounds j true) (j :: acc) (by simpa using hs) (by
        intro i o hi ho e he
        rw [hS'] at hi ⊢
        simp only [Bool.or_eq_true] at hi ⊢
        rcases hi with hi | hi
        · exact .inl (hS i o hi ho e he)
        · have : i = j := by simpa using hi
          subst this
          rw [hoj] at ho; cases ho
          exact .inl (hej e he)) (by
        intro i hi
        rw [hS', hno i hi]
        have : (i == j) = false := by simp; omega
        rw [this]; rfl) (by
        have := filter_lt (p := fun i => !listed.getD i false) (q := fun i => !(listed.setIfInBounds j true).getD i false) (fun i hi => by
          rw [hS'] at hi; simp only [Bool.not_or, Bool.and_eq_true] at hi; exact hi.1) (List.range ops.size) ⟨j, by simpa using hjn, by rw [hlj]; rfl, by rw [hS']; simp⟩
        omega)
      refine ⟨j :: rest, by dsimp only; rw [hrest]; simp, fun a w hd => ?_⟩
      obtain ⟨b, os', hor, hd⟩ := hd
      have hFb : ∀ b, DrawFacts ops ((wA D b).map Prod.snd) := fun b => by rw [wA_snd]; exact hF
      rcases Nat.lt_or_ge j D.length with hjm | hjm
      · -- one of the drawn
        have hdj : D[j]? = some D[j] := List.getElem?_eq_getElem hjm
        have hdj' : (wA D b)[j]? = some D[j] := by rw [wA_lt hjm]; exact hdj
        have hSt := hst j ops[j] D[j] hoj hdj
        rw [← wA_run ops D b t0 (Nat.le_of_lt hjm)] at hSt
        have hSm : (listed.setIfInBounds j true).getD D.length false = listed.getD D.length false := by
          rw [hS']
          have : (D.length == j) = false := by simp; omega
          rw [this, Bool.or_false]
        have hmore : ∀ c cells, O os c = some cells → O os' c = some cells := by
          intro c cells hc
          rcases hor with ⟨_, rfl⟩ | ⟨_, hb, rfl⟩
          · exact hc
          · have := hb c cells hc
            simp only [O]
            rw [if_neg (by simpa using fun e => this e.symm)]
            exact hc
        have hslots : ∀ k, k ∈ slotsOf ops ops[j] → T (runD ops (wA D b) t0 ((List.range (D.length + 1)).filter fun i => listed.getD i false)) k = T (runD ops (wA D b) t0 (List.range j)) k := fun k hk => by
          have := slot_eq (hFb b) hS hoj (by rw [wA_len]; omega) hlj hej t0 hk
          rwa [wA_len] at this
        have hnext : ∀ a' w', Den L B F0 w0 ⟨n, upd ops[j] D[j].1 D[j].2 (runD ops (wA D b) t0 ((List.range (D.length + 1)).filter fun i => listed.getD i false)), os'⟩ a' w' → wpOps P ops Q rest a' w' := fun a' w' h' => by
          refine hwp a' w' ⟨b, os', by show (_ = false ∧ _) ∨ (_ = true ∧ _); simp only [hSm]; exact hor, ?_⟩
          have := step_eq (hFb b) hS hoj hdj' hlj hS' t0
          rw [wA_len] at this
          exact DenAt.congr h' this
        have hop' : LOp L P ⟨n, keepT (runD ops (wA D b) t0 (List.range j)) (slotsOf ops ops[j]), os⟩ ops[j] D[j].1 D[j].2 → (ops[j]).wp P a w (wpOps P ops Q rest) Q := fun hl =>
          ((hl.of_keep hslots hSt.sub).more hmore).opW hSt.dst (K := fun s' => s' = ⟨n, upd ops[j] D[j].1 D[j].2 (runD ops (wA D b) t0 ((List.range (D.length + 1)).filter fun i => listed.getD i false)), os'⟩) rfl B F0 w0 a w _ Q hd fun s' a' w' e h' => by
            subst e; exact hnext a' w' h'
        rcases hSt.run with ⟨hg, hl⟩ | ⟨gi, want, oj, d, G, g, x0, hg, hgi, hgd, hgl, hT, hx, hC, h1⟩
        · simp only [wpOps, hoj]
          rw [if_pos (by simp [Region.wanted, hg])]
          exact .inl (hop' hl)
        · have hk : d ∈ slotsOf ops ops[j] := by simp [slotsOf, hg, hgi, hgd]
          have hy := yielded_of hd hgi hgd (by rw [hslots d hk]; exact hT) hgl
          simp only [wpOps, hoj, Region.wanted, hg, hy]
          cases hw : (G && (g == want)) with
          | true =>
            have hl := (h1 hw).cnd
            rw [hw] at hx
            rw [← hx, ← hC] at hl
            simp at hw
            obtain ⟨rfl, rfl⟩ := hw
            rw [if_pos (by simp)]
            exact .inl (hop' hl)
          | false =>
            rw [if_neg (by cases G <;> simp_all)]
            refine hnext _ _ ?_
            obtain ⟨F, own, fp, fs, h⟩ := hd
            have := h.put (x := .cnd false x0) (v := undef) (fx := []) [] (ops[j]).dst hSt.dst (Kp.refl _ _) (fun _ h => h) (fun _ h => .inl h) (by simp [Rep]) (by simp) (by simp)
            rw [hx, hC, hw]
            exact this
      · -- the object
        have hj : j = D.length := by omega
        subst hj
        have he : ops[D.length] = oa := by rw [hoj] at hoa; exact Option.some.inj hoa
        rcases hor with ⟨_, rfl⟩ | ⟨h, _⟩
        · simp only [wpOps, hoj]
          rw [if_pos (by simp [Region.wanted, he, hga])]
          refine .inl ?_
          rw [he]
          refine alloc_soundF (L := L) hop hda hz B F0 w0 a w _ Q hd ?_
          rintro s' a' w' ⟨b', hb', rfl⟩ h'
          refine hwp a' w' ⟨b', _, .inr ⟨by simp only [hS']; simp, hb', rfl⟩, ?_⟩
          have h2 := step_eq (hFb b') hS hoj (wA_at D b') hlj hS' t0
          rw [wA_len, he] at h2
          refine DenAt.congr h' fun k => ?_
          rw [← h2 k]
          congr 2
          refine runD_ext ops _ _ fun i hi => ?_
          rw [List.mem_filter, List.mem_range] at hi
          have hne : i ≠ D.length := fun e => by rw [e, hlj] at hi; exact absurd hi.2 (by simp)
          rw [wA_lt (by omega), wA_lt (by omega)]
        · simp only [hlj] at h; cases h

theorem AW.drawA {s : AS} {Q : Exit → AS → Prop} {id : Nat} {ops : Array Oper}
    (h : DrawG L P ops s.n s.o (fun t D => ∃ oa ty' zs, ops[D.length]? = some oa ∧ oa.guard = none ∧ oa.op = .alloc ty' ∧ dstOK s.n oa.dst = true ∧ zer P ty' = some zs ∧ drawOK ops (D.map Prod.snd ++ [[]]) = true ∧
      ∀ b, Fresh s.o b → OpsW L P ops (List.range' (D.length + 1) (ops.size - (D.length + 1))) ⟨s.n, upd oa (.ptr b 0) [] t, (b, some (zs.map avz)) :: s.o⟩ (fun s' => Q .normal s')) 0 s.t []) :
    AW L P (.region id ops true) s Q := by
  intro B F0 w0 a w hd
  obtain ⟨D, ⟨oa, ty', zs, hoa, hga, hop, hda, hz, hok, htl⟩, hst⟩ := h.inv (t0 := s.t) rfl rfl (by simp)
  have hF := drawOK_facts hok
  refine wp_region_draw fun t => ?_
  have hsch : ∀ mixed, Region.schedule mixed ops t = Region.linearise .any ops t := by
    intro mixed; simp [Region.schedule, hF.dep]
  rw [hsch]
  have hre : ∀ i, (Array.replicate ops.size false).getD i false = false := by
    intro i
    rw [Array.getD_eq_getD_getElem?, Array.getElem?_replicate]
    split <;> rfl
  obtain ⟨rest, hrest, hwp⟩ := go_allA (Q := fun e a' w' => ∃ s', Q e s' ∧ Den L B F0 w0 s' a' w') (B := B) (F0 := F0) (w0 := w0) hF hoa hga hop hda hz hst htl (fun s' a' w' h1 h2 => ⟨s', h1, h2⟩) ops.size t (Array.replicate ops.size false) [] (by simp) (by
    intro j o hj
    rw [hre] at hj; cases hj) (fun j _ => hre j) (by
    have := List.length_filter_le (fun i => !(Array.replicate ops.size false).getD i false) (List.range ops.size)
    simpa using this)
  unfold Region.linearise
  rw [hrest]
  simp only [List.reverse_nil, List.nil_append]
  refine hwp a _ ⟨0, s.o, .inl ⟨hre _, rfl⟩, ?_⟩
  have : (List.range (D.length + 1)).filter (fun i => (Array.replicate ops.size false).getD i false) = [] := by
    rw [List.filter_eq_nil_iff]
    intro i _
    rw [hre]; simp
  rw [this]
  exact hd.drew

def TailA (P : Program) (ops : Array Oper) (n : Nat) (o : Sto) (D : List (AV × List Nat)) (t : List (Nat × AV)) (R : List Nat → List (Nat × AV) → Sto → Prop) : Prop :=
  match ops[D.length]? with
  | some oa => match oa.op with
    | .alloc ty' => match zer P ty' with
      | some zs => oa.guard.isNone = true ∧ dstOK n oa.dst = true ∧ drawOK ops (D.map Prod.snd ++ [[]]) = true ∧
        ∀ b, nfO o b → R (List.range' (D.length + 1) (ops.size - (D.length + 1))) (upd oa (.ptr b 0) [] t) ((b, some (zs.map avz)) :: o)
      | none => False
    | _ => False
  | none => False

theorem TailA.out {ops : Array Oper} {o : Sto} {D : List (AV × List Nat)} {t : List (Nat × AV)} {R : List Nat → List (Nat × AV) → Sto → Prop} (h : TailA P ops n o D t R) :
    ∃ oa ty' zs, ops[D.length]? = some oa ∧ oa.guard = none ∧ oa.op = .alloc ty' ∧ dstOK n oa.dst = true ∧ zer P ty' = some zs ∧ drawOK ops (D.map Prod.snd ++ [[]]) = true ∧
      ∀ b, Fresh o b → R (List.range' (D.length + 1) (ops.size - (D.length + 1))) (upd oa (.ptr b 0) [] t) ((b, some (zs.map avz)) :: o) := by
  unfold TailA at h
  split at h
  · rename_i oa hoa
    split at h
    · rename_i ty' hop
      split at h
      · rename_i zs hz
        obtain ⟨h1, h2, h3, h4⟩ := h
        exact ⟨oa, ty', zs, hoa, by simpa using h1, hop, h2, hz, h3, fun b hb => h4 b hb.nf⟩
      · exact h.elim
    · exact h.elim
  · exact h.elim

section
variable {t : List (Nat × AV)} {o : Sto} {Q : Exit → AS → Prop} {id : Nat} {ops : Array Oper}
theorem AW.sdrwnA {c : Code} (h : ∀ K : List (Nat × AV) → List (AV × List Nat) → Prop, (∀ t D, TailA P ops n o D t (fun l t o => ∀ K' : List (Nat × AV) → Sto → Prop, (∀ t o, AW L P c ⟨n, t, o⟩ Q → K' t o) → Wn L P ops n K' l [] t o) → K t D) →
      W L P ops [] n o (fun t D _ => K t D) (List.range' 0 ops.size) t []) : AW L P (.seq (.region id ops true) c) ⟨n, t, o⟩ Q :=
  AW.seq (AW.drawA (W.draw _ 0 _ _ rfl (h _ (fun t D h => by
    obtain ⟨oa, ty', zs, h1, h2, h3, h4, h5, h6, h7⟩ := h.out
    exact ⟨oa, ty', zs, h1, h2, h3, h4, h5, h6, fun b hb => Wn.toOps (K := fun t o => AW L P c ⟨n, t, o⟩ Q) (fun _ _ h => h) _ _ _ (h7 b hb _ (fun _ _ h => h))⟩))))
theorem AW.drwnA (h : ∀ K : List (Nat × AV) → List (AV × List Nat) → Prop, (∀ t D, TailA P ops n o D t (fun l t o => ∀ K' : List (Nat × AV) → Sto → Prop, (∀ t o, Q .normal ⟨n, t, o⟩ → K' t o) → Wn L P ops n K' l [] t o) → K t D) →
      W L P ops [] n o (fun t D _ => K t D) (List.range' 0 ops.size) t []) : AW L P (.region id ops true) ⟨n, t, o⟩ Q :=
  AW.drawA (W.draw _ 0 _ _ rfl (h _ (fun t D h => by
    obtain ⟨oa, ty', zs, h1, h2, h3, h4, h5, h6, h7⟩ := h.out
    exact ⟨oa, ty', zs, h1, h2, h3, h4, h5, h6, fun b hb => Wn.toOps (K := fun t o => Q .normal ⟨n, t, o⟩) (fun _ _ h => h) _ _ _ (h7 b hb _ (fun _ _ h => h))⟩)))
end
attribute [go_sem] TailA
end
end Go.Ab
namespace Go.Ab
section
variable {L : Nat → Nat} {n : Nat} {t : List (Nat × AV)} {o : Sto} {Q : AS → Prop}
end
end Go.Ab
namespace Go.Ab
open Go.RowKit (Below)

theorem list_cut3 {α : Type} (l : List α) {i j : Nat} (hij : i ≤ j) : l = l.take i ++ ((l.take j).drop i ++ l.drop j) := by
  have h1 : l.take i = (l.take j).take i := by rw [List.take_take, Nat.min_eq_left hij]
  rw [← List.append_assoc, h1, List.take_append_drop, List.take_append_drop]

def CutsW (P : Program) (f : FuncId) (sz : Nat) : Prop :=
  ∀ (w : World) (b n cap i j : Nat) (c : Array Value) (Ty : TypeId), w.heap[b]? = some (.cells c Ty (0, 0)) → n ≤ cap → cap * sz ≤ c.size → n ≤ 4611686018427387904 → i < j → j ≤ n → (∀ (k : Nat) (v : Value), k < n * sz → c[k]? = some v → v.oneCell' = true) →
    Calls P f #[.slice (some ⟨b, 0, none⟩) n cap, .int .i64 i, .int .i64 j] w fun e w' => e = .returned (.slice (some ⟨b, 0, none⟩) (n - (j - i)) cap) ∧
      ∃ c' : Array Value, w'.heap[b]? = some (.cells c' Ty (0, 0)) ∧ c'.size = c.size ∧ (∀ k, k < i * sz → c'[k]? = c[k]?) ∧ (∀ k, k < (n - j) * sz → c'[i * sz + k]? = c[j * sz + k]?) ∧ Kp (fun k => k < w.heap.size ∧ k ≠ b) w w'

theorem CutsW.ctr {L : Nat → Nat} {P : Program} {f : FuncId} {sz : Nat} (he : enters P f = true) (hf : CutsW P f sz) (hL : L sz ≤ 4611686018427387904) {b i j : Nat} {l : List AV} (hel : ∀ x, x ∈ l → x.elem sz = true) (hone : (l.flatMap AV.cells).all AV.one = true) :
    Ctr L P f [(b, some (l.flatMap AV.cells))] [.arr b 0 l.length sz, .v (.int .i64 i), .v (.int .i64 j)] (.sl true sz (l.take i ++ l.drop j)) [none] (i < j ∧ j ≤ l.length) := by
  refine ⟨he, ?_⟩
  rintro ⟨hij, hj⟩ B F own fs w vs hS hr
  obtain ⟨hkey, hnd, hfo, c, Ty, vals, rst, hc, hcl, hl⟩ := hS.obj b _ (O_eq b _ _)
  simp only [RepL, Rep] at hr
  obtain ⟨y1, _, _, _, rfl, _, ⟨_, cap, rfl, hncap, hnL, hblk⟩, y2, _, _, _, rfl, _, ⟨rfl, _⟩, y3, _, _, _, rfl, _, ⟨rfl, _⟩, rfl, _⟩ := hr
  obtain ⟨c0, Ty0, hc0, hcs⟩ := hblk
  rw [hc] at hc0; cases hc0
  rw [Nat.zero_add] at hcs
  have hlen := flat_elem_len hel
  have hvl := hl.len
  rw [hlen] at hvl
  have hget : ∀ k, k < vals.length → c[k]? = vals[k]? := fun k hk => by
    rw [← Array.getElem?_toList, hcl, List.getElem?_append_left hk]
  have e3 := list_cut3 l (Nat.le_of_lt hij)
  have hl' := hl
  rw [e3, List.flatMap_append, List.flatMap_append] at hl'
  obtain ⟨v1, v23, f1, f23, hv, hfs, r1, r23⟩ := hl'.split
  obtain ⟨v2, v3, f2, f3, rfl, rfl, r2, r3⟩ := r23.split
  have hel1 : ∀ x, x ∈ l.take i → x.elem sz = true := fun x hx => hel x (List.mem_of_mem_take hx)
  have hel2 : ∀ x, x ∈ (l.take j).drop i → x.elem sz = true := fun x hx => hel x (List.mem_of_mem_take (List.mem_of_mem_drop hx))
  have hel3 : ∀ x, x ∈ l.drop j → x.elem sz = true := fun x hx => hel x (List.mem_of_mem_drop hx)
  have n1 : v1.length = i * sz := by rw [r1.len, flat_elem_len hel1, List.length_take, Nat.min_eq_left (by omega)]
  have n2 : v2.length = (j - i) * sz := by rw [r2.len, flat_elem_len hel2, List.length_drop, List.length_take, Nat.min_eq_left hj]
  have n3 : v3.length = (l.length - j) * sz := by rw [r3.len, flat_elem_len hel3, List.length_drop]
  have hones := hl.ones hone
  refine (hf w b l.length cap i j c Ty hc hncap hcs (Nat.le_trans hnL hL) hij hj (fun k v hk hv' => ?_)).mono ?_
  · rw [hget k (by omega)] at hv'
    exact hones v (List.mem_of_getElem? hv')
  rintro e w' ⟨rfl, c', hc', hsz, h1, h2, hK⟩
  have hFS : ∀ k, F k → F k ∧ (k < w.heap.size ∧ k ≠ b) := fun k hk => ⟨hk, (hS.fl k hk).2.1, fun e => by have := (hS.fl k hk).1; rw [e, hkey] at this; cases this⟩
  have hsub : ∀ k, k ∈ f1 ∨ k ∈ f3 → k ∈ fs b := fun k hk => by rw [hfs]; rcases hk with h | h <;> simp [h]
  have hin : ∀ k, k ∈ f1 ∨ k ∈ f3 → k < w.heap.size ∧ k ≠ b := fun k hk => by
    have := hfo k (hsub k hk)
    exact ⟨(hS.ol k (by rw [this]; simp)).2, fun e => by rw [e, hkey] at this; cases this⟩
  have hext : Ext (fun k => k < w.heap.size ∧ k ≠ b) w w' := ⟨hK.size, hK.block, hK.shape⟩
  have q1 := RepL.ext hext hFS (fun k hk => hin k (.inl hk)) r1
  have q3 := RepL.ext hext hFS (fun k hk => hin k (.inr hk)) r3
  have hbB : ¬ B b := (hS.ol b (by rw [hkey]; simp)).1
  have hbw : b < w.heap.size := (hS.ol b (by rw [hkey]; simp)).2
  have hnd2 : f1.Nodup ∧ f3.Nodup ∧ ∀ a ∈ f1, ∀ a' ∈ f3, a ≠ a' := by
    rw [hfs, List.nodup_append, List.nodup_append] at hnd
    exact ⟨hnd.1, hnd.2.1.2.1, fun a ha a' ha' => hnd.2.2 a ha a' (by simp [ha'])⟩
  have hll : (l.take i ++ l.drop j).length = l.length - (j - i) := by
    rw [List.length_append, List.length_take, List.length_drop]; omega
  have ho : ∀ k, k ∈ b :: (f1 ++ f3) → ¬ B k ∧ k < w.heap.size ∧ ¬ F k := fun k hk => by
    have : own k ≠ .none := by
      rcases List.mem_cons.1 hk with rfl | hk
      · rw [hkey]; simp
      · rw [hfo k (hsub k (List.mem_append.1 hk))]; simp
    exact ⟨(hS.ol k this).1, (hS.ol k this).2, fun hF => this (hS.fl k hF).1⟩
  classical
  refine ⟨_, _, [(b, none)], F, fun k => if k ∈ b :: (f1 ++ f3) then .slot 0 else .none, fun _ => [], b :: (f1 ++ f3), rfl, ⟨rfl, rfl⟩, { below := hK.mono fun k hk => ⟨hS.hB k hk, fun e => hbB (e ▸ hk)⟩, hB := fun k hk => Nat.lt_of_lt_of_le (hS.hB k hk) hK.size, f0 := hS.f0, fl := fun k hk => ⟨?_, Nat.lt_of_lt_of_le (hS.fl k hk).2.1 hK.size, (hS.fl k hk).2.2⟩, ol := fun k hk => ?_, obj := ?_ }, ?_, ?_, fun k hk => if_pos hk⟩
  · rw [if_neg fun hm => (ho k hm).2.2 hk]
  · by_cases hm : k ∈ b :: (f1 ++ f3)
    · exact ⟨(ho k hm).1, Nat.lt_of_lt_of_le (ho k hm).2.1 hK.size⟩
    · rw [if_neg hm] at hk; exact absurd rfl hk
  · intro q cs hq
    simp only [O] at hq
    split at hq <;> cases hq
  · simp only [Rep]
    refine .inr ⟨b, 0, cap, v1 ++ v3, f1 ++ f3, by rw [hll], by rw [hll]; omega, by rw [hll]; omega, ⟨c', Ty, _, hc', fun k hk => ?_⟩, RepL.unflat (fun x hx => ?_) ?_, .inl ⟨by trivial, rfl, rfl, c', Ty, hc', by omega⟩⟩
    · rw [Nat.zero_add]
      rw [List.length_append, n1, n3] at hk
      by_cases hk1 : k < i * sz
      · rw [h1 k hk1, List.getElem?_append_left (by omega), hget k (by rw [hv]; simp only [List.length_append]; omega), hv, List.getElem?_append_left (by omega)]
      · have e4 := h2 (k - i * sz) (by omega)
        rw [show i * sz + (k - i * sz) = k by omega] at e4
        have hjj : j * sz = i * sz + (j - i) * sz := by rw [← Nat.add_mul]; congr 1; omega
        rw [e4, List.getElem?_append_right (by omega), hget _ (by rw [hv]; simp only [List.length_append]; omega), hv, List.getElem?_append_right (by omega), List.getElem?_append_right (by omega)]
        congr 1
        omega
    · rcases List.mem_append.1 hx with hx | hx
      · exact hel1 x hx
      · exact hel3 x hx
    · rw [List.flatMap_append]; exact q1.join q3
  · rw [List.nodup_cons, List.nodup_append]
    refine ⟨fun hm => ?_, hnd2.1, hnd2.2.1, hnd2.2.2⟩
    exact (hin b (List.mem_append.1 hm)).2 rfl
end Go.Ab
namespace Go.Ab
open Go.RowKit (Below)
def nrm (R : Act → World → Prop) : Exit → Act → World → Prop := fun e a w => e = .normal ∧ R a w
def AnyW (L : Nat → Nat) (P : Program) (ops : Array Oper) (fuel : Nat) (listed : Array Bool) (s : AS) (K : AS → Prop) : Prop :=
  ∀ B F0 w0 a w (R : Act → World → Prop), Den L B F0 w0 s a w → (∀ s' a' w', K s' → Den L B F0 w0 s' a' w' → R a' w') → wpAny P .any ops (nrm R) fuel listed a w

section
variable {L : Nat → Nat} {P : Program} {ops : Array Oper} {n fuel : Nat} {listed : Array Bool} {t : List (Nat × AV)} {os : Sto} {K : AS → Prop}

theorem AnyW.done (hr : Region.ready .any ops listed = []) (h : K ⟨n, t, os⟩) : AnyW L P ops fuel listed ⟨n, t, os⟩ K :=
  fun B F0 w0 a w R hd hR => wpAny_done hr ⟨rfl, hR _ _ _ h hd⟩ fuel

theorem AnyW.doneK (live : List Nat) (o0 : Sto) (hr : Region.ready .any ops listed = []) (ho : subO o0 os) (h : K ⟨n, keepT t live, o0⟩) : AnyW L P ops fuel listed ⟨n, t, os⟩ K :=
  fun B F0 w0 a w R hd hR => wpAny_done hr ⟨rfl, hR _ _ _ h (hd.weaken rfl (T_keep t live) fun _ _ hb => subO_O ho hb)⟩ fuel

def allR (L : Nat → Nat) (P : Program) (ops : Array Oper) (n fuel : Nat) (listed : Array Bool) (t : List (Nat × AV)) (os : Sto) (K : AS → Prop) : List Nat → Prop
  | [] => True
  | i :: rs => (match ops[i]? with
    | some o => (o.guard = none ∧ dstOK n o.dst = true) ∧ nvc L P os t o.dst o.op (fun t' os' => AnyW L P ops fuel (listed.setIfInBounds i true) ⟨n, t', os'⟩ K)
    | none => False) ∧ allR L P ops n fuel listed t os K rs

theorem allR_mem : ∀ {rs : List Nat}, allR L P ops n fuel listed t os K rs → ∀ i, i ∈ rs → ∃ o, ops[i]? = some o ∧ o.guard = none ∧ dstOK n o.dst = true ∧ nvc L P os t o.dst o.op (fun t' os' => AnyW L P ops fuel (listed.setIfInBounds i true) ⟨n, t', os'⟩ K)
  | [], _, i, hi => by simp at hi
  | j :: rs, h, i, hi => by
    simp only [allR] at h
    rcases List.mem_cons.1 hi with rfl | hi
    · have h1 := h.1
      split at h1
      · rename_i o ho
        exact ⟨o, ho, h1.1.1, h1.1.2, h1.2⟩
      · exact h1.elim
    · exact allR_mem h.2 i hi

theorem AnyW.step (rs : List Nat) (hr : Region.ready .any ops listed = rs) (hne : rs ≠ []) (h : allR L P ops n fuel listed t os K rs) : AnyW L P ops (fuel + 1) listed ⟨n, t, os⟩ K := by
  intro B F0 w0 a w R hd hR
  refine wpAny_all hr hne fun i hi => ?_
  obtain ⟨o, ho, hg, hdst, hn⟩ := allR_mem h i hi
  unfold wpOp
  simp only [ho]
  have hw : Region.wanted o (yielded ops a.tmps) = true := by simp [Region.wanted, hg]
  rw [if_pos hw]
  refine .inl (nvc_sound hdst hn B F0 w0 a w _ _ hd fun s' a' w' hs hd' => ?_)
  obtain ⟨hn', hK⟩ := hs
  obtain ⟨n', t', o'⟩ := s'
  simp only at hn' hK
  subst hn'
  exact hK B F0 w0 a' w' R hd' hR

def fixV (P : Program) (t : List (Nat × AV)) : Op → Option (AV × Value)
  | .fieldAddr xt x k => match ev t x, fld P xt k with
    | .ptr b o, some (off, _, m) => bif Nat.blt 0 m then some (.ptr b (o + off), .pointer (some ⟨b, o + off, none⟩)) else none
    | _, _ => none
  | .move x => match ev t x with
    | .v u => some (.v u, u)
    | _ => none
  | _ => none

theorem AnyW.take (i : Nat) {oi : Oper} {x : AV} {u : Value} (hi : ops[i]? = some oi) (hs : Region.noSelect ops = true) (hf : Region.free .any ops listed i = true) (hr : (Region.ready .any ops listed).contains i = true)
    (hg : oi.guard = none) (hd : dstOK n oi.dst = true) (hx : fixV P t oi.op = some (x, u)) (h : AnyW L P ops fuel (listed.setIfInBounds i true) ⟨n, put t oi.dst x, os⟩ K) : AnyW L P ops (fuel + 1) listed ⟨n, t, os⟩ K := by
  intro B F0 w0 a w R hden hR
  have hw : Region.wanted oi (yielded ops a.tmps) = true := by simp [Region.wanted, hg]
  obtain ⟨F, own, fp, fs, hD⟩ := hden
  have key : (∀ w : World, (execOp a.eval oi).run P w = .ok (.value u) w) ∧ ∀ F' w', Rep L F' w' x u [] := by
    unfold fixV at hx
    split at hx
    · rename_i xt y k hop
      split at hx
      · rename_i b o off _ m hy hfl
        cases hm : Nat.blt 0 m with
        | false => rw [hm] at hx; cases hx
        | true =>
          rw [hm] at hx; cases hx
          obtain ⟨fs', f, hu, hk, ht, rfl⟩ := fld_inv hfl
          have hn' : ¬ m = 0 := by simp at hm; omega
          have hr := hD.ev y
          rw [hy] at hr
          simp only [Rep] at hr
          refine ⟨fun w => ?_, fun F' w' => by simp [Rep]⟩
          obtain ⟨ha, hs⟩ := ty_run ht w
          simp [execOp, hop, hr.1, Instr.fieldAt, run_underlying hu, hk, Instr.sureAddr, fieldPlace, hs, hn', add_mk]
      · cases hx
    · rename_i y hop
      split at hx
      · rename_i v hy
        cases hx
        have hr := hD.ev y
        rw [hy] at hr
        simp only [Rep] at hr
        exact ⟨fun w => by simp [execOp, hop, hr.1], fun F' w' => by simp [Rep]⟩
      · cases hx
    · cases hx
  refine wpAny_take hi hs hf hr (fun c a w h => by cases h.1) (.inl ⟨hw, key.1⟩) ?_
  refine h B F0 w0 _ w R ?_ hR
  have := hD.put (x := x) (v := u) (fx := []) [] oi.dst hd (w' := w) (F' := F) (Kp.refl _ _) (fun _ h => h) (fun b h => .inl h) (key.2 F w) (by simp) (by simp)
  simpa [killL] using this
theorem AnyW.fix (i : Nat) (hs : Region.noSelect ops = true) (hf : Region.free .any ops listed i = true) (hr : (Region.ready .any ops listed).contains i = true)
    (h : match ops[i]? with
      | some oi => (oi.guard = none ∧ dstOK n oi.dst = true) ∧ (match fixV P t oi.op with
        | some p => AnyW L P ops fuel (listed.setIfInBounds i true) ⟨n, put t oi.dst p.1, os⟩ K
        | none => False)
      | none => False) : AnyW L P ops (fuel + 1) listed ⟨n, t, os⟩ K := by
  split at h
  · rename_i oi hi
    obtain ⟨⟨hg, hd⟩, h⟩ := h
    split at h
    · rename_i p hp
      exact AnyW.take i hi hs hf hr hg hd (x := p.1) (u := p.2) hp h
    · exact h.elim
  · exact h.elim
end

theorem AW.any {L : Nat → Nat} {P : Program} {ops : Array Oper} {n id : Nat} {t : List (Nat × AV)} {os : Sto} {Q : Exit → AS → Prop} (hm : P.follows .mixedOrders = true)
    (h : AnyW L P ops ops.size (Array.replicate ops.size false) ⟨n, t, os⟩ (fun s' => Q .normal s')) : AW L P (.region id ops true) ⟨n, t, os⟩ Q := by
  intro B F0 w0 a w hd
  refine wp_mono (wp_region_any (id := id) hm (h B F0 w0 a _ (fun a' w' => ∃ s', Q .normal s' ∧ Den L B F0 w0 s' a' w') hd.drew fun s' a' w' h1 h2 => ⟨s', h1, h2⟩)) ?_
  rintro e a' w' ⟨rfl, h⟩
  exact h
theorem AW.anyT {L : Nat → Nat} {P : Program} {ops : Array Oper} {n id : Nat} {t : List (Nat × AV)} {os : Sto} {Q : Exit → AS → Prop} (t0 : List (Nat × AV)) (o0 : Sto) (hm : P.follows .mixedOrders = true)
    (h : ∀ K : AS → Prop, K ⟨n, t0, o0⟩ → AnyW L P ops ops.size (Array.replicate ops.size false) ⟨n, t, os⟩ K) (h2 : Q .normal ⟨n, t0, o0⟩) : AW L P (.region id ops true) ⟨n, t, os⟩ Q :=
  AW.any hm (h _ h2)
end Go.Ab
namespace Go.Ab
open Go.RowKit (Below)
def ConC (L : Nat → Nat) (P : Program) (f : FuncId) (args : List AV) (res : AV) : Prop :=
  ∀ (w : World) (F : Nat → Prop) (vs : List Value) (fp : List Nat), (∀ b, F b → b < w.heap.size) → RepL L F w args vs fp → fp.Nodup → (∀ b, b ∈ fp → b < w.heap.size ∧ ¬ F b) →
    Calls P f vs.toArray w fun e w' => ∃ v F' fp', e = .returned v ∧ Kp (fun b => b < w.heap.size ∧ b ∉ fp) w w' ∧ (∀ b, F b → F' b) ∧ (∀ b, F' b → F b ∨ (w.heap.size ≤ b ∧ b < w'.heap.size)) ∧
      Rep L F' w' res v fp' ∧ fp'.Nodup ∧ ∀ b, b ∈ fp' → ¬ F' b ∧ (b ∈ fp ∨ (w.heap.size ≤ b ∧ b < w'.heap.size))

section
variable {L : Nat → Nat} {P : Program}

theorem evs_fp {B F0 : Nat → Prop} {w0 : World} {F : Nat → Prop} {own : Nat → Own} {fp fs : Nat → List Nat} {s : AS} {a : Act} {w : World} (h : DenAt L B F0 w0 F own fp fs s a w) :
    ∀ xs : List Operand, (kills s.t xs).Nodup → ∃ f, RepL L F w (xs.map (ev s.t)) (xs.map a.eval) f ∧ f.Nodup ∧ ∀ b, b ∈ f → ∃ i, i ∈ kills s.t xs ∧ b ∈ fp i
  | [], _ => ⟨[], by simp [RepL], by simp, by simp⟩
  | x :: xs, hn => by
    have hsub : (kills s.t xs).Nodup ∧ (∀ i, x = .tmp i → (T s.t i).nown = false → i ∉ kills s.t xs) ∧ ∀ i, i ∈ kills s.t xs → i ∈ kills s.t (x :: xs) := by
      cases x with
      | tmp i =>
        simp only [kills] at hn ⊢
        cases ho : (T s.t i).nown with
        | true => rw [ho] at hn; exact ⟨hn, fun j e hj => (by cases e; rw [ho] at hj; cases hj), fun i hi => hi⟩
        | false =>
          rw [ho] at hn
          have := List.nodup_cons.1 hn
          exact ⟨this.2, fun j e _ => (by cases e; exact this.1), fun i hi => (by simp [hi])⟩
      | const _ => exact ⟨hn, fun j e => (by cases e), fun i hi => hi⟩
      | global _ => exact ⟨hn, fun j e => (by cases e), fun i hi => hi⟩
      | func _ => exact ⟨hn, fun j e => (by cases e), fun i hi => hi⟩
    obtain ⟨f, h1, h2, h3⟩ := evs_fp h xs hsub.1
    refine ⟨fpo fp x ++ f, ?_, ?_, fun b hb => ?_⟩
    · simp only [List.map_cons, RepL]
      exact ⟨_, _, fpo fp x, f, rfl, rfl, h.ev x, h1⟩
    · rw [List.nodup_append]
      refine ⟨fpo_nodup h x, h2, fun b hb b' hb' e => ?_⟩
      subst e
      obtain ⟨j, hj, hbj⟩ := h3 b hb'
      cases x with
      | tmp i =>
        simp only [fpo] at hb
        cases ho : (T s.t i).nown with
        | true => rw [Rep.fp_nil ho (h.slots i)] at hb; simp at hb
        | false =>
          have e1 := h.so i b hb
          rw [h.so j b hbj] at e1
          exact hsub.2.1 i rfl ho (by cases e1; exact hj)
      | const _ => simp [fpo] at hb
      | global _ => simp [fpo] at hb
      | func _ => simp [fpo] at hb
    · rcases List.mem_append.1 hb with hb | hb
      · exact fpo_kills h (xs := x :: xs) (by simp) b hb
      · obtain ⟨i, hi, hbi⟩ := h3 b hb
        exact ⟨i, hsub.2.2 i hi, hbi⟩

theorem lop_con {s : AS} {o : Oper} {y : Operand} {xs : Array Operand} {ts : Array TypeId} {f : FuncId} {res : AV} (ho : o.op = .call ⟨.value y, xs, ts⟩) (hy : fnA (ev s.t y) = some (f, [])) (he : enters P f = true)
    (hn : (kills s.t xs.toList).Nodup) (hC : ConC L P f (xs.toList.map (ev s.t)) res) : LOp L P s o res (kills s.t xs.toList) := by
  intro B F0 w0 F own fp fs a w next Q h hnext
  obtain ⟨cvs, hcr, hex⟩ := call_exec (P := P) h ho hy rfl he
  have hcv : cvs = [] := by simp only [RepL] at hcr; exact hcr.1
  subst hcv
  rw [List.append_nil] at hex
  unfold Oper.wp
  rw [hex]
  obtain ⟨g, h1, h2, h3⟩ := evs_fp h xs.toList hn
  refine (hC w F _ g (fun b hb => (h.fl b hb).2.1) h1 h2 fun b hb => ?_).mono ?_
  · obtain ⟨i, _, hi⟩ := h3 b hb
    exact ⟨(h.fp_lt hi).2, h.fp_F hi⟩
  rintro e w' ⟨v, F', fp', rfl, k1, k2, k3, k4, k5, k6⟩
  refine hnext v w' ⟨k1.mono fun b hb => ⟨hb.1, fun hm => hb.2 (h3 b hm)⟩, F', fp', k2, fun b hb => (k3 b hb).imp id .inl, k4, k5, fun b hb => ⟨(k6 b hb).1, (k6 b hb).2.imp (h3 b) id⟩⟩

theorem AnyW.con {ops : Array Oper} {n fuel : Nat} {listed : Array Bool} {t : List (Nat × AV)} {os : Sto} {K : AS → Prop} (i : Nat) (hr : Region.ready .any ops listed = [i]) {o : Oper} (ho : ops[i]? = some o) (hg : o.guard = none) (hd : dstOK n o.dst = true)
    {y : Operand} {xs : Array Operand} {ts : Array TypeId} {f : FuncId} {res : AV} (hop : o.op = .call ⟨.value y, xs, ts⟩) (hy : fnA (ev t y) = some (f, [])) (he : enters P f = true) (hn : (kills t xs.toList).Nodup)
    (hC : ConC L P f (xs.toList.map (ev t)) res) (h : AnyW L P ops fuel (listed.setIfInBounds i true) ⟨n, put (killL t (kills t xs.toList)) o.dst res, os⟩ K) : AnyW L P ops (fuel + 1) listed ⟨n, t, os⟩ K := by
  intro B F0 w0 a w R hden hR
  refine wpAny_all hr (by simp) fun j hj => ?_
  rw [List.mem_singleton] at hj
  subst hj
  unfold wpOp
  simp only [ho]
  have hw : Region.wanted o (yielded ops a.tmps) = true := by simp [Region.wanted, hg]
  rw [if_pos hw]
  refine .inl ((lop_con (s := ⟨n, t, os⟩) hop hy he hn hC).opW hd (K := fun s' => s' = ⟨n, put (killL t (kills t xs.toList)) o.dst res, os⟩) rfl B F0 w0 a w _ _ hden fun s' a' w' hs hd' => ?_)
  subst hs
  exact h B F0 w0 a' w' R hd' hR

theorem AnyW.conR {ops : Array Oper} {n fuel : Nat} {listed : Array Bool} {t : List (Nat × AV)} {os : Sto} {K : AS → Prop} (i : Nat) (hr : Region.ready .any ops listed = [i])
    (h : match ops[i]? with
      | some o => (o.guard = none ∧ dstOK n o.dst = true) ∧ (match o.op with
        | .call c => match c.callee, c.args.toList with
          | .value y, xs => match fnA (ev t y) with
            | some (f, []) => (kills t xs).Nodup ∧ enters P f = true ∧ ∃ res, ConC L P f (xs.map (ev t)) res ∧ AnyW L P ops fuel (listed.setIfInBounds i true) ⟨n, put (killL t (kills t xs)) o.dst res, os⟩ K
            | _ => False
          | _, _ => False
        | _ => False)
      | none => False) : AnyW L P ops (fuel + 1) listed ⟨n, t, os⟩ K := by
  split at h
  · rename_i o ho
    obtain ⟨⟨hg, hd⟩, h⟩ := h
    split at h
    · rename_i c hop
      obtain ⟨callee, args, ts⟩ := c
      cases callee with
      | value y =>
        simp only at h
        split at h
        · rename_i f hy
          obtain ⟨hn, he, res, hC, h⟩ := h
          exact AnyW.con i hr ho hg hd hop hy he hn hC h
        · exact h.elim
      | _ => exact h.elim
    · exact h.elim
  · exact h.elim

theorem InsW.con {f : FuncId} {sz bytes i : Nat} {l : List AV} {x : AV} (hf : InsW P f sz bytes) (hel : ∀ y, y ∈ l → y.elem sz = true) (hone : (l.flatMap AV.cells).all AV.one = true) (hxe : x.elem sz = true) (hxo : x.cells.all AV.one = true)
    (hi : i ≤ l.length) (hbig : (l.length + 1) * bytes ≤ 140737488355328) (hL : l.length + 1 ≤ L sz) : ConC L P f [.sl true sz l, .v (.int .i64 i), .sl true sz [x]] (.sl true sz (l.take i ++ (x :: l.drop i))) := by
  intro w F vs fp hF hr hnd hfp
  simp only [RepL] at hr
  obtain ⟨y1, _, f1, _, rfl, rfl, r1, y2, _, f2, _, rfl, rfl, r2, y3, _, f3, _, rfl, rfl, r3, rfl, rfl⟩ := hr
  simp only [Rep] at r2
  obtain ⟨rfl, rfl⟩ := r2
  simp only [List.nil_append, List.append_nil] at hnd hfp ⊢
  simp only [Rep] at r3
  rcases r3 with ⟨_, e, _⟩ | ⟨vb, off3, cap3, xv, g3, rfl, hc3, _, hrow3, hE3, hown3⟩
  · cases e
  rcases hown3 with ⟨_, rfl, rfl, cx, Tx, hcx, hcxs⟩ | ⟨e, _⟩
  rotate_left
  · cases e
  rw [Nat.zero_add] at hcxs
  have hxel : ∀ y, y ∈ [x] → y.elem sz = true := fun y hy => by rw [List.mem_singleton.1 hy]; exact hxe
  have hXL := RepE.flat hxel hE3
  simp only [List.flatMap_cons, List.flatMap_nil, List.append_nil] at hXL
  have hxvl : xv.length = 1 * sz := by rw [hE3.len]; rfl
  have hxrow : cx.toList.take (1 * sz) = xv := by
    obtain ⟨c0, T0, z0, h0, h1⟩ := hrow3
    rw [hcx] at h0; cases h0
    apply List.ext_getElem?
    intro j
    by_cases hj : j < xv.length
    · rw [List.getElem?_take_of_lt (by omega), Array.getElem?_toList]
      have := h1 j hj
      rwa [Nat.zero_add] at this
    · rw [List.getElem?_eq_none (by rw [List.length_take]; omega), List.getElem?_eq_none (by omega)]
  have hxs : 1 * sz ≤ cx.size := Nat.le_trans (Nat.mul_le_mul_right _ hc3) hcxs
  have hx1 : ∀ (k : Nat) (v : Value), k < 1 * sz → cx[k]? = some v → v.oneCell' = true := fun k v hk hv => by
    refine hXL.ones hxo v (List.mem_of_getElem? (i := k) ?_)
    rw [← hxrow, List.getElem?_take_of_lt hk, Array.getElem?_toList]; exact hv
  have hvw : vb < w.heap.size := (hfp vb (by simp)).1
  -- how the new slice stands for its elements
  have fin : ∀ (b : Option Nat) (os : List Value) (g : List Nat) (e : Ending) (w' : World), RepL L F w (l.flatMap AV.cells) os g → os.length = l.length * sz → (∀ k, k ∈ g → k ∈ f1) → g.Nodup → (∀ k, some k = b → k ∈ f1 ∧ k ∉ g) → InsPost w b sz (l.length + 1) (os.take (i * sz) ++ (xv ++ os.drop (i * sz))) e w' →
      ∃ v F' fp', e = .returned v ∧ Kp (fun b => b < w.heap.size ∧ b ∉ f1 ++ vb :: g3) w w' ∧ (∀ b, F b → F' b) ∧ (∀ b, F' b → F b ∨ (w.heap.size ≤ b ∧ b < w'.heap.size)) ∧ Rep L F' w' (.sl true sz (l.take i ++ (x :: l.drop i))) v fp' ∧ fp'.Nodup ∧ ∀ b, b ∈ fp' → ¬ F' b ∧ (b ∈ f1 ++ vb :: g3 ∨ (w.heap.size ≤ b ∧ b < w'.heap.size)) := by
    rintro b os g e w' hO hol hgf hgn hb ⟨b', cap', c', Ty', rfl, hcap, hat, hcs, hor, hrow, hos, htp, hout, hext⟩
    have hsplit : l.flatMap AV.cells = (l.take i).flatMap AV.cells ++ (l.drop i).flatMap AV.cells := by rw [← List.flatMap_append, List.take_append_drop]
    rw [hsplit] at hO
    obtain ⟨v1, v2, g1, g2, rfl, rfl, q1, q2⟩ := hO.split
    have hel1 : ∀ y, y ∈ l.take i → y.elem sz = true := fun y hy => hel y (List.mem_of_mem_take hy)
    have hel2 : ∀ y, y ∈ l.drop i → y.elem sz = true := fun y hy => hel y (List.mem_of_mem_drop hy)
    have n1 : v1.length = i * sz := by rw [q1.len, flat_elem_len hel1, List.length_take, Nat.min_eq_left hi]
    rw [← n1, List.take_left, List.drop_left] at hrow
    have hbS : ∀ k, F k → F k ∧ (k < w.heap.size ∧ some k ≠ b) := fun k hk => ⟨hk, hF k hk, fun e => (hfp k (by simp [(hb k e).1])).2 hk⟩
    have hgS : ∀ k, k ∈ g1 ++ g2 → k < w.heap.size ∧ some k ≠ b := fun k hk => ⟨(hfp k (by simp [hgf k hk])).1, fun e => (hb k e).2 hk⟩
    have hnd' := List.nodup_append.1 hnd
    have hg3S : ∀ k, k ∈ g3 → k < w.heap.size ∧ some k ≠ b := fun k hk => ⟨(hfp k (by simp [hk])).1, fun e => hnd'.2.2 k (hb k e).1 k (by simp [hk]) rfl⟩
    have p1 := RepL.ext hext hbS (fun k hk => hgS k (by simp [hk])) q1
    have p2 := RepL.ext hext hbS (fun k hk => hgS k (by simp [hk])) q2
    have p3 := RepL.ext hext hbS hg3S hXL
    have hfpn : (g1 ++ (g3 ++ g2)).Nodup := by
      have hn3 := List.nodup_cons.1 hnd'.2.1
      have hg := List.nodup_append.1 hgn
      rw [List.nodup_append, List.nodup_append]
      refine ⟨hg.1, ⟨hn3.2, hg.2.1, fun a ha a' ha' e => ?_⟩, fun a ha a' ha' e => ?_⟩
      · subst e; exact hnd'.2.2 a (hgf a (by simp [ha'])) a (by simp [ha]) rfl
      · subst e
        rcases List.mem_append.1 ha' with h | h
        · exact hnd'.2.2 a (hgf a (by simp [ha])) a (by simp [h]) rfl
        · exact hg.2.2 a ha a h rfl
    have hinfp : ∀ k, k ∈ g1 ++ (g3 ++ g2) → k ∈ f1 ++ vb :: g3 ∧ k < w.heap.size ∧ some k ≠ b := fun k hk => by
      rcases List.mem_append.1 hk with h | h
      · exact ⟨by simp [hgf k (by simp [h])], hgS k (by simp [h])⟩
      · rcases List.mem_append.1 h with h | h
        · exact ⟨by simp [h], hg3S k h⟩
        · exact ⟨by simp [hgf k (by simp [h])], hgS k (by simp [h])⟩
    have hb'n : b' ∉ g1 ++ (g3 ++ g2) := fun hm => by
      have := hinfp b' hm
      rcases hor with e | e
      · exact this.2.2 e
      · omega
    have hlen : (l.take i ++ (x :: l.drop i)).length = l.length + 1 := by
      rw [List.length_append, List.length_cons, List.length_take, List.length_drop]; omega
    have hb'F : ¬ F b' ∧ (b' ∈ f1 ++ vb :: g3 ∨ (w.heap.size ≤ b' ∧ b' < w'.heap.size)) := by
      rcases hor with e | e
      · have := (hb b' e).1
        exact ⟨(hfp b' (by simp [this])).2, .inl (by simp [this])⟩
      · exact ⟨fun h => by have := hF b' h; omega, .inr ⟨e, (Array.getElem?_eq_some_iff.1 hat).1⟩⟩
    refine ⟨_, F, b' :: (g1 ++ (g3 ++ g2)), rfl, ⟨hos, htp, hout, hext.size, fun k hk => hext.same k ⟨hk.1, fun e => hk.2 (by simp [(hb k e).1])⟩, hext.shape⟩, fun _ h => h, fun _ h => .inl h, ?_, List.nodup_cons.2 ⟨hb'n, hfpn⟩, fun k hk => ?_⟩
    · simp only [Rep]
      refine .inr ⟨b', 0, cap', v1 ++ (xv ++ v2), g1 ++ (g3 ++ g2), by rw [hlen], by rw [hlen]; exact hcap, by rw [hlen]; exact hL, ⟨c', Ty', _, hat, fun k hk => by rw [Nat.zero_add]; exact hrow k hk⟩, RepL.unflat (fun y hy => ?_) ?_, .inl ⟨by trivial, rfl, rfl, c', Ty', hat, by rw [Nat.zero_add]; exact hcs⟩⟩
      · rcases List.mem_append.1 hy with h | h
        · exact hel1 y h
        · rcases List.mem_cons.1 h with rfl | h
          · exact hxe
          · exact hel2 y h
      · rw [List.flatMap_append, List.flatMap_cons]
        exact p1.join (p3.join p2)
    · rcases List.mem_cons.1 hk with rfl | hk
      · exact hb'F
      · exact ⟨(hfp k (hinfp k hk).1).2, .inl (hinfp k hk).1⟩
  simp only [Rep] at r1
  rcases r1 with ⟨rfl | ⟨e, _⟩, rfl, rfl⟩ | ⟨b, off, cap, vals, g, rfl, hnc, _, hrow, hE, hown⟩
  · have hi0 : i = 0 := by simpa using hi
    subst hi0
    refine (hf.2 w vb cap3 cx Tx hcx hxs hx1).mono fun e w' hp => ?_
    rw [hxrow] at hp
    exact fin none [] [] e w' (by simp [RepL]) (by simp) (by simp) (by simp) (fun k e => by cases e) (by simpa using hp)
  · cases e
  · rcases hown with ⟨_, rfl, rfl, c, Ty, hc, hcs⟩ | ⟨e, _⟩
    rotate_left
    · cases e
    rw [Nat.zero_add] at hcs
    have hOL := RepE.flat hel hE
    have hol : vals.length = l.length * sz := hE.len
    have horow : c.toList.take (l.length * sz) = vals := by
      obtain ⟨c0, T0, z0, h0, h1⟩ := hrow
      rw [hc] at h0; cases h0
      apply List.ext_getElem?
      intro j
      by_cases hj : j < vals.length
      · rw [List.getElem?_take_of_lt (by omega), Array.getElem?_toList]
        have := h1 j hj
        rwa [Nat.zero_add] at this
      · rw [List.getElem?_eq_none (by rw [List.length_take]; omega), List.getElem?_eq_none (by omega)]
    have hnd' := List.nodup_append.1 hnd
    have hbg := List.nodup_cons.1 hnd'.1
    have ho1 : ∀ (k : Nat) (v : Value), k < l.length * sz → c[k]? = some v → v.oneCell' = true := fun k v hk hv => by
      refine hOL.ones hone v (List.mem_of_getElem? (i := k) ?_)
      rw [← horow, List.getElem?_take_of_lt hk, Array.getElem?_toList]; exact hv
    have hvb : vb ≠ b := fun e => hnd'.2.2 b (by simp) vb (by simp) e.symm
    refine (hf.1 w b l.length cap i vb cap3 c cx Ty Tx hcx hxs hx1 hc hnc hcs ho1 hvb hi hbig).mono fun e w' hp => ?_
    rw [hxrow, horow] at hp
    exact fin (some b) vals g e w' hOL hol (fun k hk => by simp [hk]) hbg.2 (fun k e => by cases e; exact ⟨by simp, hbg.1⟩) hp
end
end Go.Ab
namespace Go.Ab
open Go.RowKit (Below)
theorem Ctr.frz {L : Nat → Nat} {P : Program} {f : FuncId} {args : List AV} {res : AV} {cs : List (Option (List AV))} {pre : Prop} (h : Ctr L P f [] args res cs pre) : Ctr L P f [] args res.frz [] pre :=
  Ctr.of_pure h.en fun hp => (h.pure hp).frz

section
variable {L : Nat → Nat} {P : Program} {ops : Array Oper} {n : Nat} {K : AS → Prop}
def seeI (n f : Nat) (l : Array Bool) (Inv : Nat → Array Bool → AS → Prop) (t : List (Nat × AV)) (os : Sto) : Prop := ∃ live o0, subO o0 os ∧ Inv f l ⟨n, keepT t live, o0⟩
theorem seeI.mk {n f : Nat} {l : Array Bool} {Inv : Nat → Array Bool → AS → Prop} {t : List (Nat × AV)} {os : Sto} (live : List Nat) (o0 : Sto) (ho : subO o0 os) (h : Inv f l ⟨n, keepT t live, o0⟩) : seeI n f l Inv t os := ⟨live, o0, ho, h⟩
def allI (L : Nat → Nat) (P : Program) (ops : Array Oper) (n f : Nat) (l : Array Bool) (t : List (Nat × AV)) (os : Sto) (Inv : Nat → Array Bool → AS → Prop) : List Nat → Prop
  | [] => True
  | i :: rs => (match ops[i]? with
    | some o => (o.guard = none ∧ dstOK n o.dst = true) ∧ nvc L P os t o.dst o.op (fun t' os' => seeI n f (l.setIfInBounds i true) Inv t' os')
    | none => False) ∧ allI L P ops n f l t os Inv rs

theorem allI_allR {f : Nat} {l : Array Bool} {t : List (Nat × AV)} {os : Sto} {Inv : Nat → Array Bool → AS → Prop} (ih : ∀ l s, Inv f l s → AnyW L P ops f l s K) : ∀ {rs : List Nat}, allI L P ops n f l t os Inv rs →
    ∀ i, i ∈ rs → ∃ o, ops[i]? = some o ∧ o.guard = none ∧ dstOK n o.dst = true ∧ nvc L P os t o.dst o.op (fun t' os' => seeI n f (l.setIfInBounds i true) Inv t' os')
  | [], _, i, hi => by simp at hi
  | j :: rs, h, i, hi => by
    simp only [allI] at h
    rcases List.mem_cons.1 hi with rfl | hi
    · have h1 := h.1
      split at h1
      · rename_i o ho
        exact ⟨o, ho, h1.1.1, h1.1.2, h1.2⟩
      · exact h1.elim
    · exact allI_allR ih h.2 i hi

theorem AnyW.inv (Inv : Nat → Array Bool → AS → Prop) (h0 : ∀ l s, Inv 0 l s → Region.ready .any ops l = [] ∧ K s)
    (hs : ∀ f l s, Inv (f + 1) l s → ∃ rs, Region.ready .any ops l = rs ∧ rs ≠ [] ∧ allI L P ops s.n f l s.t s.o Inv rs) : ∀ f l s, Inv f l s → AnyW L P ops f l s K
  | 0, l, s, h => fun B F0 w0 a w R hd hR => wpAny_done (h0 l s h).1 ⟨rfl, hR _ _ _ (h0 l s h).2 hd⟩ 0
  | f + 1, l, s, h => by
    have ih := AnyW.inv Inv h0 hs f
    obtain ⟨rs, hr, hne, hall⟩ := hs f l s h
    obtain ⟨n, t, os⟩ := s
    intro B F0 w0 a w R hd hR
    refine wpAny_all hr hne fun i hi => ?_
    obtain ⟨o, ho, hg, hdst, hn⟩ := allI_allR (fun l s h => ih l s h) hall i hi
    unfold wpOp
    simp only [ho]
    have hw : Region.wanted o (yielded ops a.tmps) = true := by simp [Region.wanted, hg]
    rw [if_pos hw]
    refine .inl (nvc_sound hdst hn B F0 w0 a w _ _ hd fun s' a' w' hs' hd' => ?_)
    obtain ⟨hn', live, o0, hsub, hI⟩ := hs'
    obtain ⟨n', t', o'⟩ := s'
    simp only at hn' hsub hI
    subst hn'
    exact ih _ _ hI B F0 w0 a' w' R (hd'.weaken rfl (T_keep t' live) fun _ _ hb => subO_O hsub hb) hR
end
theorem AW.anyI {L : Nat → Nat} {P : Program} {ops : Array Oper} {n id : Nat} {t : List (Nat × AV)} {os : Sto} {Q : Exit → AS → Prop} (Inv : Nat → Array Bool → AS → Prop) (live : List Nat) (o0 : Sto) (ho : subO o0 os) (hm : P.follows .mixedOrders = true)
    (h : Inv ops.size (Array.replicate ops.size false) ⟨n, keepT t live, o0⟩) (h0 : ∀ l s, Inv 0 l s → Region.ready .any ops l = [] ∧ Q .normal s)
    (hs : ∀ f l s, Inv (f + 1) l s → ∃ rs, Region.ready .any ops l = rs ∧ rs ≠ [] ∧ allI L P ops s.n f l s.t s.o Inv rs) : AW L P (.region id ops true) ⟨n, t, os⟩ Q :=
  AW.any hm fun B F0 w0 a w R hd hR => AnyW.inv (K := fun s' => Q .normal s') Inv h0 hs _ _ _ h B F0 w0 a w R (hd.weaken rfl (T_keep t live) fun _ _ hb => subO_O ho hb) hR
theorem AW.cut {L : Nat → Nat} {P : Program} {n : Nat} {t : List (Nat × AV)} {os : Sto} {Q : Exit → AS → Prop} {c : Code} (live : List Nat) (t0 : List (Nat × AV)) (o0 : Sto)
    (h1 : AW L P c ⟨n, t, os⟩ (fun e s' => e = .normal ∧ s'.n = n ∧ keepT s'.t live = t0 ∧ subO o0 s'.o)) (h2 : Q .normal ⟨n, t0, o0⟩) : AW L P c ⟨n, t, os⟩ Q := by
  refine AW.post (h1.mono ?_)
  rintro e ⟨n', t', o'⟩ ⟨rfl, hn, hT, ho⟩
  simp only at hn hT ho
  subst hn hT
  exact Imp.weak h2 (T_keep t' live) fun _ _ hb => subO_O ho hb
end Go.Ab
