/-
  The logic's regions in which the order is drawn: the law.
-/
import Derived.Test.YtkdchlggdcmkbaaAbDraw2
set_option linter.unusedSimpArgs false
set_option linter.unusedVariables false
namespace Go.Ab
open Go.RowKit (Below)

theorem filter_le {p q : Nat → Bool} (h : ∀ i, q i = true → p i = true) : ∀ l : List Nat, (l.filter q).length ≤ (l.filter p).length
  | [] => by simp
  | i :: l => by
    have := filter_le h l
    cases hq : q i with
    | true => rw [List.filter_cons_of_pos (by simpa using hq), List.filter_cons_of_pos (by simpa using h i hq)]; simpa using this
    | false =>
      rw [List.filter_cons_of_neg (by simp [hq])]
      cases hp : p i with
      | true => rw [List.filter_cons_of_pos (by simpa using hp)]; simp; omega
      | false => rw [List.filter_cons_of_neg (by simp [hp])]; exact this

theorem filter_lt {p q : Nat → Bool} (h : ∀ i, q i = true → p i = true) : ∀ l : List Nat, (∃ i, i ∈ l ∧ p i = true ∧ q i = false) → (l.filter q).length < (l.filter p).length
  | [], hex => by simp at hex
  | i :: l, ⟨j, hj, hp, hq⟩ => by
    rcases List.mem_cons.1 hj with rfl | hj
    · rw [List.filter_cons_of_neg (by simp [hq]), List.filter_cons_of_pos (by simpa using hp)]
      have := filter_le h l
      simp; omega
    · have := filter_lt h l ⟨j, hj, hp, hq⟩
      cases hq' : q i with
      | true => rw [List.filter_cons_of_pos (by simpa using hq'), List.filter_cons_of_pos (by simpa using h i hq')]; simpa using this
      | false =>
        rw [List.filter_cons_of_neg (by simp [hq'])]
        cases hp' : p i with
        | true => rw [List.filter_cons_of_pos (by simpa using hp')]; simp; omega
        | false => rw [List.filter_cons_of_neg (by simp [hp'])]; exact this

theorem binds_of {ops : Array Oper} (h : Region.departs ops = false) {i : Nat} {o : Oper} (ho : ops[i]? = some o) : ∀ e, e ∈ o.after → Region.binds .any e = true := by
  intro e he
  have hm : o ∈ ops := Array.mem_of_getElem? ho
  unfold Region.departs at h
  rw [Array.any_eq_false'] at h
  have := h o hm
  simp only [Bool.not_eq_true] at this
  rw [Array.any_eq_false'] at this
  simpa using this e he

/-- the operations that may go next -/
def ready (ops : Array Oper) (listed : Array Bool) (i : Nat) : Bool :=
  !listed.getD i true && ((ops[i]?).map (·.after.all fun e => !Region.binds .any e || listed.getD e.on false)).getD false

theorem ready_iff {ops : Array Oper} (hd : Region.departs ops = false) {listed : Array Bool} (hs : listed.size = ops.size) {i : Nat} (hi : i < ops.size) :
    ready ops listed i = true ↔ listed.getD i false = false ∧ ∀ e, e ∈ (ops[i]).after → listed.getD e.on false = true := by
  have ho : ops[i]? = some ops[i] := Array.getElem?_eq_getElem hi
  have e1 : listed.getD i true = listed.getD i false := by simp [Array.getD, hs, hi]
  simp only [ready, ho, Option.map_some, Option.getD_some, Bool.and_eq_true, Bool.not_eq_true', e1]
  constructor
  · rintro ⟨h1, h2⟩
    refine ⟨h1, fun e he => ?_⟩
    rw [Array.all_eq_true_iff_forall_mem] at h2
    have := h2 e he
    rw [binds_of hd ho e he] at this
    simpa using this
  · rintro ⟨h1, h2⟩
    refine ⟨h1, ?_⟩
    rw [Array.all_eq_true_iff_forall_mem]
    intro e he
    rw [h2 e he]; simp

theorem go_succ (ops : Array Oper) (fuel t : Nat) (listed : Array Bool) (acc : List Nat) : Region.linearise.go .any ops (fuel + 1) t listed acc =
    match ((List.range ops.size).filter (ready ops listed))[t % ((List.range ops.size).filter (ready ops listed)).length]? with
    | some i => Region.linearise.go .any ops fuel (t / ((List.range ops.size).filter (ready ops listed)).length) (listed.setIfInBounds i true) (i :: acc)
    | none => acc.reverse := rfl

theorem set_getD {listed : Array Bool} {i : Nat} (hi : i < listed.size) (j : Nat) : (listed.setIfInBounds i true).getD j false = (listed.getD j false || j == i) := by
  rw [Array.getD_eq_getD_getElem?, Array.getElem?_setIfInBounds]
  by_cases e : i = j
  · subst e; simp [hi]
  · have : (j == i) = false := by simp; exact fun h => e h.symm
    rw [if_neg e, this, Bool.or_false, Array.getD_eq_getD_getElem?]

theorem go_tail {ops : Array Oper} {Cs : List (List Nat)} (hF : DrawFacts ops Cs) : ∀ (fuel t p : Nat) (acc : List Nat) (listed : Array Bool), Cs.length ≤ p → p ≤ ops.size → listed.size = ops.size → (∀ i, listed.getD i false = decide (i < p)) → ops.size - p ≤ fuel →
    Region.linearise.go .any ops fuel t listed acc = acc.reverse ++ List.range' p (ops.size - p)
  | 0, t, p, acc, listed, hm, hp, hs, hl, hf => by
    have : ops.size - p = 0 := by omega
    rw [this]; simp [Region.linearise.go]
  | fuel + 1, t, p, acc, listed, hm, hp, hs, hl, hf => by
    have hS : Closed ops (fun i => listed.getD i false = true) := by
      intro j o hj ho e he
      have hj' : j < p := by rw [hl] at hj; simpa using hj
      rw [hl]; have := hF.edge j o ho e he; simp; omega
    rcases Nat.lt_or_ge p ops.size with hlt | hge
    · have hrs : (List.range ops.size).filter (ready ops listed) = [p] := by
        have hsplit : List.range ops.size = List.range p ++ ([p] ++ (List.range (ops.size - (p + 1))).map (p + 1 + ·)) := by
          rw [← List.append_assoc, ← List.range_succ, ← List.range_add]; congr 1; omega
        rw [hsplit, List.filter_append, List.filter_append]
        have h1 : (List.range p).filter (ready ops listed) = [] := by
          rw [List.filter_eq_nil_iff]
          intro i hi hr
          simp only [List.mem_range] at hi
          have := ((ready_iff hF.dep hs (by omega)).1 hr).1
          rw [hl] at this; simp at this; omega
        have h2 : [p].filter (ready ops listed) = [p] := by
          rw [List.filter_cons_of_pos, List.filter_nil]
          refine (ready_iff hF.dep hs hlt).2 ⟨by rw [hl]; simp, fun e he => ?_⟩
          have := hF.edge p _ (Array.getElem?_eq_getElem hlt) e he
          rw [hl]; simpa using this
        have h3 : ((List.range (ops.size - (p + 1))).map (p + 1 + ·)).filter (ready ops listed) = [] := by
          rw [List.filter_eq_nil_iff]
          intro i hi hr
          simp only [List.mem_map, List.mem_range] at hi
          obtain ⟨q, hq, rfl⟩ := hi
          have hlt' : p + 1 + q < ops.size := by omega
          have := (ready_iff hF.dep hs hlt').1 hr
          have hb := hF.tail p (p + 1 + q) (by omega) hlt' (by omega)
          have := before_mem hS (Array.getElem?_eq_getElem hlt') hb this.2
          rw [hl] at this; simp at this
        rw [h1, h2, h3]; rfl
      rw [go_succ, hrs]
      simp only [List.length_singleton, Nat.mod_one, List.getElem?_cons_zero]
      rw [go_tail hF fuel _ (p + 1) (p :: acc) (listed.setIfInBounds p true) (by omega) (by omega) (by simpa using hs) (fun i => by
        rw [set_getD (by omega), hl]
        by_cases e : i = p
        · subst e; simp
        · have : (i == p) = false := by simpa using e
          rw [this, Bool.or_false]; congr 1; apply propext; omega) (by omega)]
      rw [show ops.size - p = (ops.size - (p + 1)) + 1 by omega, List.range'_succ]
      simp
    · have hrs : (List.range ops.size).filter (ready ops listed) = [] := by
        rw [List.filter_eq_nil_iff]
        intro i hi hr
        simp only [List.mem_range] at hi
        have := ((ready_iff hF.dep hs hi).1 hr).1
        rw [hl] at this; simp at this; omega
      rw [go_succ, hrs]
      have : ops.size - p = 0 := by omega
      rw [this]; simp

theorem go_all {L : Nat → Nat} {P : Program} {ops : Array Oper} {n : Nat} {os : List (Nat × Option (List AV))} {t0 : List (Nat × AV)} {D : List (AV × List Nat)} {K : AS → Prop} {B : Nat → Prop} {F0 : Nat → Prop} {w0 : World} {Q : Exit → Act → World → Prop} (hF : DrawFacts ops (D.map Prod.snd))
    (hst : ∀ j o d, ops[j]? = some o → D[j]? = some d → StepOK L P ops n os (runD ops D t0 (List.range j)) o d.1 d.2)
    (htl : OpsW L P ops (List.range' D.length (ops.size - D.length)) ⟨n, runD ops D t0 (List.range D.length), os⟩ K) (hQ : ∀ s' a' w', K s' → Den L B F0 w0 s' a' w' → Q .normal a' w') :
    ∀ (fuel t : Nat) (listed : Array Bool) (acc : List Nat), listed.size = ops.size → Closed ops (fun i => listed.getD i false = true) → (∀ j, D.length ≤ j → listed.getD j false = false) → ((List.range ops.size).filter fun i => !listed.getD i false).length ≤ fuel →
    ∃ rest, Region.linearise.go .any ops fuel t listed acc = acc.reverse ++ rest ∧ ∀ a w, Den L B F0 w0 ⟨n, runD ops D t0 ((List.range D.length).filter fun i => listed.getD i false), os⟩ a w → wpOps P ops Q rest a w := by
  intro fuel
  have hDle : D.length ≤ ops.size := by have := hF.le; simpa using this
  induction fuel with
  | zero =>
    intro t listed acc hs hS hno hcnt
    have hnil : (List.range ops.size).filter (fun i => !listed.getD i false) = [] := List.eq_nil_of_length_eq_zero (by omega)
    rw [List.filter_eq_nil_iff] at hnil
    have hall : ∀ i, i < ops.size → listed.getD i false = true := fun i hi => by simpa using hnil i (by simpa using hi)
    have hD : D.length = ops.size := by
      rcases Nat.lt_or_ge D.length ops.size with h | h
      · have := hall D.length h; rw [hno D.length (Nat.le_refl _)] at this; cases this
      · omega
    refine ⟨[], by simp [Region.linearise.go], fun a w hd => ?_⟩
    have hfil : (List.range D.length).filter (fun i => listed.getD i false) = List.range D.length := by
      rw [List.filter_eq_self]; intro i hi; exact hall i (by simp at hi; omega)
    rw [hfil] at hd
    have := htl B F0 w0 a w Q hd hQ
    rw [show ops.size - D.length = 0 by omega] at this
    exact this
  | succ fuel ih =>
    intro t listed acc hs hS hno hcnt
    by_cases hall : ∀ i, i < D.length → listed.getD i false = true
    · refine ⟨List.range' D.length (ops.size - D.length), ?_, fun a w hd => ?_⟩
      · refine go_tail hF (fuel + 1) t D.length acc listed (by simp) hDle hs (fun i => ?_) ?_
        · by_cases e : i < D.length
          · rw [hall i e]; simp [e]
          · rw [hno i (by omega)]; simp [e]
        · refine Nat.le_trans ?_ hcnt
          have hsplit : List.range ops.size = List.range D.length ++ (List.range (ops.size - D.length)).map (D.length + ·) := by
            rw [← List.range_add]; congr 1; omega
          rw [hsplit, List.filter_append, List.length_append]
          have : ((List.range (ops.size - D.length)).map (D.length + ·)).filter (fun i => !listed.getD i false) = (List.range (ops.size - D.length)).map (D.length + ·) := by
            rw [List.filter_eq_self]; intro i hi
            simp only [List.mem_map, List.mem_range] at hi
            obtain ⟨q, _, rfl⟩ := hi
            rw [hno _ (by omega)]; rfl
          rw [this]; simp
      · have hfil : (List.range D.length).filter (fun i => listed.getD i false) = List.range D.length := by
          rw [List.filter_eq_self]; intro i hi; exact hall i (by simpa using hi)
        rw [hfil] at hd
        exact htl B F0 w0 a w Q hd hQ
    · have hex : ∃ i, i < D.length ∧ listed.getD i false = false := by
        rcases Classical.em (∃ i, i < D.length ∧ listed.getD i false = false) with h | h
        · exact h
        · exact absurd (fun i hi => by
            rcases hb : listed.getD i false with _ | _
            · exact absurd ⟨i, hi, hb⟩ h
            · rfl) hall
      have hmin := least hex
      obtain ⟨i0, ⟨hi0, hl0⟩, hmin⟩ := hmin
      have hr0 : ready ops listed i0 = true := by
        refine (ready_iff hF.dep hs (by omega)).2 ⟨hl0, fun e he => ?_⟩
        have hlt := hF.edge i0 _ (Array.getElem?_eq_getElem (by omega)) e he
        rcases hb : listed.getD e.on false with _ | _
        · have := hmin e.on ⟨by omega, hb⟩; omega
        · rfl
      have hmem0 : i0 ∈ (List.range ops.size).filter (ready ops listed) := List.mem_filter.2 ⟨by simp; omega, hr0⟩
      have hpos : 0 < ((List.range ops.size).filter (ready ops listed)).length := List.length_pos_of_mem hmem0
      have hlt := Nat.mod_lt t hpos
      rw [go_succ, List.getElem?_eq_getElem hlt]
      have hmemj : ((List.range ops.size).filter (ready ops listed))[t % ((List.range ops.size).filter (ready ops listed)).length] ∈ (List.range ops.size).filter (ready ops listed) := List.getElem_mem hlt
      generalize ((List.range ops.size).filter (ready ops listed))[t % ((List.range ops.size).filter (ready ops listed)).length] = j at hmemj
      obtain ⟨hjn, hrj⟩ := List.mem_filter.1 hmemj
      simp only [List.mem_range] at hjn
      obtain ⟨hlj, hej⟩ := (ready_iff hF.dep hs hjn).1 hrj
      have hoj : ops[j]? = some ops[j] := Array.getElem?_eq_getElem hjn
      have hjD : j < D.length := by
        rcases Nat.lt_or_ge j D.length with h | h
        · exact h
        · have hb := hF.tail i0 j (by omega) hjn (by simpa using h)
          have := before_mem hS hoj hb hej
          rw [hl0] at this; cases this
      have hdj : D[j]? = some D[j] := List.getElem?_eq_getElem hjD
      have hS' : ∀ i, (listed.setIfInBounds j true).getD i false = (listed.getD i false || i == j) := set_getD (by omega)
      obtain ⟨rest, hrest, hwp⟩ := ih (t / ((List.range ops.size).filter (ready ops listed)).length) (listed.setIfInBounds j true) (j :: acc) (by simpa using hs) (by
        intro i o hi ho e he
        rw [hS'] at hi ⊢
        simp only [Bool.or_eq_true] at hi ⊢
        rcases hi with hi | hi
        · exact .inl (hS i o hi ho e he)
        · have : i = j := by simpa using hi
          subst this
          rw [hoj] at ho; cases ho
          exact .inl (hej e he)) (by
        intro i hi
        rw [hS', hno i hi]
        have : (i == j) = false := by simp; omega
        rw [this]; rfl) (by
        have := filter_lt (p := fun i => !listed.getD i false) (q := fun i => !(listed.setIfInBounds j true).getD i false) (fun i hi => by
          rw [hS'] at hi; simp only [Bool.not_or, Bool.and_eq_true] at hi; exact hi.1) (List.range ops.size) ⟨j, by simpa using hjn, by rw [hlj]; rfl, by rw [hS']; simp⟩
        omega)
      refine ⟨j :: rest, by dsimp only; rw [hrest]; simp, fun a w hd => ?_⟩
      have hSt := hst j ops[j] D[j] hoj hdj
      have hslots : ∀ k, k ∈ slotsOf ops ops[j] → T (runD ops D t0 ((List.range D.length).filter fun i => listed.getD i false)) k = T (runD ops D t0 (List.range j)) k := fun k hk =>
        slot_eq hF hS hoj hjD hlj hej t0 hk
      have hnext : ∀ a' w', Den L B F0 w0 ⟨n, upd ops[j] D[j].1 D[j].2 (runD ops D t0 ((List.range D.length).filter fun i => listed.getD i false)), os⟩ a' w' → wpOps P ops Q rest a' w' := fun a' w' h' =>
        hwp a' w' (DenAt.congr h' (step_eq hF hS hoj hdj hlj hS' t0))
      have hop : LOp L P ⟨n, keepT (runD ops D t0 (List.range j)) (slotsOf ops ops[j]), os⟩ ops[j] D[j].1 D[j].2 → (ops[j]).wp P a w (wpOps P ops Q rest) Q := fun hl =>
        (hl.of_keep hslots hSt.sub).opW hSt.dst (K := fun s' => s' = ⟨n, upd ops[j] D[j].1 D[j].2 (runD ops D t0 ((List.range D.length).filter fun i => listed.getD i false)), os⟩) rfl B F0 w0 a w _ Q hd fun s' a' w' e h' => by
          subst e; exact hnext a' w' h'
      rcases hSt.run with ⟨hg, hl⟩ | ⟨gi, want, oj, d, G, g, x0, hg, hgi, hgd, hgl, hT, hx, hC, h1⟩
      · simp only [wpOps, hoj]
        rw [if_pos (by simp [Region.wanted, hg])]
        exact .inl (hop hl)
      · have hk : d ∈ slotsOf ops ops[j] := by simp [slotsOf, hg, hgi, hgd]
        have hy := yielded_of hd hgi hgd (by rw [hslots d hk]; exact hT) hgl
        simp only [wpOps, hoj, Region.wanted, hg, hy]
        cases hw : (G && (g == want)) with
        | true =>
          have hl := (h1 hw).cnd
          rw [hw] at hx
          rw [← hx, ← hC] at hl
          simp at hw
          obtain ⟨rfl, rfl⟩ := hw
          rw [if_pos (by simp)]
          exact .inl (hop hl)
        | false =>
          rw [if_neg (by cases G <;> simp_all)]
          refine hnext _ _ ?_
          obtain ⟨F, own, fp, fs, h⟩ := hd
          have := h.put (x := .cnd false x0) (v := undef) (fx := []) [] (ops[j]).dst hSt.dst (Below.refl _ _) (fun _ h => h) (fun _ h => .inl h) (by simp [Rep]) (by simp) (by simp)
          rw [hx, hC, hw]
          exact this

theorem Den.drew {L : Nat → Nat} {B : Nat → Prop} {F0 : Nat → Prop} {w0 : World} {s : AS} {a : Act} {w : World} (h : Den L B F0 w0 s a w) : Den L B F0 w0 s a { w with drawn := w.drawn + 1 } := by
  obtain ⟨F, own, fp, fs, h⟩ := h
  have hext : Ext (fun _ => True) w { w with drawn := w.drawn + 1 } := ⟨Nat.le_refl _, fun _ _ => rfl, fun b c T z hc => ⟨c, hc, rfl⟩⟩
  refine ⟨F, own, fp, fs, { h with below := ⟨h.below.os, h.below.tape, h.below.output, h.below.size, h.below.block, h.below.shape⟩, slots := fun i => Rep.ext hext (fun b hb => ⟨hb, trivial⟩) (fun _ _ => trivial) (h.slots i), obj := fun b cells hb => ?_ }⟩
  obtain ⟨h1, h2, h3, c, Ty, vals, rest, h4, h5, h6⟩ := h.obj b cells hb
  exact ⟨h1, h2, h3, c, Ty, vals, rest, h4, h5, RepL.ext hext (fun b hb => ⟨hb, trivial⟩) (fun _ _ => trivial) h6⟩

/-- what a run in the text's order has told -/
theorem DrawG.inv {L : Nat → Nat} {P : Program} {ops : Array Oper} {n : Nat} {os : List (Nat × Option (List AV))} {K : List (Nat × AV) → List (AV × List Nat) → Prop} {t0 : List (Nat × AV)} :
    ∀ {i : Nat} {t : List (Nat × AV)} {acc : List (AV × List Nat)}, DrawG L P ops n os K i t acc → i = acc.length → t = runD ops acc t0 (List.range acc.length) →
    (∀ j o d, ops[j]? = some o → acc[j]? = some d → StepOK L P ops n os (runD ops acc t0 (List.range j)) o d.1 d.2) →
    ∃ D, K (runD ops D t0 (List.range D.length)) D ∧ ∀ j o d, ops[j]? = some o → D[j]? = some d → StepOK L P ops n os (runD ops D t0 (List.range j)) o d.1 d.2 := by
  intro i t acc h
  induction h with
  | done hK => rintro _ rfl hst; exact ⟨_, hK, hst⟩
  | @step i t acc o x C ho hs _ ih =>
    rintro rfl rfl hst
    have hpre : ∀ j, j ≤ acc.length → runD ops (acc ++ [(x, C)]) t0 (List.range j) = runD ops acc t0 (List.range j) := by
      intro j
      induction j with
      | zero => intro _; rfl
      | succ j ihj =>
        intro hj
        rw [List.range_succ, runD_snoc, runD_snoc, ihj (by omega), List.getElem?_append_left (by omega)]
    refine ih (by simp) ?_ ?_
    · rw [List.length_append, List.length_singleton, List.range_succ, runD_snoc, hpre _ (Nat.le_refl _)]
      simp [ho]
    · intro j o' d ho' hd
      rcases Nat.lt_or_ge j acc.length with h | h
      · rw [List.getElem?_append_left h] at hd
        rw [hpre j (by omega)]
        exact hst j o' d ho' hd
      · have hj : j = acc.length := by
          rcases Nat.lt_or_ge j (acc ++ [(x, C)]).length with h' | h'
          · simp at h'; omega
          · rw [List.getElem?_eq_none h'] at hd; cases hd
        subst hj
        simp at hd
        subst hd
        rw [ho] at ho'
        cases ho'
        rw [hpre _ (Nat.le_refl _)]
        exact hs

/-- a region in whatever order: first operations that only make, then those that come behind all of them -/
theorem AW.draw {L : Nat → Nat} {P : Program} {s : AS} {Q : Exit → AS → Prop} {id : Nat} {ops : Array Oper}
    (h : DrawG L P ops s.n s.o (fun t D => drawOK ops (D.map Prod.snd) = true ∧ OpsW L P ops (List.range' D.length (ops.size - D.length)) ⟨s.n, t, s.o⟩ (fun s' => Q .normal s')) 0 s.t []) :
    AW L P (.region id ops true) s Q := by
  intro B F0 w0 a w hd
  obtain ⟨D, ⟨hok, htl⟩, hst⟩ := h.inv (t0 := s.t) rfl rfl (by simp)
  have hF := drawOK_facts hok
  refine wp_region_draw fun t => ?_
  have hsch : ∀ mixed, Region.schedule mixed ops t = Region.linearise .any ops t := by
    intro mixed; simp [Region.schedule, hF.dep]
  rw [hsch]
  obtain ⟨rest, hrest, hwp⟩ := go_all (Q := fun e a' w' => ∃ s', Q e s' ∧ Den L B F0 w0 s' a' w') (B := B) (F0 := F0) (w0 := w0) hF hst htl (fun s' a' w' h1 h2 => ⟨s', h1, h2⟩) ops.size t (Array.replicate ops.size false) [] (by simp) (by
    intro j o hj
    rw [Array.getD_eq_getD_getElem?, Array.getElem?_replicate] at hj
    split at hj <;> simp at hj) (by
    intro j _
    rw [Array.getD_eq_getD_getElem?, Array.getElem?_replicate]
    split <;> rfl) (by
    have := List.length_filter_le (fun i => !(Array.replicate ops.size false).getD i false) (List.range ops.size)
    simpa using this)
  unfold Region.linearise
  rw [hrest]
  simp only [List.reverse_nil, List.nil_append]
  refine hwp a _ ?_
  have : (List.range D.length).filter (fun i => (Array.replicate ops.size false).getD i false) = [] := by
    rw [List.filter_eq_nil_iff]
    intro i _
    rw [Array.getD_eq_getD_getElem?, Array.getElem?_replicate]
    split <;> simp
  rw [this]
  exact hd.drew
end Go.Ab
