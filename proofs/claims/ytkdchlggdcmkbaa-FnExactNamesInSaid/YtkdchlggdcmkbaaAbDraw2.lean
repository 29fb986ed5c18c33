/-
  The logic's regions in which the order is drawn: more.
-/
import Derived.Test.YtkdchlggdcmkbaaAbDraw
set_option linter.unusedSimpArgs false
set_option linter.unusedVariables false
namespace Go.Ab
open Go.RowKit (Below)

structure DrawFacts (ops : Array Oper) (Cs : List (List Nat)) : Prop where
  dep : Region.departs ops = false
  le : Cs.length ≤ ops.size
  edge : ∀ (i : Nat) (o : Oper), ops[i]? = some o → ∀ e, e ∈ o.after → e.on < i
  conf : ∀ i j, i < j → j < Cs.length → conf ops Cs i j = true → ((Region.before ops).getD j 0).testBit i = true
  tail : ∀ i j, i < j → j < ops.size → Cs.length ≤ j → ((Region.before ops).getD j 0).testBit i = true

theorem drawOK_facts {ops : Array Oper} {Cs : List (List Nat)} (h : drawOK ops Cs = true) : DrawFacts ops Cs := by
  simp only [drawOK, Bool.and_eq_true, Bool.not_eq_true'] at h
  obtain ⟨⟨⟨⟨h1, h2⟩, h3⟩, h4⟩, h5⟩ := h
  refine ⟨h1, by simpa using h2, ?_, ?_, ?_⟩
  · intro i o ho e he
    have hlt : i < ops.size := by
      rcases Nat.lt_or_ge i ops.size with h | h
      · exact h
      · rw [Array.getElem?_eq_none h] at ho; cases ho
    have := List.all_eq_true.1 h3 i (by simpa using hlt)
    rw [ho] at this
    simp only [Option.map_some, Option.getD_some] at this
    rw [Array.all_eq_true_iff_forall_mem] at this
    simpa using this e he
  · intro i j hij hj hc
    have := List.all_eq_true.1 (List.all_eq_true.1 h4 j (by simpa using hj)) i (by simpa using hij)
    simpa [hc] using this
  · intro i j hij hj hm
    have := List.all_eq_true.1 h5 j (by simpa using hj)
    simp only [Bool.or_eq_true] at this
    rcases this with h | h
    · simp at h; omega
    · exact List.all_eq_true.1 h i (by simpa using hij)

theorem filter_congr' {l : List Nat} {p q : Nat → Bool} (h : ∀ i, i ∈ l → p i = q i) : l.filter p = l.filter q := List.filter_congr h

/-- the operands of an operation that may go next hold what they hold in the text's order -/
theorem slot_eq {ops : Array Oper} {D : List (AV × List Nat)} (hF : DrawFacts ops (D.map Prod.snd)) {S : Nat → Bool} (hS : Closed ops (fun i => S i = true)) {j : Nat} {o : Oper} (ho : ops[j]? = some o) (hj : j < D.length) (hSj : S j = false)
    (he : ∀ e, e ∈ o.after → S e.on = true) (t : List (Nat × AV)) {k : Nat} (hk : k ∈ slotsOf ops o) :
    T (runD ops D t ((List.range D.length).filter S)) k = T (runD ops D t (List.range j)) k := by
  have hrd : (rd ops j).contains k = true := by simp [rd, ho, hk]
  rw [T_runD k _ t t rfl, T_runD k (List.range j) t t rfl]
  congr 2
  rw [List.filter_filter]
  have hsplit : List.range D.length = List.range j ++ (List.range (D.length - j)).map (j + ·) := by
    rw [← List.range_add]; congr 1; omega
  rw [hsplit, List.filter_append]
  have h2 : ((List.range (D.length - j)).map (j + ·)).filter (fun a => (wr ops (D.map Prod.snd) a).contains k && S a) = [] := by
    rw [List.filter_eq_nil_iff]
    intro i hi hc
    simp only [List.mem_map, List.mem_range] at hi
    obtain ⟨d, hd, rfl⟩ := hi
    simp only [Bool.and_eq_true] at hc
    rcases Nat.eq_zero_or_pos d with rfl | hpos
    · simp [hSj] at hc
    · have hlt : j + d < ops.size := by have := hF.le; simp at this; omega
      have hconf : conf ops (D.map Prod.snd) j (j + d) = true := by
        simp only [conf, Bool.or_eq_true, List.any_eq_true]
        exact .inr ⟨k, by simpa using hrd, hc.1⟩
      have hb := hF.conf j (j + d) (by omega) (by simp; omega) hconf
      have hs := before_mem hS (Array.getElem?_eq_getElem hlt) hb (fun e he' => hS (j + d) _ hc.2 (Array.getElem?_eq_getElem hlt) e he')
      rw [hSj] at hs; cases hs
  rw [h2, List.append_nil]
  refine filter_congr' fun i hi => ?_
  simp only [List.mem_range] at hi
  cases hw : (wr ops (D.map Prod.snd) i).contains k with
  | false => simp
  | true =>
    have hconf : conf ops (D.map Prod.snd) i j = true := by
      simp only [conf, Bool.or_eq_true, List.any_eq_true]
      exact .inl ⟨k, by simpa using hw, .inl hrd⟩
    have hb := hF.conf i j hi (by simpa using hj) hconf
    simpa using before_mem hS ho hb he

theorem runD_snoc (ops : Array Oper) (D : List (AV × List Nat)) (t : List (Nat × AV)) (l : List Nat) (j : Nat) : runD ops D t (l ++ [j]) = match ops[j]?, D[j]? with | some o, some d => upd o d.1 d.2 (runD ops D t l) | _, _ => runD ops D t l := by
  rw [runD_append]; rfl

/-- one more operation, out of turn -/
theorem step_eq {ops : Array Oper} {D : List (AV × List Nat)} (hF : DrawFacts ops (D.map Prod.snd)) {S S' : Nat → Bool} (hS : Closed ops (fun i => S i = true)) {j : Nat} {o : Oper} {d : AV × List Nat} (ho : ops[j]? = some o) (hd : D[j]? = some d) (hSj : S j = false)
    (hS' : ∀ i, S' i = (S i || i == j)) (t : List (Nat × AV)) (k : Nat) :
    T (upd o d.1 d.2 (runD ops D t ((List.range D.length).filter S))) k = T (runD ops D t ((List.range D.length).filter S')) k := by
  have hj : j < D.length := by
    rcases Nat.lt_or_ge j D.length with h | h
    · exact h
    · rw [List.getElem?_eq_none h] at hd; cases hd
  have hsplit : List.range D.length = List.range j ++ ([j] ++ (List.range (D.length - (j + 1))).map (j + 1 + ·)) := by
    rw [← List.append_assoc, ← List.range_succ, ← List.range_add]; congr 1; omega
  cases hw : (wr ops (D.map Prod.snd) j).contains k with
  | false =>
    rw [T_upd]
    have hw' := hw
    simp [wr, ho, hd] at hw'
    rw [if_neg (fun e => hw'.1 e), if_neg hw'.2, T_runD k _ t t rfl, T_runD k ((List.range D.length).filter S') t t rfl, List.filter_filter, List.filter_filter]
    congr 2
    refine filter_congr' fun i _ => ?_
    rw [hS']
    by_cases e : i = j
    · subst e; rw [hw]; simp
    · have : (i == j) = false := by simpa using e
      simp [this]
  | true =>
    have e0 : ∀ t0 : List (Nat × AV), T (upd o d.1 d.2 t0) k = if o.dst = some k then d.1 else .dead := by
      intro t0
      rw [T_upd]
      have hw' := hw
      simp [wr, ho, hd] at hw'
      by_cases e : o.dst = some k
      · simp [e]
      · rcases hw' with e' | e'
        · exact absurd e' e
        · simp [e, e']
    rw [e0, T_runD k ((List.range D.length).filter S') t t rfl, List.filter_filter, hsplit, List.filter_append, List.filter_append]
    have h2 : ((List.range (D.length - (j + 1))).map (j + 1 + ·)).filter (fun a => (wr ops (D.map Prod.snd) a).contains k && S' a) = [] := by
      rw [List.filter_eq_nil_iff]
      intro i hi hc
      simp only [List.mem_map, List.mem_range] at hi
      obtain ⟨q, hq, rfl⟩ := hi
      simp only [Bool.and_eq_true, hS'] at hc
      have hne : (j + 1 + q == j) = false := by simp; omega
      rw [hne, Bool.or_false] at hc
      have hlt : j + 1 + q < ops.size := by have := hF.le; simp at this; omega
      have hconf : conf ops (D.map Prod.snd) j (j + 1 + q) = true := by
        simp only [conf, Bool.or_eq_true, List.any_eq_true]
        exact .inl ⟨k, by simpa using hw, .inr hc.1⟩
      have hb := hF.conf j (j + 1 + q) (by omega) (by simp; omega) hconf
      have hs := before_mem hS (Array.getElem?_eq_getElem hlt) hb (fun e he' => hS (j + 1 + q) _ hc.2 (Array.getElem?_eq_getElem hlt) e he')
      rw [hSj] at hs; cases hs
    have h1 : [j].filter (fun a => (wr ops (D.map Prod.snd) a).contains k && S' a) = [j] := by
      rw [List.filter_cons_of_pos (by simp only [hw, hS']; simp), List.filter_nil]
    rw [h2, h1, List.append_nil, runD_snoc]
    simp only [ho, hd]
    rw [e0]

theorem DenAt.congr {L : Nat → Nat} {B : Nat → Prop} {F0 : Nat → Prop} {w0 : World} {n : Nat} {t t' : List (Nat × AV)} {os : List (Nat × Option (List AV))} {a : Act} {w : World} (h : Den L B F0 w0 ⟨n, t, os⟩ a w) (ht : ∀ k, T t k = T t' k) : Den L B F0 w0 ⟨n, t', os⟩ a w :=
  h.weaken rfl (fun k => .inl (ht k).symm) (fun _ _ h => h)

/-- an operation that is known from its operands alone, in any state that has them -/
theorem LOp.of_keep {L : Nat → Nat} {P : Program} {n : Nat} {t t' : List (Nat × AV)} {os : List (Nat × Option (List AV))} {o : Oper} {x : AV} {C ks : List Nat} (h : LOp L P ⟨n, keepT t ks, os⟩ o x C) (ht : ∀ k, k ∈ ks → T t' k = T t k) (hC : ∀ i, i ∈ C → i ∈ ks) : LOp L P ⟨n, t', os⟩ o x C := by
  intro B F0 w0 F own fp fs a w next Q hd hnext
  have hT : ∀ i, i ∈ ks → T (keepT t ks) i = T t i := by
    intro i hi
    clear h hC ht
    induction ks with
    | nil => cases hi
    | cons q ks ih =>
      simp only [keepT, List.map_cons, T]
      by_cases e : q = i
      · subst e; simp
      · have : (q == i) = false := by simpa using e
        rw [this]
        rcases List.mem_cons.1 hi with rfl | hi
        · exact absurd rfl e
        · exact ih hi
  have hT' : ∀ i, i ∉ ks → T (keepT t ks) i = .dead := by
    intro i hi
    clear h hC ht hT
    induction ks with
    | nil => rfl
    | cons q ks ih =>
      simp only [keepT, List.map_cons, T]
      have e : ¬ q = i := fun e => hi (by simp [e])
      have : (q == i) = false := by simpa using e
      rw [this]
      exact ih (fun h => hi (by simp [h]))
  classical
  refine h B F0 w0 F own (fun i => if i ∈ ks then fp i else []) fs a w next Q { hd with slots := ?_, sn := ?_, so := ?_ } ?_
  · intro i
    by_cases e : i ∈ ks
    · simp only [if_pos e, hT i e, ← ht i e]; exact hd.slots i
    · simp only [if_neg e, hT' i e]; simp [Rep]
  · intro i
    split
    · exact hd.sn i
    · simp
  · intro i b hb
    split at hb
    · exact hd.so i b hb
    · simp at hb
  · intro v w' g
    refine hnext v w' ⟨g.below, ?_⟩
    obtain ⟨F', fx, h1, h2, h3, h4, h5⟩ := g.rep
    refine ⟨F', fx, h1, fun b hb => ?_, h3, h4, fun b hb => ⟨(h5 b hb).1, ?_⟩⟩
    · rcases h2 b hb with e | e | ⟨i, hi, e⟩
      · exact .inl e
      · exact .inr (.inl e)
      · exact .inr (.inr ⟨i, hi, by simpa [hC i hi] using e⟩)
    · rcases (h5 b hb).2 with ⟨i, hi, e⟩ | e
      · exact .inl ⟨i, hi, by simpa [hC i hi] using e⟩
      · exact .inr e
end Go.Ab
