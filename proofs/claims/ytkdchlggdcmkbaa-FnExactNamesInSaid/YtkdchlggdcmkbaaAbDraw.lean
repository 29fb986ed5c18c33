/-
  The logic's regions in which the order is drawn.
-/
import Derived.Test.YtkdchlggdcmkbaaAbCall
set_option linter.unusedSimpArgs false
set_option linter.unusedVariables false
namespace Go.Ab
open Go.RowKit (Below)

def slotsOf (ops : Array Oper) (o : Oper) : List Nat :=
  (o.op.operands.toList.filterMap fun | .tmp t => some t | _ => none) ++ (match o.guard with | some (j, _) => ((ops[j]?).bind (·.dst)).toList | none => [])

def upd (o : Oper) (x : AV) (C : List Nat) (t : List (Nat × AV)) : List (Nat × AV) := put (killL t C) o.dst x

theorem T_upd (o : Oper) (x : AV) (C : List Nat) (t : List (Nat × AV)) (k : Nat) : T (upd o x C t) k = if o.dst = some k then x else if k ∈ C then .dead else T t k := by
  simp only [upd, T_put, T_kill]

/-- one step of a region in whatever order: the operation, seen from its operands alone -/
structure StepOK (L : Nat → Nat) (P : Program) (ops : Array Oper) (n : Nat) (os : List (Nat × Option (List AV))) (t : List (Nat × AV)) (o : Oper) (x : AV) (C : List Nat) : Prop where
  dst : dstOK n o.dst = true
  sub : ∀ i, i ∈ C → i ∈ slotsOf ops o
  run : (o.guard = none ∧ LOp L P ⟨n, keepT t (slotsOf ops o), os⟩ o x C) ∨
    ∃ j want oj d G g x0, o.guard = some (j, want) ∧ ops[j]? = some oj ∧ oj.dst = some d ∧ Nat.blt d n = true ∧ gval (T t d) = some (G, g) ∧ x = .cnd (G && (g == want)) x0 ∧ C = [] ∧
      ((G && (g == want)) = true → LOp L P ⟨n, keepT t (slotsOf ops o), os⟩ o x0 [])

inductive DrawG (L : Nat → Nat) (P : Program) (ops : Array Oper) (n : Nat) (os : List (Nat × Option (List AV))) (K : List (Nat × AV) → List (AV × List Nat) → Prop) : Nat → List (Nat × AV) → List (AV × List Nat) → Prop
  | done {i t acc} : K t acc → DrawG L P ops n os K i t acc
  | step {i t acc} (o : Oper) (x : AV) (C : List Nat) : ops[i]? = some o → StepOK L P ops n os t o x C → DrawG L P ops n os K (i + 1) (upd o x C t) (acc ++ [(x, C)]) → DrawG L P ops n os K i t acc

/-- the state behind the first operations of a list -/
def runD (ops : Array Oper) (D : List (AV × List Nat)) (t : List (Nat × AV)) : List Nat → List (Nat × AV)
  | [] => t
  | i :: l => runD ops D (match ops[i]?, D[i]? with | some o, some d => upd o d.1 d.2 t | _, _ => t) l

theorem runD_append (ops : Array Oper) (D : List (AV × List Nat)) : ∀ (l1 l2 : List Nat) (t : List (Nat × AV)), runD ops D t (l1 ++ l2) = runD ops D (runD ops D t l1) l2
  | [], l2, t => rfl
  | i :: l1, l2, t => by simp only [List.cons_append, runD]; exact runD_append ops D l1 l2 _

/-- what the operation i writes -/
def wr (ops : Array Oper) (Cs : List (List Nat)) (i : Nat) : List Nat := ((ops[i]?).bind (·.dst)).toList ++ (Cs[i]?).getD []
def rd (ops : Array Oper) (i : Nat) : List Nat := match ops[i]? with | some o => slotsOf ops o | none => []

def conf (ops : Array Oper) (Cs : List (List Nat)) (i j : Nat) : Bool :=
  (wr ops Cs i).any (fun k => (rd ops j).contains k || (wr ops Cs j).contains k) || (rd ops i).any (fun k => (wr ops Cs j).contains k)

def drawOK (ops : Array Oper) (Cs : List (List Nat)) : Bool :=
  let b := Region.before ops
  let m := Cs.length
  !Region.departs ops && Nat.ble m ops.size &&
  ((List.range ops.size).all fun i => ((ops[i]?).map fun o => o.after.all fun e => Nat.blt e.on i).getD true) &&
  ((List.range m).all fun j => (List.range j).all fun i => !conf ops Cs i j || (b.getD j 0).testBit i) &&
  ((List.range ops.size).all fun j => Nat.blt j m || (List.range j).all fun i => (b.getD j 0).testBit i)

/-- at the slot k only what writes it matters -/
theorem T_runD {ops : Array Oper} {D : List (AV × List Nat)} (k : Nat) : ∀ (l : List Nat) (t t' : List (Nat × AV)), T t k = T t' k →
    T (runD ops D t l) k = T (runD ops D t' (l.filter fun i => (wr ops (D.map Prod.snd) i).contains k)) k
  | [], t, t', h => h
  | i :: l, t, t', h => by
    cases hk : (wr ops (D.map Prod.snd) i).contains k with
    | true =>
      rw [List.filter_cons_of_pos (by simpa using hk)]
      simp only [runD]
      refine T_runD k l _ _ ?_
      split
      · rw [T_upd, T_upd, h]
      · exact h
    | false =>
      rw [List.filter_cons_of_neg (by simpa using hk)]
      simp only [runD]
      refine T_runD k l _ _ ?_
      split
      · rename_i o d ho hd
        rw [T_upd]
        simp [wr, ho, hd] at hk
        rw [if_neg (fun e => hk.1 e), if_neg hk.2, h]
      · exact h

/-- a set of operations that holds with each one all that it comes behind -/
def Closed (ops : Array Oper) (S : Nat → Prop) : Prop := ∀ j o, S j → ops[j]? = some o → ∀ e, e ∈ o.after → S e.on

theorem mask_bits (acc : Array Nat) (i : Nat) : ∀ (es : List Edge) (s0 : Nat), ((es.foldl (fun s e => if Region.binds .any e then s ||| 2 ^ e.on ||| acc.getD e.on 0 else s) s0).testBit i = true) →
    s0.testBit i = true ∨ ∃ e, e ∈ es ∧ (e.on = i ∨ (acc.getD e.on 0).testBit i = true)
  | [], s0, h => .inl h
  | e :: es, s0, h => by
    simp only [List.foldl_cons] at h
    rcases mask_bits acc i es _ h with h | ⟨e', he', h⟩
    · by_cases hb : Region.binds .any e = true
      · rw [if_pos hb] at h
        simp only [Nat.testBit_or, Bool.or_eq_true] at h
        rcases h with (h | h) | h
        · exact .inl h
        · rw [Nat.testBit_two_pow] at h
          exact .inr ⟨e, by simp, .inl (by simpa using h)⟩
        · exact .inr ⟨e, by simp, .inr h⟩
      · rw [if_neg hb] at h
        exact .inl h
    · exact .inr ⟨e', by simp [he'], h⟩

theorem before_fold (ops : Array Oper) (S : Nat → Prop) (hS : Closed ops S) : ∀ (l2 l1 : List Oper) (acc : Array Nat), ops.toList = l1 ++ l2 → acc.size = l1.length →
    (∀ j o i, l1[j]? = some o → (acc.getD j 0).testBit i = true → (∀ e, e ∈ o.after → S e.on) → S i) →
    ∀ j o i, ops[j]? = some o → ((l2.foldl (fun acc o => acc.push (o.after.foldl (fun s e => if Region.binds .any e then s ||| 2 ^ e.on ||| acc.getD e.on 0 else s) 0)) acc).getD j 0).testBit i = true → (∀ e, e ∈ o.after → S e.on) → S i
  | [], l1, acc, hl, _, hP, j, o, i, ho, hb, he => by
    simp only [List.append_nil] at hl
    exact hP j o i (by rw [← hl, Array.getElem?_toList]; exact ho) hb he
  | q :: l2, l1, acc, hl, hsz, hP, j, o, i, ho, hb, he => by
    simp only [List.foldl_cons] at hb
    refine before_fold ops S hS l2 (l1 ++ [q]) _ (by simpa using hl) (by simp [hsz]) ?_ j o i ho hb he
    intro j' o' i' ho' hb' he'
    by_cases hlt : j' < l1.length
    · rw [List.getElem?_append_left hlt] at ho'
      rw [Array.getD_eq_getD_getElem?, Array.getElem?_push, if_neg (by omega), ← Array.getD_eq_getD_getElem?] at hb'
      exact hP j' o' i' ho' hb' he'
    · have hj : j' = l1.length := by
        rcases Nat.lt_or_ge j' (l1 ++ [q]).length with h | h
        · simp at h; omega
        · rw [List.getElem?_eq_none h] at ho'; cases ho'
      subst hj
      simp at ho'
      subst ho'
      rw [Array.getD_eq_getD_getElem?, Array.getElem?_push, if_pos hsz.symm, Option.getD_some, ← Array.foldl_toList] at hb'
      rcases mask_bits acc i' q.after.toList 0 hb' with h | ⟨e, hm, h⟩
      · simp at h
      · have hse : S e.on := he' e (by simpa using hm)
        rcases h with rfl | h
        · exact hse
        · by_cases hlt' : e.on < l1.length
          · have hget : l1[e.on]? = some l1[e.on] := List.getElem?_eq_getElem hlt'
            refine hP e.on _ i' hget h fun e' he'' => hS e.on l1[e.on] hse ?_ e' he''
            rw [← Array.getElem?_toList, hl, List.getElem?_append_left hlt']; exact hget
          · rw [Array.getD_eq_getD_getElem?, Array.getElem?_eq_none (by omega)] at h
            simp at h

theorem before_mem {ops : Array Oper} {S : Nat → Prop} (hS : Closed ops S) {i j : Nat} {o : Oper} (ho : ops[j]? = some o) (hb : ((Region.before ops).getD j 0).testBit i = true) (he : ∀ e, e ∈ o.after → S e.on) : S i := by
  unfold Region.before at hb
  simp only [← Array.foldl_toList] at hb
  refine before_fold ops S hS ops.toList [] #[] (by simp) (by simp) (by simp) j o i ho ?_ he
  simpa only [← Array.foldl_toList] using hb
end Go.Ab
