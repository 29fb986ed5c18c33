/-
  The logic's stepping of a region.
-/
import Derived.Test.YtkdchlggdcmkbaaAbW
set_option linter.unusedSimpArgs false
set_option linter.unusedVariables false
namespace Go.Ab
open Go.RowKit (Below)

/-- does the operation only make -/
def isL (eff : List Nat) (o : Oper) : Bool :=
  match o.op with
  | .load .. => match o.dst with | some d => !eff.contains d | none => true
  | .move _ | .assign _ | .pick .. | .build .. | .nilCheck _ | .binOp .. | .unOp .. | .convert .. | .makeFunc .. | .slice .. | .fieldAddr .. | .field .. | .indexAddr .. | .index .. | .extract .. => true
  | .box .. | .buildSlice .. => match o.dst with | some d => !eff.contains d | none => true
  | .call c => match c.callee with
    | .builtin .len | .builtin .min | .builtin .max => true
    | .value _ => match o.dst with | some d => !eff.contains d | none => false
    | _ => false
  | _ => false

def AV.strip : AV → AV
  | .cnd _ x => x
  | x => x

theorem avz_strip (v : Value) : (avz v).strip = avz v := by
  cases v with
  | string s =>
    simp only [avz]
    cases Nat.ble s.data.toList.length 4611686018427387904 <;> rfl
  | _ => rfl

/-- may the value be read where G holds -/
def okc (G : Bool) : AV → Prop
  | .cnd g _ => G = true → g = true
  | _ => True

def okcL (t : List (Nat × AV)) (G : Bool) : List Operand → Prop
  | [] => True
  | .tmp i :: xs => okc G (T t i) ∧ okcL t G xs
  | _ :: xs => okcL t G xs

def evS (t : List (Nat × AV)) (y : Operand) : AV := (ev t y).strip

/-- the slots that an operation reads under its guard alone -/
def stS : List Operand → List Nat
  | [] => []
  | .tmp i :: xs => i :: stS xs
  | _ :: xs => stS xs
def stO : Op → List Nat
  | .pick c _ _ => stS [c]
  | op => stS op.operands.toList
def okcK (t : List (Nat × AV)) (G : Bool) : List Nat → Prop
  | [] => True
  | i :: xs => okc G (T t i) ∧ okcK t G xs
def memN : List Nat → Nat → Bool
  | [], _ => false
  | k :: ks, i => Nat.beq k i || memN ks i
def evK (t : List (Nat × AV)) (ks : List Nat) : Operand → AV
  | .tmp i => bif memN ks i then (T t i).strip else T t i
  | y => ev t y

theorem memN_iff {ks : List Nat} {i : Nat} : memN ks i = true ↔ i ∈ ks := by
  induction ks with
  | nil => simp [memN]
  | cons k ks ih =>
    simp only [memN, Bool.or_eq_true, ih, List.mem_cons]
    constructor
    · rintro (h | h)
      · exact .inl (Nat.eq_of_beq_eq_true h).symm
      · exact .inr h
    · rintro (h | h)
      · exact .inl (by rw [h]; exact Nat.beq_refl _)
      · exact .inr h

theorem okcK_mem {t : List (Nat × AV)} {G : Bool} : ∀ {ks : List Nat} {i : Nat}, okcK t G ks → i ∈ ks → okc G (T t i)
  | [], _, _, h => by cases h
  | k :: ks, i, hk, h => by
    rcases List.mem_cons.1 h with rfl | h
    · exact hk.1
    · exact okcK_mem hk.2 h

/-- the operations in the text's order, as far as they only make -/
def W (L : Nat → Nat) (P : Program) (ops : Array Oper) (eff : List Nat) (n : Nat) (os : List (Nat × Option (List AV))) (K : List (Nat × AV) → List (AV × List Nat) → List Nat → Prop) : List Nat → List (Nat × AV) → List (AV × List Nat) → Prop
  | [], t, D => K t D []
  | i :: l, t, D =>
    match ops[i]? with
    | none => False
    | some o =>
      match isL eff o with
      | false => K t D (i :: l)
      | true => dstOK n o.dst = true ∧ (match o.guard with
        | none => ovc L P os (ev t) true o.op (fun x C => W L P ops eff n os K l (upd o x C t) (D ++ [(x, C)]))
        | some (j, want) => match (ops[j]?).bind (·.dst) with
          | none => False
          | some d => Nat.blt d n = true ∧ (match gval (T t d) with
            | none => False
            | some (G, g) => okcK t (G && (g == want)) (stO o.op) ∧
              ovc L P os (evK t (stO o.op)) (G && (g == want)) o.op (fun x C => C = [] ∧ W L P ops eff n os K l (upd o (.cnd (G && (g == want)) x) [] t) (D ++ [(.cnd (G && (g == want)) x, [])]))))

section
variable {L : Nat → Nat} {P : Program} {ops : Array Oper} {eff : List Nat} {n : Nat} {os : List (Nat × Option (List AV))}

/-- operands that are known where the guard holds -/
theorem LOp.of_strip {t : List (Nat × AV)} {o : Oper} {x : AV} {C : List Nat} {G : Bool} {ks : List Nat} (hG : G = true) (hok : okcK t G ks) (h : ∀ s : AS, (∀ y, y ∈ o.op.operands.toList → ev s.t y = evK t ks y) → s.o = os → LOp L P s o x C) (s : AS) (hs : ∀ y, y ∈ o.op.operands.toList → ev s.t y = ev t y) (hso : s.o = os) : LOp L P s o x C := by
  intro B F0 w0 F own fp fs a w next Q hd hnext
  classical
  -- the slots to be laid bare that the operation reads
  let ks' : List Nat := ks.filter fun i => decide (.tmp i ∈ o.op.operands.toList)
  have hT : ∀ (q : List Nat) (i : Nat), T (q.map (fun k => (k, (T s.t k).strip)) ++ s.t) i = if i ∈ q then (T s.t i).strip else T s.t i := by
    intro q i
    induction q with
    | nil => simp
    | cons k q ih =>
      simp only [List.map_cons, List.cons_append, T]
      by_cases e : k = i
      · subst e; simp
      · have e1 : (k == i) = false := by simpa using e
        have e2 : ¬ i = k := fun h => e h.symm
        rw [e1]; simp [e2, ih]
  have hks : ∀ i, i ∈ ks' ↔ i ∈ ks ∧ .tmp i ∈ o.op.operands.toList := by
    intro i; simp only [ks', List.mem_filter, decide_eq_true_eq]
  refine h ⟨s.n, ks'.map (fun k => (k, (T s.t k).strip)) ++ s.t, s.o⟩ ?_ hso B F0 w0 F own fp fs a w next Q { hd with slots := ?_ } hnext
  · intro y hy
    cases y with
    | tmp i =>
      have e1 := hs (.tmp i) hy
      simp only [ev] at e1
      simp only [ev, evK, hT]
      by_cases hi : i ∈ ks
      · rw [if_pos ((hks i).2 ⟨hi, hy⟩), memN_iff.2 hi, e1]; rfl
      · rw [if_neg (fun h => hi ((hks i).1 h).1)]
        cases hm : memN ks i with
        | true => exact absurd (memN_iff.1 hm) hi
        | false => exact e1
    | const v => rfl
    | global _ => rfl
    | func _ => rfl
  · intro i
    simp only [hT]
    split
    · rename_i hi
      obtain ⟨h1, h2⟩ := (hks i).1 hi
      have e1 := hs (.tmp i) h2
      simp only [ev] at e1
      have e2 := okcK_mem hok h1
      rw [← e1] at e2
      have hr := hd.slots i
      cases hTT : T s.t i with
      | cnd g x =>
        rw [hTT] at hr e2
        simp only [Rep] at hr
        exact hr.1 (e2 hG)
      | _ => rw [hTT] at hr; exact hr
    · exact hd.slots i

theorem W.toOps {K' : AS → Prop} : ∀ (l : List Nat) (t : List (Nat × AV)) (D : List (AV × List Nat)), W L P ops eff n os (fun t _ l' => OpsW L P ops l' ⟨n, t, os⟩ K') l t D → OpsW L P ops l ⟨n, t, os⟩ K'
  | [], t, D, h => by simpa only [W] using h
  | i :: l, t, D, h => by
    simp only [W] at h
    split at h
    · exact h.elim
    · rename_i o ho
      split at h
      · exact h
      · obtain ⟨hd, h⟩ := h
        split at h
        · rename_i hg
          obtain ⟨x, C, hK, _, hl⟩ := ovc_sound h
          have := hl rfl ⟨n, t, os⟩ (fun _ _ => rfl) rfl
          refine OpsW.cons ho hg (this.opW hd ?_)
          exact W.toOps l _ _ hK
        · rename_i j want hg
          split at h
          · exact h.elim
          · rename_i d hj
            obtain ⟨hlt, h⟩ := h
            split at h
            · exact h.elim
            · rename_i G g hgv
              obtain ⟨hok, h⟩ := h
              obtain ⟨x, C, ⟨rfl, hK⟩, _, hl⟩ := ovc_sound h
              cases hoj : ops[j]? with
              | none => rw [hoj] at hj; cases hj
              | some oj =>
                rw [hoj] at hj
                refine OpsW.cons_guard ho hg hoj hj hgv hlt hd (x := x) (fun hG => ?_) (W.toOps l _ _ hK)
                exact LOp.of_strip hG hok (hl hG) ⟨n, t, os⟩ (fun _ _ => rfl) rfl

theorem W.draw {K' : List (Nat × AV) → List (AV × List Nat) → Prop} : ∀ (l : List Nat) (i : Nat) (t : List (Nat × AV)) (D : List (AV × List Nat)), l = List.range' i (ops.size - i) → W L P ops eff n os (fun t D _ => K' t D) l t D → DrawG L P ops n os K' i t D
  | [], i, t, D, _, h => by simp only [W] at h; exact .done h
  | i' :: l, i, t, D, hl, h => by
    have hlt : i < ops.size := by
      rcases Nat.lt_or_ge i ops.size with h | h
      · exact h
      · rw [show ops.size - i = 0 by omega] at hl; simp at hl
    rw [show ops.size - i = (ops.size - (i + 1)) + 1 by omega, List.range'_succ] at hl
    simp only [List.cons.injEq] at hl
    obtain ⟨rfl, hl⟩ := hl
    simp only [W] at h
    split at h
    · exact h.elim
    · rename_i o ho
      split at h
      · exact .done h
      · obtain ⟨hd, h⟩ := h
        have hmem : ∀ y, y ∈ o.op.operands.toList → ev (keepT t (slotsOf ops o)) y = ev t y := by
          intro y hy
          cases y with
          | tmp k =>
            have hk : k ∈ slotsOf ops o := by
              simp only [slotsOf, List.mem_append, List.mem_filterMap]
              exact .inl ⟨.tmp k, hy, rfl⟩
            simp only [ev]
            clear h hd hl
            generalize slotsOf ops o = ks at hk
            induction ks with
            | nil => cases hk
            | cons q ks ih =>
              simp only [keepT, List.map_cons, T]
              by_cases e : q = k
              · subst e; simp
              · have : (q == k) = false := by simpa using e
                rw [this]
                rcases List.mem_cons.1 hk with rfl | hk
                · exact absurd rfl e
                · exact ih hk
          | const _ => rfl
          | global _ => rfl
          | func _ => rfl
        split at h
        · rename_i hg
          obtain ⟨x, C, hK, hC, hlo⟩ := ovc_sound h
          refine .step o x C ho ⟨hd, fun k hk => ?_, .inl ⟨hg, hlo rfl _ hmem rfl⟩⟩ (W.draw l (i' + 1) _ _ hl hK)
          simp only [slotsOf, List.mem_append, List.mem_filterMap]
          exact .inl ⟨.tmp k, hC k hk, rfl⟩
        · rename_i j want hg
          split at h
          · exact h.elim
          · rename_i d hj
            obtain ⟨hlt', h⟩ := h
            split at h
            · exact h.elim
            · rename_i G g hgv
              obtain ⟨hok, h⟩ := h
              obtain ⟨x, C, ⟨rfl, hK⟩, _, hlo⟩ := ovc_sound h
              cases hoj : ops[j]? with
              | none => rw [hoj] at hj; cases hj
              | some oj =>
                rw [hoj] at hj
                refine .step o _ [] ho ⟨hd, by simp, .inr ⟨j, want, oj, d, G, g, x, hg, hoj, hj, hlt', hgv, rfl, rfl, fun hG => ?_⟩⟩ (W.draw l (i' + 1) _ _ hl hK)
                exact LOp.of_strip hG hok (hlo hG) _ hmem rfl
end

section
variable {L : Nat → Nat} {P : Program} {n : Nat} {t : List (Nat × AV)} {o : List (Nat × Option (List AV))} {Q : Exit → AS → Prop} {id : Nat} {ops : Array Oper}

/-- a region in the text's order, then more -/
theorem AW.sreg {c : Code} (eff : List Nat)
    (h : ∀ K : List (Nat × AV) → List Nat → Prop, (∀ t l, OpsW L P ops l ⟨n, t, o⟩ (fun s' => AW L P c s' Q) → K t l) → W L P ops eff n o (fun t _ l => K t l) (List.range ops.size) t []) : AW L P (.seq (.region id ops false) c) ⟨n, t, o⟩ Q :=
  AW.seq (AW.region (W.toOps (n := n) (os := o) _ _ _ (h _ (fun _ _ h => h))))

theorem AW.reg (eff : List Nat)
    (h : ∀ K : List (Nat × AV) → List Nat → Prop, (∀ t l, OpsW L P ops l ⟨n, t, o⟩ (fun s' => Q .normal s') → K t l) → W L P ops eff n o (fun t _ l => K t l) (List.range ops.size) t []) : AW L P (.region id ops false) ⟨n, t, o⟩ Q :=
  AW.region (W.toOps (n := n) (os := o) _ _ _ (h _ (fun _ _ h => h)))

/-- a region in whatever order, then more -/
theorem AW.sdrw {c : Code} (eff : List Nat)
    (h : ∀ K : List (Nat × AV) → List (AV × List Nat) → Prop, (∀ t D, drawOK ops (D.map Prod.snd) = true → OpsW L P ops (List.range' D.length (ops.size - D.length)) ⟨n, t, o⟩ (fun s' => AW L P c s' Q) → K t D) →
      W L P ops eff n o (fun t D _ => K t D) (List.range' 0 ops.size) t []) : AW L P (.seq (.region id ops true) c) ⟨n, t, o⟩ Q :=
  AW.seq (AW.draw (W.draw _ 0 _ _ rfl (h _ (fun _ _ h1 h2 => ⟨h1, h2⟩))))

theorem AW.drw (eff : List Nat)
    (h : ∀ K : List (Nat × AV) → List (AV × List Nat) → Prop, (∀ t D, drawOK ops (D.map Prod.snd) = true → OpsW L P ops (List.range' D.length (ops.size - D.length)) ⟨n, t, o⟩ (fun s' => Q .normal s') → K t D) →
      W L P ops eff n o (fun t D _ => K t D) (List.range' 0 ops.size) t []) : AW L P (.region id ops true) ⟨n, t, o⟩ Q :=
  AW.draw (W.draw _ 0 _ _ rfl (h _ (fun _ _ h1 h2 => ⟨h1, h2⟩)))

theorem OpsW.go {l : List Nat} {K' : AS → Prop} (eff : List Nat)
    (h : ∀ K : List (Nat × AV) → List Nat → Prop, (∀ t l, OpsW L P ops l ⟨n, t, o⟩ K' → K t l) → W L P ops eff n o (fun t _ l => K t l) l t []) : OpsW L P ops l ⟨n, t, o⟩ K' :=
  W.toOps (n := n) (os := o) _ _ _ (h _ (fun _ _ h => h))
end
end Go.Ab
