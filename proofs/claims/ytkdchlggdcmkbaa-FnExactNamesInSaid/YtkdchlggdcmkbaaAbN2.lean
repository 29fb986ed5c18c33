/-
  The logic's steps: append to an owned slice.
-/
import Derived.Test.YtkdchlggdcmkbaaAbN
set_option linter.unusedSimpArgs false
set_option linter.unusedVariables false
namespace Go.Ab
open Go.RowKit (Below)

theorem app_nil0 {P : Program} {w : World} {t u tyr e : TypeId} {i : TypeInfo} {x : Value} (ht : P.underlying t = some (.slice e)) (hi : P.info? e = some i) (hs : Src P w i.size u x 0 []) :
    (Builtin.append_ #[t, u] tyr #[.slice none 0 0, x]).run P w = .ok (.slice none 0 0) w := by
  have hf := hs.first w rfl
  rcases hs.ty with ⟨e', hu⟩ | hu <;> simp [Builtin.append_, run_underlying ht, run_underlying hu, sizeOf, typeInfo, hi, hs.len, hf]

section
variable {L : Nat → Nat} {P : Program} {s : AS} {o : Oper}

theorem opw_append_nil0 {c : Call} {x y : Operand} {t u e : TypeId} {sz bytes : Nat} (ho : o.op = .call c) (hc : c = ⟨.builtin .append, #[x, y], #[t, u]⟩)
    (hd : dstOK s.n o.dst = true) (hx : ev s.t x = .v (.slice none 0 0)) (ht : elm P t = some (e, sz, bytes))
    (hu : (∃ e', P.underlying u = some (.slice e')) ∨ P.underlying u = some .string) (hsrc : srcA s.o sz (ev s.t y) = some (0, [])) {K : AS → Prop}
    (hK : K ⟨s.n, put (killL s.t (kills s.t [y])) o.dst (.sl true sz []), s.o⟩) : OpW L P o s K := by
  subst hc
  obtain ⟨inf, hut, hinf, rfl, rfl⟩ := elm_inv ht
  refine LOp.opW (x := .sl true inf.size []) (C := kills s.t [y]) ?_ hd hK
  refine LOp.of_run fun B F0 w0 F own fp fs a w h => ?_
  have hv := h.val hx
  obtain ⟨news, f, hS, hnl, hnr, hfn, hfk⟩ := src_of h hsrc hu
  have : news = [] := by simp only [RepL] at hnr; exact hnr.1
  subst this
  have hrun := app_nil0 (tyr := o.type) hut hinf hS
  refine ⟨.slice none 0 0, [], ?_, by simp [Rep], by simp, by simp⟩
  simp only [execOp, ho, resolve, invoke, builtin, Sem.run_bind, Sem.run_pure, Result.andThen_ok, List.map_toArray, List.map_cons, List.map_nil, hv, hrun]

/-- what may be appended: the elements -/
def srcE (sz : Nat) : AV → Option (List AV)
  | .sl _ z l => bif z == sz then some l else none
  | .v (.slice none 0 0) => some []
  | .str l => bif sz == 1 then some (bytesA l) else none
  | _ => none

theorem srcE_srcA {os : Sto} {sz : Nat} {x : AV} {l : List AV} (h : srcE sz x = some l) (hel : ∀ z, z ∈ l → z.elem sz = true) : srcA os sz x = some (l.length, l.flatMap AV.cells) := by
  cases x with
  | sl o z m =>
    simp only [srcE] at h
    cases hz : (z == sz) with
    | false => rw [hz] at h; cases h
    | true =>
      rw [hz] at h; cases h
      have : (l.all (AV.elem sz)) = true := by simpa [List.all_eq_true] using hel
      simp [srcA, hz, this]
  | v y =>
    unfold srcE at h
    split at h
    · rename_i e; cases e
    · cases h; simp_all [srcA]
    · rename_i e; cases e
    · cases h
  | str m =>
    simp only [srcE] at h
    cases hz : (sz == 1) with
    | false => rw [hz] at h; cases h
    | true =>
      rw [hz] at h; cases h
      simp only [srcA, hz, cond_true, bytesA, List.length_map, Option.some.injEq, Prod.mk.injEq, true_and]
      clear hel hz
      induction m with
      | nil => rfl
      | cons c m ih => simp only [List.map_cons, List.flatMap_cons, ← ih]; rfl
  | _ => simp [srcE] at h

theorem kills_cons_ne {t : List (Nat × AV)} {i : Nat} {x : AV} {y : Operand} (h : y ≠ .tmp i) : kills ((i, x) :: t) [y] = kills t [y] := by
  cases y with
  | tmp j =>
    have hne : ¬ i = j := fun e => h (by rw [e])
    simp only [kills, T_cons, if_neg hne]
  | _ => rfl

theorem ev_cons_ne {t : List (Nat × AV)} {i : Nat} {x : AV} {y : Operand} (h : y ≠ .tmp i) : ev ((i, x) :: t) y = ev t y := by
  cases y with
  | tmp j =>
    have hne : ¬ i = j := fun e => h (by rw [e])
    simp only [ev, T_cons, if_neg hne]
  | _ => rfl

theorem mem_kills_iff {t : List (Nat × AV)} {xs : List Operand} {i : Nat} : i ∈ kills t xs ↔ .tmp i ∈ xs ∧ (T t i).nown = false := by
  constructor
  · intro h
    induction xs with
    | nil => simp [kills] at h
    | cons x xs ih =>
      cases x with
      | tmp j =>
        simp only [kills] at h
        cases hn : (T t j).nown with
        | true => rw [hn] at h; have := ih h; exact ⟨by simp [this.1], this.2⟩
        | false =>
          rw [hn] at h
          rcases List.mem_cons.1 h with rfl | h
          · exact ⟨by simp, hn⟩
          · have := ih h; exact ⟨by simp [this.1], this.2⟩
      | const _ => have := ih h; exact ⟨by simp [this.1], this.2⟩
      | global _ => have := ih h; exact ⟨by simp [this.1], this.2⟩
      | func _ => have := ih h; exact ⟨by simp [this.1], this.2⟩
  · rintro ⟨h1, h2⟩; exact mem_kills h1 h2

theorem flat_elem_len {sz : Nat} : ∀ {l : List AV}, (∀ z, z ∈ l → z.elem sz = true) → (l.flatMap AV.cells).length = l.length * sz
  | [], _ => by simp
  | x :: xs, h => by
    have h1 := h x (by simp)
    have h2 := flat_elem_len (l := xs) fun z hz => h z (by simp [hz])
    have h3 : x.cells.length = sz := by
      cases x <;> simp [AV.elem] at h1 <;> simp [AV.cells, h1]
    rw [List.flatMap_cons, List.length_append, h2, h3, List.length_cons, Nat.add_mul]; omega

/-- append to an owned slice -/
theorem opw_append_own {c : Call} {i : Nat} {y : Operand} {t u e : TypeId} {sz bytes : Nat} {l l' : List AV} {zs : List Value} (ho : o.op = .call c) (hc : c = ⟨.builtin .append, #[.tmp i, y], #[t, u]⟩)
    (hd : dstOK s.n o.dst = true) (hx : T s.t i = .sl true sz l) (hxy : y ≠ .tmp i) (ht : elm P t = some (e, sz, bytes)) (hz : zer P e = some zs) (hzl : zs.length = sz)
    (hu : (∃ e', P.underlying u = some (.slice e')) ∨ P.underlying u = some .string) (hsrc : srcE sz (ev s.t y) = some l') (hel : ∀ z, z ∈ l → z.elem sz = true) (hel' : ∀ z, z ∈ l' → z.elem sz = true) (hone : (l'.flatMap AV.cells).all AV.one = true)
    (hL : l.length + l'.length ≤ L sz) (hby : (l.length + l'.length) * bytes ≤ 140737488355328) (h63 : l.length + l'.length ≤ 9223372036854775807) {K : AS → Prop}
    (hK : K ⟨s.n, put (killL s.t (kills s.t [.tmp i, y])) o.dst (.sl true sz (l ++ l')), s.o⟩) : OpW L P o s K := by
  obtain ⟨n, tt, os⟩ := s
  simp only at *
  have hi : i ∈ kills tt [.tmp i, y] := mem_kills_iff.2 ⟨by simp, by rw [hx]; rfl⟩
  have hsub : ∀ j, j ∈ kills tt [y] → j ∈ kills tt [.tmp i, y] := fun j hj => by
    have := mem_kills_iff.1 hj
    exact mem_kills_iff.2 ⟨by simp at this; simp [this.1], this.2⟩
  have hsub' : ∀ j, j ≠ i → j ∈ kills tt [.tmp i, y] → j ∈ kills tt [y] := fun j hj h => by
    have := mem_kills_iff.1 h
    refine mem_kills_iff.2 ⟨?_, this.2⟩
    have h1 := this.1
    simp only [List.mem_cons, Operand.tmp.injEq, List.not_mem_nil, or_false] at h1 ⊢
    exact h1.resolve_left hj
  have hsA : ∀ os', srcA os' sz (ev tt y) = some (l'.length, l'.flatMap AV.cells) := fun os' => srcE_srcA hsrc hel'
  have hTT : ∀ (z : AV) (d : Option Nat) (r : AV) (j : Nat), T (put (killL tt (kills tt [.tmp i, y])) d r) j = T (put (killL ((i, z) :: tt) (kills tt [y])) d r) j ∨ T (put (killL tt (kills tt [.tmp i, y])) d r) j = .dead := by
    intro z d r j
    simp only [T_put, T_kill, T_cons]
    by_cases e1 : d = some j
    · simp [e1]
    · simp only [if_neg e1]
      by_cases e2 : j = i
      · subst e2; simp [hi]
      · have e2' : ¬ i = j := fun h => e2 h.symm
        by_cases e3 : j ∈ kills tt [.tmp i, y]
        · simp [e3]
        · have : j ∉ kills tt [y] := fun h => e3 (hsub j h)
          simp [e3, this, e2']
  have hfl : l.flatMap AV.cells ++ l'.flatMap AV.cells = (l ++ l').flatMap AV.cells := by simp
  have hall : ∀ z, z ∈ l ++ l' → z.elem sz = true := fun z hz => by
    rcases List.mem_append.1 hz with h | h
    · exact hel z h
    · exact hel' z h
  have hlen := flat_elem_len hel
  have hlen2 := flat_elem_len hall
  -- behind the operation: from the object back to a value
  have back : ∀ (z : AV) (b' : Nat) (o1 : Sto), (∀ q cs, O os q = some cs → O o1 q = some cs ∧ q ≠ b') →
      Imp L ⟨n, put (killL ((i, z) :: tt) (kills tt [y])) o.dst (.arr b' 0 (l.length + l'.length) sz), (b', some ((l ++ l').flatMap AV.cells)) :: o1⟩ K := by
    intro z b' o1 ho1
    cases hdst : o.dst with
    | none =>
      rw [hdst] at hK
      refine Imp.weak hK (fun j => ?_) ?_
      · have := hTT z none (.sl true sz (l ++ l')) j
        simpa [put] using this
      · intro q cs hq
        have := ho1 q cs hq
        simp only [O, if_neg (fun e => this.2 e.symm : ¬ b' = q)]; exact this.1
    | some d =>
      rw [hdst] at hK
      refine Imp.bind (Q := fun s' => s' = ⟨n, (d, .sl true sz (l ++ l')) :: put (killL ((i, z) :: tt) (kills tt [y])) (some d) (.arr b' 0 (l.length + l'.length) sz), (b', none) :: (b', some ((l ++ l').flatMap AV.cells)) :: o1⟩) (Imp.fold d (b := b') (len := l.length + l'.length) (sz := sz) (cells := (l ++ l').flatMap AV.cells) (l := l ++ l') (by simp [put, T]) (by simp [O]) (by simp) ?_ hall rfl) ?_
      · rw [List.take_of_length_le]; rw [hlen2]; simp
      · rintro _ rfl
        refine Imp.weak hK (fun j => ?_) ?_
        · have := hTT z (some d) (.sl true sz (l ++ l')) j
          simp only [put, T_cons] at this ⊢
          by_cases e : d = j
          · simp [e]
          · simpa [e] using this
        · intro q cs hq
          have := ho1 q cs hq
          have hne : ¬ b' = q := fun e => this.2 e.symm
          simp only [O, if_neg hne]; exact this.1
  refine OpW.imp (Imp.unfold2 i hx hel ?_ ?_)
  · intro b hfr
    refine OpW.post (opw_append_arr (b := b) (len := l.length) (cells := l.flatMap AV.cells) (n := l'.length) (ncells := l'.flatMap AV.cells) (s := ⟨n, (i, .arr b 0 l.length sz) :: tt, (b, some (l.flatMap AV.cells)) :: os⟩) ho hc hd (by simp [ev, T]) (by simp [O]) hlen ht hz hzl hu (by simp only [ev_cons_ne hxy]; exact hsA _) hone hL hby h63 fun b' hb' => ?_)
    simp only [kills_cons_ne hxy, hfl]
    refine back _ b' _ fun q cs hq => ?_
    have hqb : q ≠ b := hfr q cs hq
    have hqb' : ¬ b = q := fun e => hqb e.symm
    have h1 : O (dropO ((b, some (l.flatMap AV.cells)) :: os) [b]) q = some cs := by
      rw [O_drop, if_neg (by simpa using hqb)]
      simp only [O, if_neg hqb']; exact hq
    exact ⟨h1, hb' q cs h1⟩
  · intro e0
    subst e0
    by_cases h0 : l' = []
    · subst h0
      refine OpW.post (opw_append_nil0 (s := ⟨n, (i, .v (.slice none 0 0)) :: tt, os⟩) ho hc hd (by simp [ev, T]) ht hu (by simp only [ev_cons_ne hxy]; exact hsA _) ?_)
      simp only [kills_cons_ne hxy]
      exact Imp.weak hK (hTT _ _ _) (fun _ _ h => h)
    · have hpos : 0 < l'.length := List.length_pos_iff.2 h0
      refine OpW.post (opw_append_nil (s := ⟨n, (i, .v (.slice none 0 0)) :: tt, os⟩) ho hc hd (by simp [ev, T]) ht hz hzl hu (by simp only [ev_cons_ne hxy]; exact hsA _) hpos (by simpa using hL) (by simpa using hby) (by simpa using h63) fun b' hb' => ?_)
      simp only [kills_cons_ne hxy]
      have := back (.v (.slice none 0 0)) b' os fun q cs hq => ⟨hq, hb' q cs hq⟩
      simpa using this
end

/-- a contract of a function that needs no objects, in the general form -/
theorem GenC.of_pure {L : Nat → Nat} {P : Program} {f : FuncId} {args : List AV} {res : AV} (h : PureC L P f args res) : GenC L P f [] args (fun r os' => r = res ∧ os' = []) := by
  intro B F own fs w vs hS hr
  refine (h w F vs (fun b hb => (hS.fl b hb).2.1) hr).mono ?_
  rintro e w' ⟨v, F', fp, rfl, h1, h2, h3, h4, h5, h6⟩
  classical
  let own' : Nat → Own := fun b => if b ∈ fp then .slot 0 else own b
  have hsz := h1.size
  refine ⟨v, res, [], F', own', fs, fp, rfl, ⟨rfl, rfl⟩, { below := Kp.of_ext h1 (Ext.of_below h1) hS.hB, hB := fun b hb => Nat.lt_of_lt_of_le (hS.hB b hb) hsz, f0 := h2, fl := ?_, ol := ?_, obj := by simp [O] }, h4, h5, fun b hb => by simp only [own', if_pos hb]⟩
  · intro b hb
    have hnx : b ∉ fp := fun hm => (h6 b hm).1 hb
    simp only [own', if_neg hnx]
    rcases h3 b hb with e | e
    · have := hS.fl b e; exact ⟨this.1, by omega, .inl e⟩
    · refine ⟨?_, e.2, .inr fun hB => by have := hS.hB b hB; omega⟩
      rcases Classical.em (own b = .none) with e' | e'
      · exact e'
      · have := (hS.ol b e').2; omega
  · intro b hb
    by_cases e : b ∈ fp
    · have := h6 b e; exact ⟨fun hB => by have := hS.hB b hB; omega, this.2.2⟩
    · simp only [own', if_neg e] at hb
      have := hS.ol b hb; exact ⟨this.1, by omega⟩
end Go.Ab
