/-
  The logic's contracts of functions that work on objects.
-/
import Derived.Test.YtkdchlggdcmkbaaAbGhost
set_option linter.unusedSimpArgs false
set_option linter.unusedVariables false
namespace Go.Ab
open Go.RowKit (Below)

/-- a function that works on objects: called with these objects and these arguments it returns, and what it gives and leaves is in Q -/
def GenC (L : Nat → Nat) (P : Program) (f : FuncId) (os : Sto) (args : List AV) (Q : AV → Sto → Prop) : Prop :=
  ∀ (B F : Nat → Prop) (own : Nat → Own) (fs : Nat → List Nat) (w : World) (vs : List Value),
    StoAt L B F w F own fs os w → RepL L F w args vs [] →
    Calls P f vs.toArray w fun e w' => ∃ v res os' F' own' fs' fp, e = .returned v ∧ Q res os' ∧ StoAt L B F w F' own' fs' os' w' ∧ Rep L F' w' res v fp ∧ fp.Nodup ∧ (∀ b, b ∈ fp → own' b = .slot 0)

theorem GenC.mono {L : Nat → Nat} {P : Program} {f : FuncId} {os : Sto} {args : List AV} {Q R : AV → Sto → Prop} (h : GenC L P f os args Q) (hq : ∀ x o, Q x o → R x o) : GenC L P f os args R := by
  intro B F own fs w vs h1 h2
  refine (h B F own fs w vs h1 h2).mono ?_
  rintro e w' ⟨v, res, os', F', own', fs', fp, h3, h4, h5⟩
  exact ⟨v, res, os', F', own', fs', fp, h3, hq _ _ h4, h5⟩

def EndsG (L : Nat → Nat) (P : Program) (fn : Func) (s : AS) (Q : AV → Sto → Prop) : Prop :=
  ∀ B F0 w0 a w, Den L B F0 w0 s a w → ∃ v res os' F' own' fs' fp, (results fn a.tmps).run P w = .ok v w ∧ Q res os' ∧ StoAt L B F0 w0 F' own' fs' os' w ∧ Rep L F' w res v fp ∧ fp.Nodup ∧ (∀ b, b ∈ fp → own' b = .slot 0)

def finG (L : Nat → Nat) (P : Program) (fn : Func) (Q : AV → Sto → Prop) : Exit → AS → Prop
  | .ret, s => EndsG L P fn s Q
  | .normal, s => EndsG L P fn s Q
  | _, _ => False

theorem GenC.of_body {L : Nat → Nat} {P : Program} {f : FuncId} {fn : Func} {c : Code} {os : Sto} {args : List AV} {Q : AV → Sto → Prop} (hf : P.funcs[f]? = some fn) (hb : fn.body = some c) (hn : Nat.ble args.length fn.ntmps = true)
    (h : AW L P c ⟨fn.ntmps, zipT 0 args, os⟩ (finG L P fn Q)) : GenC L P f os args Q := by
  intro B F own fs w vs hS hr
  have hl := hr.len
  have hn' : args.length ≤ fn.ntmps := by simpa using hn
  refine calls_of_wp hf hb (wp_mono (h B F w _ w ?_) ?_)
  · refine ⟨F, own, fun _ => [], fs, { hS with defers := rfl, size := by simp; omega, slots := ?_, sn := by simp, so := by simp }⟩
    intro i
    simp only [T_zip, Nat.zero_le, if_true, Nat.sub_zero]
    cases hx : args[i]? with
    | none => simp [Rep]
    | some x =>
      obtain ⟨y, f', h1, h2, h3⟩ := hr.get hx
      have : f' = [] := List.eq_nil_iff_forall_not_mem.2 fun b hb => by simpa using h3 b hb
      subst this
      have hlt : i < vs.length := by
        rcases Nat.lt_or_ge i vs.length with h | h
        · exact h
        · rw [List.getElem?_eq_none h] at h1; cases h1
      have e : (vs.toArray ++ Array.replicate (fn.ntmps - vs.toArray.size) undef).getD i undef = y := by
        rw [Array.getD_eq_getD_getElem?, Array.getElem?_append_left (by simpa using hlt)]
        simp [h1]
      rw [e]
      exact h2
  · rintro e a' w' ⟨s', h1, h2⟩
    have key : EndsG L P fn s' Q → a'.defers = [] ∧ ∃ v, (results fn a'.tmps).run P w' = .ok v w' ∧ ∃ v' res os' F' own' fs' fp, Ending.returned v = .returned v' ∧ Q res os' ∧ StoAt L B F w F' own' fs' os' w' ∧ Rep L F' w' res v' fp ∧ fp.Nodup ∧ (∀ b, b ∈ fp → own' b = .slot 0) := by
      intro he
      obtain ⟨v, res, os', F', own', fs', fp, h3, h4, h5, h6, h7, h8⟩ := he _ _ _ _ _ h2
      obtain ⟨G, own2, fp', fs2, hd⟩ := h2
      exact ⟨hd.defers, v, h3, v, res, os', F', own', fs', fp, rfl, h4, h5, h6, h7, h8⟩
    cases e with
    | ret => exact key h1
    | normal => exact key h1
    | exit _ => exact h1.elim
    | goto _ => exact h1.elim
    | panic _ => exact h1.elim
    | outgrown => exact h1.elim

/-- a function that needs no objects and leaves none -/
theorem PureC.of_gen {L : Nat → Nat} {P : Program} {f : FuncId} {args : List AV} {res : AV} (h : GenC L P f [] args (fun x _ => x = res)) : PureC L P f args res := by
  intro w F vs hF hr
  refine (h (fun b => b < w.heap.size) F (fun _ => .none) (fun _ => []) w vs { below := Kp.refl _ _, hB := fun _ h => h, f0 := fun _ h => h, fl := fun b hb => ⟨rfl, hF b hb, .inl hb⟩, ol := fun b hb => absurd rfl hb, obj := by simp [O] } hr).mono ?_
  rintro e w' ⟨v, x, os', F', own', fs', fp, rfl, rfl, h5, h6, h7, h8⟩
  refine ⟨v, F', fp, rfl, ⟨h5.below.os, h5.below.tape, h5.below.output, h5.below.size, h5.below.block⟩, h5.f0, fun b hb => ?_, h6, h7, fun b hb => ?_⟩
  · have := h5.fl b hb
    exact this.2.2.imp id fun e => ⟨by omega, this.2.1⟩
  · have := h5.ol b (by rw [h8 b hb]; simp)
    refine ⟨fun hF => ?_, by omega, this.2⟩
    have e := (h5.fl b hF).1
    rw [h8 b hb] at e; cases e

theorem O_append (o1 o2 : Sto) (b : Nat) : O (o1 ++ o2) b = if b ∈ o1.map Prod.fst then O o1 b else O o2 b := by
  induction o1 with
  | nil => simp
  | cons p o1 ih =>
    by_cases h : p.1 = b
    · simp [O, h]
    · have h' : ¬ b = p.1 := fun e => h e.symm
      simp only [List.cons_append, O, if_neg h, ih, List.map_cons, List.mem_cons, h', false_or]

theorem O_mem {o : Sto} {b : Nat} {cells : List AV} (h : O o b = some cells) : b ∈ o.map Prod.fst := by
  induction o with
  | nil => simp [O] at h
  | cons p o ih =>
    by_cases e : p.1 = b
    · simp [e]
    · simp only [O, if_neg e] at h
      simp [ih h]

section
variable {L : Nat → Nat} {P : Program} {s : AS} {o : Oper}

/-- a call that hands over some objects -/
theorem opw_gcall {c : Call} {y : Operand} {xs : Array Operand} {ts : Array TypeId} {f : FuncId} {caps : List AV} {os : Sto} {Q : AV → Sto → Prop} (ho : o.op = .call c) (hc : c = ⟨.value y, xs, ts⟩) (hd : dstOK s.n o.dst = true) (hy : fnA (ev s.t y) = some (f, caps))
    (hcn : AV.nownL caps = true) (hn : AV.nownL (xs.toList.map (ev s.t)) = true) (he : enters P f = true) (hos : ∀ b cells, O os b = some cells → O s.o b = some cells) (hg : GenC L P f os (xs.toList.map (ev s.t) ++ caps) Q) {K : AS → Prop}
    (hK : ∀ res os', Q res os' → K ⟨s.n, put s.t o.dst res, os' ++ dropO s.o (os.map Prod.fst)⟩) : OpW L P o s K := by
  subst hc
  intro B F0 w0 a w next Qn hden hnext
  obtain ⟨F, own, fp, fs, h⟩ := hden
  have hry := h.ev y
  obtain ⟨cvs, hyv, hcr⟩ : ∃ cvs : List Value, a.eval y = .func (.func f) #[] cvs.toArray ∧ RepL L F w caps cvs [] := by
    generalize ev s.t y = z at hy hry
    unfold fnA at hy
    split at hy
    · cases hy
      simp only [Rep] at hry
      obtain ⟨vs, e, hl⟩ := hry
      rw [RepL.fp_nil hcn hl] at hl
      exact ⟨vs, e, hl⟩
    · split at hy
      · rename_i first cap hsz
        cases hy
        simp only [Rep] at hry
        have e1 : first = #[] := Array.eq_empty_of_size_eq_zero hsz.1
        have e2 : cap = #[] := Array.eq_empty_of_size_eq_zero hsz.2
        exact ⟨[], by rw [hry.1, e1, e2], by simp [RepL]⟩
      · cases hy
    · cases hy
  have hex : (execOp a.eval o).run P w = .ok (.enter f (xs.toList.map a.eval ++ cvs).toArray) w := by
    have := enters_run he (xs.toList.map a.eval ++ cvs).toArray w
    have e : xs.map a.eval ++ cvs.toArray = (xs.toList.map a.eval ++ cvs).toArray := by apply Array.ext'; simp
    rw [← e] at this ⊢
    simp only [execOp, ho, resolve, Sem.run_bind, hyv, Deferred.ofValue, Sem.run_pure, Result.andThen_ok, invoke, Array.empty_append]
    exact this
  unfold Oper.wp
  rw [hex]
  have hall := RepL.join (RepL.of_evs h xs.toList hn) hcr
  rw [List.append_nil] at hall
  classical
  let D := os.map Prod.fst
  let U : Nat → Prop := fun b => b < w.heap.size ∧ ¬ (b ∈ D ∧ own b = .key) ∧ ¬ ∃ d, d ∈ D ∧ own b = .obj d
  let own1 : Nat → Own := fun b => if U b then .none else own b
  have hUn : ∀ b, b < w.heap.size → own b = .none → U b := fun b hb e => ⟨hb, fun ⟨_, h⟩ => by (rw [e] at h; cases h), fun ⟨d, _, h⟩ => by (rw [e] at h; cases h)⟩
  have hUs : ∀ b i, own b = .slot i → U b := fun b i e => ⟨(h.ol b (by rw [e]; simp)).2, fun ⟨_, h⟩ => by (rw [e] at h; cases h), fun ⟨d, _, h⟩ => by (rw [e] at h; cases h)⟩
  have hUB : ∀ b, B b → U b := fun b hb => by
    refine hUn b (h.hB b hb) ?_
    rcases Classical.em (own b = .none) with e | e
    · exact e
    · exact absurd hb (h.ol b e).1
  have hS : StoAt L U F w F own1 fs os w := by
    refine { below := Kp.refl _ _, hB := fun b hb => hb.1, f0 := fun _ h => h, fl := fun b hb => ⟨?_, (h.fl b hb).2.1, .inl hb⟩, ol := ?_, obj := ?_ }
    · simp only [own1]; split
      · rfl
      · exact (h.fl b hb).1
    · intro b hb
      simp only [own1] at hb
      split at hb
      · exact absurd rfl hb
      · rename_i hu; exact ⟨hu, (h.ol b hb).2⟩
    · intro b cells hO
      obtain ⟨g1, g2, g3, g4⟩ := h.obj b cells (hos b cells hO)
      have hm : b ∈ D := O_mem hO
      refine ⟨?_, g2, fun k hk => ?_, g4⟩
      · have : ¬ U b := fun hu => hu.2.1 ⟨hm, g1⟩
        simp only [own1, if_neg this]; exact g1
      · have : ¬ U k := fun hu => hu.2.2 ⟨b, hm, g3 k hk⟩
        simp only [own1, if_neg this]; exact g3 k hk
  refine (hg U F own1 fs w _ hS hall).mono ?_
  rintro e w' ⟨v, res, os', F', own', fs', fp', rfl, hQ, h5, h6, h7, h8⟩
  refine hnext _ _ _ (hK res os' hQ) ?_
  have hext : Ext U w w' := ⟨h5.below.size, h5.below.block, h5.below.shape⟩
  have hFS : ∀ b, F b → F' b ∧ U b := fun b hb => ⟨h5.f0 b hb, hUn b (h.fl b hb).2.1 (h.fl b hb).1⟩
  let own2 : Nat → Own := fun b => if U b then own b else match own' b with | .slot _ => (match o.dst with | some d => .slot d | none => .none) | x => x
  have hU2 : ∀ b, U b → own' b = .none := fun b hb => by
    rcases Classical.em (own' b = .none) with e | e
    · exact e
    · exact absurd hb (h5.ol b e).1
  refine ⟨F', own2, fun i => if o.dst = some i then fp' else fp i, fun b => if U b then fs b else fs' b, { below := ?_, hB := fun b hb => Nat.lt_of_lt_of_le (h.hB b hb) h5.below.size, f0 := fun b hb => h5.f0 b (h.f0 b hb), fl := ?_, ol := ?_, defers := ?_, size := ?_, slots := ?_, sn := ?_, so := ?_, obj := ?_ }⟩
  · exact h.below.trans (h5.below.mono hUB)
  · intro b hb
    have g := h5.fl b hb
    by_cases hu : U b
    · have hF : F b := g.2.2.resolve_right fun e => e hu
      exact ⟨by simp only [own2, if_pos hu]; exact (h.fl b hF).1, g.2.1, (h.fl b hF).2.2⟩
    · exact ⟨by simp only [own2, if_neg hu, g.1], g.2.1, .inr fun hb' => hu (hUB b hb')⟩
  · intro b hb
    by_cases hu : U b
    · simp only [own2, if_pos hu] at hb
      exact ⟨(h.ol b hb).1, Nat.lt_of_lt_of_le hu.1 h5.below.size⟩
    · simp only [own2, if_neg hu] at hb
      have hne : own' b ≠ .none := fun e => by rw [e] at hb; exact hb rfl
      exact ⟨fun hb' => hu (hUB b hb'), (h5.ol b hne).2⟩
  · have := h.defers; cases o.dst <;> simpa [Act.put] using this
  · have := h.size; cases o.dst <;> simpa [Act.put] using this
  · intro i
    simp only [T_put]
    rw [getD_put a o.dst v i (by rw [h.size]; exact hd)]
    by_cases e : o.dst = some i
    · simp only [e, if_true]; exact h6
    · simp only [if_neg e]
      exact Rep.ext hext hFS (fun b hb => hUs b i (h.so i b hb)) (h.slots i)
  · intro i
    split
    · exact h7
    · exact h.sn i
  · intro i b hb
    by_cases e : o.dst = some i
    · simp only [e, if_true] at hb
      have hu : ¬ U b := (h5.ol b (by rw [h8 b hb]; simp)).1
      simp only [own2, if_neg hu, h8 b hb, e]
    · rw [if_neg e] at hb
      have := h.so i b hb
      simp only [own2, if_pos (hUs b i this)]; exact this
  · intro b cells hO
    simp only [O_append] at hO
    split at hO
    · obtain ⟨g1, g2, g3, g4⟩ := h5.obj b cells hO
      have hu : ¬ U b := (h5.ol b (by rw [g1]; simp)).1
      simp only [if_neg hu]
      refine ⟨by simp only [own2, if_neg hu, g1], g2, fun k hk => ?_, g4⟩
      have hu' : ¬ U k := (h5.ol k (by rw [g3 k hk]; simp)).1
      simp only [own2, if_neg hu', g3 k hk]
    · rw [O_drop] at hO
      split at hO
      · cases hO
      · rename_i hnD
        obtain ⟨g1, g2, g3, c, Ty, vals, rest, g4, g5, g6⟩ := h.obj b cells hO
        have hu : U b := ⟨(h.ol b (by rw [g1]; simp)).2, fun e => hnD e.1, fun ⟨d, _, e⟩ => by (rw [g1] at e; cases e)⟩
        have huk : ∀ k, k ∈ fs b → U k := fun k hk => ⟨(h.ol k (by rw [g3 k hk]; simp)).2, fun e => by (have := e.2; rw [g3 k hk] at this; cases this), fun ⟨d, hd, e⟩ => by (rw [g3 k hk] at e; cases e; exact hnD hd)⟩
        simp only [if_pos hu]
        refine ⟨by simp only [own2, if_pos hu]; exact g1, g2, fun k hk => ?_, c, Ty, vals, rest, ?_, g5, RepL.ext hext hFS huk g6⟩
        · simp only [own2, if_pos (huk k hk)]; exact g3 k hk
        · rw [h5.below.block b hu]; exact g4
end

section
variable {L : Nat → Nat} {P : Program} {n : Nat} {t : List (Nat × AV)} {o : Sto} {ops : Array Oper} {i : Nat} {l : List Nat} {K' : AS → Prop} {oo : Oper}

theorem OpsW.gcall {c : Call} {y : Operand} {xs : Array Operand} {ts : Array TypeId} {f : FuncId} {caps : List AV} {args : List AV} (os : Sto) {Q : AV → Sto → Prop} (hg : GenC L P f os args Q) (ho : ops[i]? = some oo) (hgd : oo.guard = none) (hop : oo.op = .call c) (hc : c = ⟨.value y, xs, ts⟩) (hd : dstOK n oo.dst = true) (hy : fnA (ev t y) = some (f, caps))
    (hcn : AV.nownL caps = true) (hn : AV.nownL (xs.toList.map (ev t)) = true) (he : enters P f = true) (hargs : xs.toList.map (ev t) ++ caps = args) (hos : ∀ b cells, O os b = some cells → O o b = some cells)
    (h : ∀ K : List (Nat × AV) → Sto → Prop, (∀ t o, OpsW L P ops l ⟨n, t, o⟩ K' → K t o) → ∀ res os', Q res os' → K (put t oo.dst res) (os' ++ dropO o (os.map Prod.fst))) : OpsW L P ops (i :: l) ⟨n, t, o⟩ K' := by
  subst hargs
  exact OpsW.cons ho hgd (opw_gcall (s := ⟨n, t, o⟩) hop hc hd hy hcn hn he hos hg fun res os' hQ => h (fun t o => OpsW L P ops l ⟨n, t, o⟩ K') (fun _ _ h => h) res os' hQ)
end
end Go.Ab
