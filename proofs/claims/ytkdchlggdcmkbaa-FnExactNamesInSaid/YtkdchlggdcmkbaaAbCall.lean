/-
  The logic's calls: a function's contract.
-/
import Derived.Test.YtkdchlggdcmkbaaAbCtl
set_option linter.unusedSimpArgs false
set_option linter.unusedVariables false
namespace Go.Ab
open Go.RowKit (Below)

/-- the function at these arguments returns this; it changes nothing that was there; what it owns is new -/
def PureC (L : Nat → Nat) (P : Program) (f : FuncId) (args : List AV) (res : AV) : Prop :=
  ∀ (w : World) (F : Nat → Prop) (vs : List Value), (∀ b, F b → b < w.heap.size) → RepL L F w args vs [] →
    Calls P f vs.toArray w fun e w' => ∃ v F' fp, e = .returned v ∧ Below w.heap.size w w' ∧ (∀ b, F b → F' b) ∧ (∀ b, F' b → F b ∨ (w.heap.size ≤ b ∧ b < w'.heap.size)) ∧
      Rep L F' w' res v fp ∧ fp.Nodup ∧ ∀ b, b ∈ fp → ¬ F' b ∧ w.heap.size ≤ b ∧ b < w'.heap.size

def zipT : Nat → List AV → List (Nat × AV)
  | _, [] => []
  | i, x :: xs => (i, x) :: zipT (i + 1) xs

theorem T_zip : ∀ (xs : List AV) (k i : Nat), T (zipT k xs) i = if k ≤ i then (xs[i - k]?).getD .dead else .dead
  | [], k, i => by simp [zipT, T]
  | x :: xs, k, i => by
    simp only [zipT, T]
    by_cases e : k = i
    · subst e; simp
    · have : (k == i) = false := by simpa using e
      rw [this, cond_false, T_zip xs (k + 1) i]
      by_cases h : k ≤ i
      · have h1 : k + 1 ≤ i := by omega
        rw [if_pos h, if_pos h1, show i - k = (i - (k + 1)) + 1 by omega, List.getElem?_cons_succ]
      · rw [if_neg h, if_neg (by omega)]

def Ends (L : Nat → Nat) (P : Program) (fn : Func) (s : AS) (res : AV) : Prop :=
  ∀ B F0 w0 a w, Den L B F0 w0 s a w → ∃ v F' fp, (results fn a.tmps).run P w = .ok v w ∧ (∀ b, F0 b → F' b) ∧ (∀ b, F' b → F0 b ∨ (¬ B b ∧ b < w.heap.size)) ∧
    Rep L F' w res v fp ∧ fp.Nodup ∧ ∀ b, b ∈ fp → ¬ F' b ∧ ¬ B b ∧ b < w.heap.size

def fin (L : Nat → Nat) (P : Program) (fn : Func) (res : AV) : Exit → AS → Prop
  | .ret, s => Ends L P fn s res
  | .normal, s => Ends L P fn s res
  | _, _ => False

theorem PureC.of_body {L : Nat → Nat} {P : Program} {f : FuncId} {fn : Func} {c : Code} {args : List AV} {res : AV} (hf : P.funcs[f]? = some fn) (hb : fn.body = some c) (hn : Nat.ble args.length fn.ntmps = true)
    (h : AW L P c ⟨fn.ntmps, zipT 0 args, []⟩ (fin L P fn res)) : PureC L P f args res := by
  intro w F vs hF hr
  have hl := hr.len
  have hn' : args.length ≤ fn.ntmps := by simpa using hn
  refine calls_of_wp hf hb (wp_mono (h (fun b => b < w.heap.size) F w _ w ?_) ?_)
  · refine ⟨F, fun _ => .none, fun _ => [], fun _ => [], ?_⟩
    refine { below := Kp.refl _ _, hB := fun _ h => h, f0 := fun _ h => h, fl := fun b hb => ⟨rfl, hF b hb, .inl hb⟩, ol := fun b hb => absurd rfl hb, defers := rfl, size := by simp; omega, slots := ?_, sn := by simp, so := by simp, obj := by simp [O] }
    intro i
    simp only [T_zip, Nat.zero_le, if_true, Nat.sub_zero]
    cases hx : args[i]? with
    | none => simp [Rep]
    | some x =>
      obtain ⟨y, f', h1, h2, h3⟩ := hr.get hx
      have : f' = [] := List.eq_nil_iff_forall_not_mem.2 fun b hb => by simpa using h3 b hb
      subst this
      have hlt : i < vs.length := by
        rcases Nat.lt_or_ge i vs.length with h | h
        · exact h
        · rw [List.getElem?_eq_none h] at h1; cases h1
      have e : (vs.toArray ++ Array.replicate (fn.ntmps - vs.toArray.size) undef).getD i undef = y := by
        rw [Array.getD_eq_getD_getElem?, Array.getElem?_append_left (by simpa using hlt)]
        simp [h1]
      rw [e]
      exact h2
  · rintro e a' w' ⟨s', h1, h2⟩
    have key : Ends L P fn s' res → a'.defers = [] ∧ ∃ v, (results fn a'.tmps).run P w' = .ok v w' ∧ ∃ v' F' fp, Ending.returned v = .returned v' ∧ Below w.heap.size w w' ∧ (∀ b, F b → F' b) ∧ (∀ b, F' b → F b ∨ (w.heap.size ≤ b ∧ b < w'.heap.size)) ∧
      Rep L F' w' res v' fp ∧ fp.Nodup ∧ ∀ b, b ∈ fp → ¬ F' b ∧ w.heap.size ≤ b ∧ b < w'.heap.size := by
      intro he
      obtain ⟨v, F', fp, h3, h4, h5, h6, h7, h8⟩ := he _ _ _ _ _ h2
      obtain ⟨G, own, fp', fs, hd⟩ := h2
      exact ⟨hd.defers, v, h3, v, F', fp, rfl, ⟨hd.below.os, hd.below.tape, hd.below.output, hd.below.size, hd.below.block⟩, h4, fun b hb => (h5 b hb).imp id fun e => ⟨by omega, e.2⟩, h6, h7, fun b hb => ⟨(h8 b hb).1, by have := (h8 b hb).2.1; omega, (h8 b hb).2.2⟩⟩
    cases e with
    | ret => exact key h1
    | normal => exact key h1
    | exit _ => exact h1.elim
    | goto _ => exact h1.elim
    | panic _ => exact h1.elim
    | outgrown => exact h1.elim

def enters (P : Program) (f : FuncId) : Bool :=
  match P.funcs[f]? with
  | some fn => fn.body.isSome && !(fn.name == "runtime.NumGoroutine")
  | none => false

theorem enters_run {P : Program} {f : FuncId} (h : enters P f = true) (args : Array Value) (w : World) : (callFunc f args).run P w = .ok (.enter f args) w := by
  unfold enters at h
  split at h
  · rename_i fn hf
    simp at h
    obtain ⟨h1, h2⟩ := h
    cases hb : fn.body with
    | none => simp [hb] at h1
    | some c => simp [callFunc, hf, h2, hb]
  · cases h

section ops
variable {L : Nat → Nat} {P : Program} {s : AS} {o : Oper}

theorem RepL.of_evs {B : Nat → Prop} {F0 : Nat → Prop} {w0 : World} {F : Nat → Prop} {own : Nat → Own} {fp fs : Nat → List Nat} {a : Act} {w : World} (h : DenAt L B F0 w0 F own fp fs s a w) :
    ∀ xs : List Operand, AV.nownL (xs.map (ev s.t)) = true → RepL L F w (xs.map (ev s.t)) (xs.map a.eval) []
  | [], _ => by simp [RepL]
  | x :: xs, hn => by
    simp [AV.nownL] at hn
    simp only [List.map_cons, RepL]
    have hr := h.ev x
    rw [Rep.fp_nil hn.1 hr] at hr
    exact ⟨a.eval x, xs.map a.eval, [], [], rfl, rfl, hr, RepL.of_evs h xs (by simpa using hn.2)⟩

/-- a call, the function named -/
theorem lop_call {c : Call} {f : FuncId} {xs : Array Operand} {ts : Array TypeId} {res : AV} (ho : o.op = .call c) (hc : c = ⟨.value (.func f), xs, ts⟩) (he : enters P f = true)
    (hn : AV.nownL (xs.toList.map (ev s.t)) = true) (hp : PureC L P f (xs.toList.map (ev s.t)) res) : LOp L P s o res [] := by
  subst hc
  intro B F0 w0 F own fp fs a w next Q h hnext
  have hex : (execOp a.eval o).run P w = .ok (.enter f (xs.toList.map a.eval).toArray) w := by
    have := enters_run he (xs.toList.map a.eval).toArray w
    have e : xs.map a.eval = (xs.toList.map a.eval).toArray := by apply Array.ext'; simp
    rw [← e] at this ⊢
    simp only [execOp, ho, resolve, Sem.run_bind, Act.eval, Deferred.ofValue, Sem.run_pure, Result.andThen_ok, invoke, Array.append_empty, Array.empty_append]
    exact this
  unfold Oper.wp
  rw [hex]
  have hl : ∀ b, F b → b < w.heap.size := fun b hb => (h.fl b hb).2.1
  refine (hp w F _ hl (RepL.of_evs h _ hn)).mono ?_
  rintro e w' ⟨v, F', fp', rfl, h1, h2, h3, h4, h5, h6⟩
  refine hnext v w' ⟨h1, F', fp', h2, fun b hb => ?_, h4, h5, fun b hb => ⟨(h6 b hb).1, .inr (h6 b hb).2⟩⟩
  rcases h3 b hb with e | e
  · exact .inl e
  · exact .inr (.inl e)
end ops

section ends
variable {L : Nat → Nat} {P : Program} {s : AS} {fn : Func}

/-- one result, in a slot -/
theorem Ends.one {t : Nat} (hr : fn.results = #[.tmp t]) : Ends L P fn s (T s.t t) := by
  intro B F0 w0 a w hd
  obtain ⟨F, own, fp, fs, h⟩ := hd
  refine ⟨a.tmps.getD t undef, F, fp t, by simp [results, hr], h.f0, fun b hb => ?_, h.slots t, h.sn t, fun b hb => ⟨h.fp_F hb, h.fp_lt hb⟩⟩
  have := h.fl b hb
  rcases this.2.2 with e | e
  · exact .inl e
  · exact .inr ⟨e, this.2.1⟩

theorem Ends.one' {t : Nat} {x : AV} (hr : fn.results = #[.tmp t]) (hx : T s.t t = x) : Ends L P fn s x := by
  rw [← hx]; exact Ends.one hr

/-- two results, in slots -/
theorem Ends.two {t u : Nat} (hr : fn.results = #[.tmp t, .tmp u]) (hne : t ≠ u) : Ends L P fn s (.tup [T s.t t, T s.t u]) := by
  intro B F0 w0 a w hd
  obtain ⟨F, own, fp, fs, h⟩ := hd
  refine ⟨.tuple #[a.tmps.getD t undef, a.tmps.getD u undef], F, fp t ++ fp u, by simp [results, hr], h.f0, fun b hb => ?_, ?_, ?_, fun b hb => ?_⟩
  · have := h.fl b hb
    rcases this.2.2 with e | e
    · exact .inl e
    · exact .inr ⟨e, this.2.1⟩
  · simp only [Rep]
    refine ⟨[a.tmps.getD t undef, a.tmps.getD u undef], rfl, ?_⟩
    simp only [RepL]
    exact ⟨_, _, fp t, fp u, rfl, rfl, h.slots t, _, _, fp u, [], rfl, by simp, h.slots u, rfl, rfl⟩
  · rw [List.nodup_append]
    refine ⟨h.sn t, h.sn u, fun b hb b' hb' e => ?_⟩
    subst e
    have e1 := h.so t b hb
    rw [h.so u b hb'] at e1
    cases e1
    exact hne rfl
  · rcases List.mem_append.1 hb with hb | hb
    · exact ⟨h.fp_F hb, h.fp_lt hb⟩
    · exact ⟨h.fp_F hb, h.fp_lt hb⟩

theorem Ends.two' {t u : Nat} {x y : AV} (hr : fn.results = #[.tmp t, .tmp u]) (hne : t ≠ u) (hx : T s.t t = x) (hy : T s.t u = y) : Ends L P fn s (.tup [x, y]) := by
  rw [← hx, ← hy]; exact Ends.two hr hne
end ends
end Go.Ab
