/-
  The logic's conditions as functions.
-/
import Derived.Test.YtkdchlggdcmkbaaAbOps3
set_option linter.unusedSimpArgs false
set_option linter.unusedVariables false
namespace Go.Ab
open Go.RowKit (Below)

mutual
/-- nothing in it is merely looked at -/
def AV.closed : AV → Bool
  | .sl o _ l => o && AV.closedL l
  | .vp _ => false
  | .agg l => AV.closedL l
  | .tup l => AV.closedL l
  | .fn _ l => AV.closedL l
  | .cnd _ x => x.closed
  | _ => true
def AV.closedL : List AV → Bool
  | [] => true
  | x :: xs => x.closed && AV.closedL xs
end

mutual
theorem Rep.closed {L : Nat → Nat} {F G : Nat → Prop} {w : World} : ∀ {x : AV} {y : Value} {fp : List Nat}, x.closed = true → Rep L F w x y fp → Rep L G w x y fp
  | .dead, _, _, _, r => by simpa [Rep] using r
  | .v _, _, _, _, r => by simpa [Rep] using r
  | .str _, _, _, _, r => by simpa [Rep] using r
  | .sl own sz l, y, fp, h, r => by
    simp [AV.closed] at h
    simp only [Rep] at r ⊢
    rcases r with r | ⟨b, off, cap, vals, fp', hy, h1, h2, hrow, he, ho⟩
    · exact .inl r
    · refine .inr ⟨b, off, cap, vals, fp', hy, h1, h2, hrow, RepE.closed h.2 he, ?_⟩
      rcases ho with ho | ⟨e, _⟩
      · exact .inl ho
      · rw [h.1] at e; cases e
  | .vp _, _, _, h, _ => by simp [AV.closed] at h
  | .arr .., _, _, _, r => by simpa [Rep] using r
  | .ptr .., _, _, _, r => by simpa [Rep] using r
  | .agg l, y, fp, h, r => by
    simp only [Rep] at r ⊢
    obtain ⟨vs, hy, hl⟩ := r
    exact ⟨vs, hy, RepL.closed (by simpa [AV.closed] using h) hl⟩
  | .tup l, y, fp, h, r => by
    simp only [Rep] at r ⊢
    obtain ⟨vs, hy, hl⟩ := r
    exact ⟨vs, hy, RepL.closed (by simpa [AV.closed] using h) hl⟩
  | .fn f l, y, fp, h, r => by
    simp only [Rep] at r ⊢
    obtain ⟨vs, hy, hl⟩ := r
    exact ⟨vs, hy, RepL.closed (by simpa [AV.closed] using h) hl⟩
  | .cnd g x, y, fp, h, r => by
    simp only [Rep] at r ⊢
    exact ⟨fun e => Rep.closed (by simpa [AV.closed] using h) (r.1 e), r.2⟩
theorem RepL.closed {L : Nat → Nat} {F G : Nat → Prop} {w : World} : ∀ {l : List AV} {vs : List Value} {fp : List Nat}, AV.closedL l = true → RepL L F w l vs fp → RepL L G w l vs fp
  | [], _, _, _, r => by simpa [RepL] using r
  | x :: xs, vs, fp, h, r => by
    simp [AV.closedL] at h
    simp only [RepL] at r ⊢
    obtain ⟨y, vs', f1, f2, hv, rfl, hx, hxs⟩ := r
    exact ⟨y, vs', f1, f2, hv, rfl, Rep.closed h.1 hx, RepL.closed h.2 hxs⟩
theorem RepE.closed {L : Nat → Nat} {F G : Nat → Prop} {w : World} {sz : Nat} : ∀ {l : List AV} {vs : List Value} {fp : List Nat}, AV.closedL l = true → RepE L F w sz l vs fp → RepE L G w sz l vs fp
  | [], _, _, _, r => by simpa [RepE] using r
  | x :: xs, vs, fp, h, r => by
    simp [AV.closedL] at h
    simp only [RepE] at r ⊢
    obtain ⟨y, vs', f1, f2, hv, hsz, rfl, hx, hxs⟩ := r
    exact ⟨y, vs', f1, f2, hv, hsz, rfl, Rep.closed h.1 hx, RepE.closed h.2 hxs⟩
end

/-- an argument as the callee sees it -/
def Low (os : List (Nat × Option (List AV))) (x y : AV) : Prop :=
  (x.nown = true ∧ y = x) ∨ (∃ b off len sz l cells, x = .arr b off len sz ∧ O os b = some cells ∧ y = .sl false sz l ∧ l.length = len ∧ l.flatMap AV.cells = AV.frzL ((cells.drop off).take (len * sz)) ∧ (∀ z, z ∈ l → z.elem sz = true)) ∨ y = x.frz

inductive LowL (os : List (Nat × Option (List AV))) : List AV → List AV → Prop
  | nil : LowL os [] []
  | cons {x y xs ys} : Low os x y → LowL os xs ys → LowL os (x :: xs) (y :: ys)

/-- a call at these arguments gives this -/
def CallOK (L : Nat → Nat) (P : Program) (os : List (Nat × Option (List AV))) (f : FuncId) (args : List AV) (res : AV) : Prop :=
  enters P f = true ∧ ((AV.nownL args = true ∧ PureC L P f args res) ∨ ∃ args', LowL os args args' ∧ res.closed = true ∧ PureC L P f args' res)

theorem CallOK.pure {L : Nat → Nat} {P : Program} {os : List (Nat × Option (List AV))} {f : FuncId} {args : List AV} {res : AV} (he : enters P f = true) (hn : AV.nownL args = true) (h : PureC L P f args res) : CallOK L P os f args res := ⟨he, .inl ⟨hn, h⟩⟩

section
variable {L : Nat → Nat} {P : Program} {s : AS} {o : Oper}

theorem low_rep {B : Nat → Prop} {F0 : Nat → Prop} {w0 : World} {F : Nat → Prop} {own : Nat → Own} {fp fs : Nat → List Nat} {a : Act} {w : World} (h : DenAt L B F0 w0 F own fp fs s a w) {x y : AV} {v : Value} {f : List Nat} (hl : Low s.o x y) (hr : Rep L F w x v f) (hf : ∀ b, b ∈ f → b < w.heap.size) :
    Rep L (fun b => b < w.heap.size) w y v [] := by
  have hFl : ∀ b, F b → b < w.heap.size := fun b hb => (h.fl b hb).2.1
  have hid : Ext (fun _ => True) w w := ⟨Nat.le_refl _, fun _ _ => rfl, fun b c T z hc => ⟨c, hc, rfl⟩⟩
  rcases hl with ⟨hn, rfl⟩ | ⟨b, off, len, sz, l, cells, rfl, hO, rfl, hlen, hfl, hel⟩ | rfl
  · rw [Rep.fp_nil hn hr] at hr
    exact Rep.ext hid (fun b hb => ⟨hFl b hb, trivial⟩) (by simp) hr
  · simp only [Rep] at hr
    obtain ⟨_, cap, hv, hlc, hlL, hblk⟩ := hr
    obtain ⟨vals, f', hrow, hl', hsub⟩ := h.row hO off
    obtain ⟨f2, hl2, hsub2⟩ := hl'.cut 0 (len * sz)
    simp only [List.drop_zero] at hl2
    obtain ⟨hkey, _, hfso, _⟩ := h.obj b cells hO
    have hb := (h.ol b (by rw [hkey]; simp)).2
    have hfz := RepL.frz (F' := fun b => b < w.heap.size) hFl (fun k hk => (h.ol k (by rw [hfso k (hsub k (hsub2 k hk))]; simp)).2) hl2
    simp only [Rep]
    refine .inr ⟨b, off, cap, vals.take (len * sz), [], by rw [hlen]; exact hv, by omega, by omega, ?_, ?_, .inr ⟨by trivial, hb, rfl, by trivial⟩⟩
    · have := hrow.cut 0 (len * sz); simpa using this
    · refine RepL.unflat hel ?_
      rw [hfl]; exact hfz
  · exact Rep.frz hFl hf hr

theorem lowL_rep {B : Nat → Prop} {F0 : Nat → Prop} {w0 : World} {F : Nat → Prop} {own : Nat → Own} {fp fs : Nat → List Nat} {a : Act} {w : World} (h : DenAt L B F0 w0 F own fp fs s a w) : ∀ {xs ys : List AV} {vs : List Value} {f : List Nat}, LowL s.o xs ys → RepL L F w xs vs f → (∀ b, b ∈ f → b < w.heap.size) →
    RepL L (fun b => b < w.heap.size) w ys vs []
  | _, _, _, _, .nil, r, _ => by simp only [RepL] at r ⊢; exact ⟨r.1, by trivial⟩
  | _, _, _, _, .cons hx hxs, r, hf => by
    simp only [RepL] at r ⊢
    obtain ⟨y, vs', f1, f2, hv, rfl, h1, h2⟩ := r
    exact ⟨y, vs', [], [], hv, rfl, low_rep h hx h1 (fun b hb => hf b (by simp [hb])), lowL_rep h hxs h2 (fun b hb => hf b (by simp [hb]))⟩

theorem RepL.of_evs' {B : Nat → Prop} {F0 : Nat → Prop} {w0 : World} {F : Nat → Prop} {own : Nat → Own} {fp fs : Nat → List Nat} {a : Act} {w : World} (h : DenAt L B F0 w0 F own fp fs s a w) :
    ∀ xs : List Operand, ∃ f, RepL L F w (xs.map (ev s.t)) (xs.map a.eval) f ∧ ∀ b, b ∈ f → b < w.heap.size
  | [] => ⟨[], by simp [RepL], by simp⟩
  | x :: xs => by
    obtain ⟨f, h1, h2⟩ := RepL.of_evs' h xs
    refine ⟨fpo fp x ++ f, ?_, fun b hb => ?_⟩
    · simp only [List.map_cons, RepL]
      exact ⟨_, _, fpo fp x, f, rfl, rfl, h.ev x, h1⟩
    · rcases List.mem_append.1 hb with hb | hb
      · obtain ⟨i, _, hi⟩ := fpo_kills h (xs := [x]) (by simp) b hb
        exact (h.fp_lt hi).2
      · exact h2 b hb

/-- what is called: a function and what it has captured -/
def fnA : AV → Option (FuncId × List AV)
  | .fn f caps => some (f, caps)
  | .v (.func (.func f) first cap) => if first.size = 0 ∧ cap.size = 0 then some (f, []) else none
  | _ => none

theorem lop_callv {c : Call} {y : Operand} {xs : Array Operand} {ts : Array TypeId} {f : FuncId} {caps : List AV} {res : AV} (ho : o.op = .call c) (hc : c = ⟨.value y, xs, ts⟩) (hy : fnA (ev s.t y) = some (f, caps))
    (hcn : AV.nownL caps = true) (hcall : CallOK L P s.o f (xs.toList.map (ev s.t) ++ caps) res) : LOp L P s o res [] := by
  subst hc
  intro B F0 w0 F own fp fs a w next Q h hnext
  have hry := h.ev y
  obtain ⟨cvs, hyv, hcr⟩ : ∃ cvs : List Value, a.eval y = .func (.func f) #[] cvs.toArray ∧ RepL L F w caps cvs [] := by
    generalize ev s.t y = z at hy hry
    unfold fnA at hy
    split at hy
    · cases hy
      simp only [Rep] at hry
      obtain ⟨vs, e, hl⟩ := hry
      rw [RepL.fp_nil hcn hl] at hl
      exact ⟨vs, e, hl⟩
    · split at hy
      · rename_i first cap hsz
        cases hy
        simp only [Rep] at hry
        have e1 : first = #[] := Array.eq_empty_of_size_eq_zero hsz.1
        have e2 : cap = #[] := Array.eq_empty_of_size_eq_zero hsz.2
        exact ⟨[], by rw [hry.1, e1, e2], by simp [RepL]⟩
      · cases hy
    · cases hy
  obtain ⟨he, hcase⟩ := hcall
  have hex : (execOp a.eval o).run P w = .ok (.enter f (xs.toList.map a.eval ++ cvs).toArray) w := by
    have := enters_run he (xs.toList.map a.eval ++ cvs).toArray w
    have e : xs.map a.eval ++ cvs.toArray = (xs.toList.map a.eval ++ cvs).toArray := by apply Array.ext'; simp
    rw [← e] at this ⊢
    simp only [execOp, ho, resolve, Sem.run_bind, hyv, Deferred.ofValue, Sem.run_pure, Result.andThen_ok, invoke, Array.empty_append]
    exact this
  unfold Oper.wp
  rw [hex]
  have hl : ∀ b, F b → b < w.heap.size := fun b hb => (h.fl b hb).2.1
  obtain ⟨f', hargs, hf'⟩ := RepL.of_evs' h xs.toList
  rcases hcase with ⟨hn, hp⟩ | ⟨args', hlow, hcl, hp⟩
  · have hall := RepL.join hargs hcr
    rw [RepL.fp_nil hn hall] at hall
    refine (hp w F _ hl hall).mono ?_
    rintro e w' ⟨v, F', fp', rfl, h1, h2, h3, h4, h5, h6⟩
    refine hnext v w' ⟨h1, F', fp', h2, fun b hb => ?_, h4, h5, fun b hb => ⟨(h6 b hb).1, .inr (h6 b hb).2⟩⟩
    rcases h3 b hb with e | e
    · exact .inl e
    · exact .inr (.inl e)
  · have hall := lowL_rep h hlow (RepL.join hargs hcr) (by simpa using hf')
    refine (hp w (fun b => b < w.heap.size) _ (fun _ h => h) hall).mono ?_
    rintro e w' ⟨v, F', fp', rfl, h1, h2, h3, h4, h5, h6⟩
    refine hnext v w' ⟨h1, F, fp', fun _ h => h, fun b hb => .inl hb, Rep.closed hcl h4, h5, fun b hb => ⟨fun hF => ?_, .inr (h6 b hb).2⟩⟩
    have := hl b hF
    have := (h6 b hb).2.1
    omega
end
end Go.Ab
