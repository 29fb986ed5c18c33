/-
  The logic's ends: results out of variables.
-/
import Derived.Test.YtkdchlggdcmkbaaAbGen
set_option linter.unusedSimpArgs false
set_option linter.unusedVariables false
namespace Go.Ab
open Go.RowKit (Below)

/-- what the result variables give -/
def RunsR (P : Program) (w : World) (tmps : Array Value) : List ResultVar → List Value → Prop
  | [], vs => vs = []
  | r :: rs, vs => ∃ v vs', vs = v :: vs' ∧ (resV r tmps).run P w = .ok v w ∧ RunsR P w tmps rs vs'

def oneOr (vs : List Value) : Value := match vs with | [v] => v | _ => .tuple vs.toArray

theorem runsR_mapM {P : Program} {w : World} {tmps : Array Value} : ∀ {rs : List ResultVar} {vs : List Value}, RunsR P w tmps rs vs → (rs.mapM (fun r => resV r tmps)).run P w = .ok vs w
  | [], vs, h => by simp only [RunsR] at h; subst h; simp
  | r :: rs, vs, h => by
    simp only [RunsR] at h
    obtain ⟨v, vs', rfl, h1, h2⟩ := h
    have := runsR_mapM h2
    rw [List.mapM_cons]
    simp only [Sem.run_bind, h1, Result.andThen_ok, this, Sem.run_pure]

theorem results_run {P : Program} {w : World} {fn : Func} {tmps : Array Value} {rs : List ResultVar} {vs : List Value} (hr : fn.results = rs.toArray) (h : RunsR P w tmps rs vs) : (results fn tmps).run P w = .ok (oneOr vs) w := by
  have hm := runsR_mapM h
  have e : results fn tmps = (do let vs ← rs.mapM (fun r => resV r tmps); pure (oneOr vs)) := by
    unfold results
    rw [hr, List.mapM_toArray]
    simp only [bind_map_left]
    have e1 : (fun r => resV r tmps) = (fun r => match r with | .tmp t => (pure (tmps.getD t undef) : Sem Value) | .cell a t => do loadVar t (← asAddr (tmps.getD a undef))) := by
      funext r; cases r <;> rfl
    rw [e1]
    congr 1
    funext vs
    congr 1
    match vs with
    | [] => simp [oneOr]
    | [v] => simp [oneOr]
    | _ :: _ :: _ => simp [oneOr]
  rw [e]
  simp only [Sem.run_bind, hm, Result.andThen_ok, Sem.run_pure]

def oneA (xs : List AV) : AV := match xs with | [x] => x | _ => .tup xs

theorem oneA_rep {L : Nat → Nat} {F : Nat → Prop} {w : World} {xs : List AV} {vs : List Value} {fp : List Nat} (h : RepL L F w xs vs fp) : Rep L F w (oneA xs) (oneOr vs) fp := by
  have hl := h.len
  match xs, vs, hl, h with
  | [], [], _, h => simp only [oneA, oneOr, Rep]; exact ⟨[], rfl, h⟩
  | [x], [v], _, h =>
    simp only [RepL] at h
    obtain ⟨y, vs', f1, f2, e, rfl, hx, e1, e2⟩ := h
    cases e
    subst e2
    simpa [oneA, oneOr] using hx
  | x :: x' :: xs, v :: v' :: vs, _, h => simp only [oneA, oneOr, Rep]; exact ⟨_, rfl, h⟩
  | [], _ :: _, hl, _ => simp at hl
  | _ :: _, [], hl, _ => simp at hl
  | [_], _ :: _ :: _, hl, _ => simp at hl
  | _ :: _ :: _, [_], hl, _ => simp at hl

/-- the results, one after the other: from slots, or out of variables (the object is given up) -/
def resW (P : Program) (n : Nat) : List ResultVar → List (Nat × AV) → Sto → List AV → (List AV → Sto → Prop) → Prop
  | [], _, o, acc, K => K acc o
  | .tmp i :: rs, t, o, acc, K => Nat.blt i n = true ∧ resW P n rs ((i, .dead) :: t) o (acc ++ [T t i]) K
  | .cell ad ty' :: rs, t, o, acc, K => match T t ad, ty P ty' with
    | .ptr b off, some (g, m) => match O o b with
      | some cells => match val g m (cells.drop off) with
        | some y => resW P n rs t ((b, none) :: o) (acc ++ [y]) K
        | none => False
      | none => False
    | _, _ => False

section
variable {L : Nat → Nat} {P : Program} {n : Nat}

theorem take_cells {B F0 : Nat → Prop} {w0 : World} {F : Nat → Prop} {own : Nat → Own} {fp fs : Nat → List Nat} {s : AS} {a : Act} {w : World} (h : DenAt L B F0 w0 F own fp fs s a w) {b off m : Nat} {g : Bool} {cells : List AV} {y : AV} {t : TypeId}
    (hb : O s.o b = some cells) (ht : ty P t = some (g, m)) (hy : val g m (cells.drop off) = some y) :
    ∃ v fx, (loadVar t ⟨b, off, none⟩).run P w = .ok v w ∧ Rep L F w y v fx ∧ fx.Nodup ∧ ∀ k, k ∈ fx → own k = .obj b := by
  obtain ⟨hkey, hfsn, hfso, c, Ty, vals, rest, hc, hcl, hrep⟩ := h.obj b cells hb
  have hrow0 : RowAt w b 0 vals := ⟨c, Ty, _, hc, fun i hi => by rw [Nat.zero_add, ← Array.getElem?_toList, hcl, List.getElem?_append_left hi]⟩
  have hrow : RowAt w b off (vals.drop off) := by
    have := hrow0.cut off vals.length
    rw [List.take_of_length_le (by simp), Nat.zero_add] at this
    exact this
  have hvl := hrep.len
  obtain ⟨l1, l2⟩ := load_run (P := P) ht hrow
  unfold val at hy
  cases g with
  | true =>
    cases hn : Nat.ble m (cells.drop off).length with
    | false => simp only [cond_true, hn, cond_false] at hy; cases hy
    | true =>
      simp only [cond_true, hn] at hy
      cases hy
      obtain ⟨f, hf, hsub⟩ := hrep.cutS off m
      have hle : m ≤ (vals.drop off).length := by
        have := Nat.le_of_ble_eq_true hn
        simp at this ⊢; omega
      exact ⟨_, f, l1 rfl hle, by simp only [Rep]; exact ⟨_, rfl, hf⟩, hsub.nodup hfsn, fun k hk => hfso k (hsub.subset hk)⟩
  | false =>
    simp at hy
    obtain ⟨f', hf, hsub⟩ := hrep.cutS off 1
    have e1 : (cells.drop off).take 1 = [y] := by
      have e : cells[off]? = some y := hy
      have hlt : off < cells.length := by
        rcases Nat.lt_or_ge off cells.length with h | h
        · exact h
        · rw [List.getElem?_eq_none h] at e; cases e
      rw [List.drop_eq_getElem_cons hlt]
      rw [List.getElem?_eq_getElem hlt] at e
      cases e; rfl
    rw [e1] at hf
    simp only [RepL] at hf
    obtain ⟨y', vs', f1, f2, hv, rfl, hy', rfl, rfl⟩ := hf
    have hv0 : (vals.drop off)[0]? = some y' := by
      cases hd : vals.drop off with
      | nil => rw [hd] at hv; simp at hv
      | cons z zs => rw [hd] at hv; simp at hv; simp [hv]
    exact ⟨y', f1, l2 rfl y' hv0, hy', by simpa using hsub.nodup hfsn, fun k hk => hfso k (hsub.subset (by simpa using hk))⟩

theorem resW_run {tmps : Array Value} {K : List AV → Sto → Prop} {B F0 : Nat → Prop} {w0 : World} {w : World} {a : Act} (hsz : a.tmps = tmps) : ∀ (rs : List ResultVar) (t : List (Nat × AV)) (o : Sto) (xs : List AV) (vs : List Value) (F : Nat → Prop) (own : Nat → Own) (fp fs : Nat → List Nat) (fa : List Nat),
    resW P n rs t o xs K → DenAt L B F0 w0 F own fp fs ⟨n, t, o⟩ a w → RepL L F w xs vs fa → fa.Nodup → (∀ b, b ∈ fa → own b = .slot n) →
    ∃ vs1 xs' os' own' fs' fa', RunsR P w tmps rs vs1 ∧ K xs' os' ∧ StoAt L B F0 w0 F own' fs' os' w ∧ RepL L F w xs' (vs ++ vs1) fa' ∧ fa'.Nodup ∧ ∀ b, b ∈ fa' → own' b = .slot 0
  | [], t, o, xs, vs, F, own, fp, fs, fa, hK, hd, hr, hn, ho => by
    simp only [resW] at hK
    classical
    let own' : Nat → Own := fun b => match own b with | .slot i => if i = n then .slot 0 else .none | x => x
    have hnot : ∀ b, (∀ i, own b ≠ .slot i) → own' b = own b := fun b hb => by
      show (match own b with | .slot i => if i = n then Own.slot 0 else .none | x => x) = own b
      cases h : own b with
      | slot i => exact absurd h (hb i)
      | none => rfl
      | key => rfl
      | obj _ => rfl
    refine ⟨[], xs, o, own', fs, fa, rfl, hK, { below := hd.below, hB := hd.hB, f0 := hd.f0, fl := fun b hb => ⟨?_, (hd.fl b hb).2⟩, ol := fun b hb => hd.ol b ?_, obj := ?_ }, by simpa using hr, hn, fun b hb => ?_⟩
    · rw [hnot b (by rw [(hd.fl b hb).1]; simp)]; exact (hd.fl b hb).1
    · exact fun e => hb (by rw [hnot b (by rw [e]; simp)]; exact e)
    · intro b cells hO
      obtain ⟨g1, g2, g3, g4⟩ := hd.obj b cells hO
      exact ⟨by rw [hnot b (by rw [g1]; simp)]; exact g1, g2, fun k hk => by rw [hnot k (by rw [g3 k hk]; simp)]; exact g3 k hk, g4⟩
    · simp only [own', ho b hb, if_true]
  | .tmp i :: rs, t, o, xs, vs, F, own, fp, fs, fa, hK, hd, hr, hn, ho => by
    simp only [resW] at hK
    obtain ⟨hlt, hK⟩ := hK
    have hlt' : i < n := by simpa using hlt
    classical
    let own' : Nat → Own := fun b => if b ∈ fp i then .slot n else own b
    have hnot : ∀ b, own b ≠ .slot i → own' b = own b := fun b hb => by
      have : b ∉ fp i := fun hm => hb (hd.so i b hm)
      simp only [own', if_neg this]
    have hd' : DenAt L B F0 w0 F own' (fun j => if j = i then [] else fp j) fs ⟨n, (i, .dead) :: t, o⟩ a w := by
      refine { below := hd.below, hB := hd.hB, f0 := hd.f0, fl := fun b hb => ⟨?_, (hd.fl b hb).2⟩, ol := ?_, defers := hd.defers, size := hd.size, slots := ?_, sn := ?_, so := ?_, obj := ?_ }
      · rw [hnot b (by rw [(hd.fl b hb).1]; simp)]; exact (hd.fl b hb).1
      · intro b hb
        by_cases e : b ∈ fp i
        · exact hd.fp_lt e
        · simp only [own', if_neg e] at hb; exact hd.ol b hb
      · intro j
        rw [T_cons]
        by_cases e : i = j
        · subst e; simp [Rep]
        · have e' : ¬ j = i := fun h => e h.symm
          simp only [if_neg e, if_neg e']; exact hd.slots j
      · intro j
        split
        · simp
        · exact hd.sn j
      · intro j b hb
        split at hb
        · simp at hb
        · rename_i e
          have := hd.so j b hb
          rw [hnot b (by rw [this]; simpa using e)]; exact this
      · intro b cells hO
        obtain ⟨g1, g2, g3, g4⟩ := hd.obj b cells hO
        exact ⟨by rw [hnot b (by rw [g1]; simp)]; exact g1, g2, fun k hk => by rw [hnot k (by rw [g3 k hk]; simp)]; exact g3 k hk, g4⟩
    have hri : RepL L F w [T t i] [a.tmps.getD i undef] (fp i) := by
      simp only [RepL]; exact ⟨_, _, fp i, [], rfl, by simp, hd.slots i, rfl, rfl⟩
    obtain ⟨vs1, xs', os', own2, fs', fa', h1, h2, h3, h4, h5, h6⟩ := resW_run hsz rs _ o _ (vs ++ [a.tmps.getD i undef]) F own' _ fs (fa ++ fp i) hK hd' (hr.join hri) (by
      rw [List.nodup_append]
      refine ⟨hn, hd.sn i, fun b hb b' hb' e => ?_⟩
      subst e
      have e1 := ho b hb
      rw [hd.so i b hb'] at e1
      exact Nat.lt_irrefl n ((Own.slot.inj e1) ▸ hlt')) (by
      intro b hb
      rcases List.mem_append.1 hb with hb | hb
      · rw [hnot b (fun e => Nat.lt_irrefl i ((Own.slot.inj ((ho b hb).symm.trans e)) ▸ hlt'))]; exact ho b hb
      · simp only [own', if_pos hb])
    refine ⟨a.tmps.getD i undef :: vs1, xs', os', own2, fs', fa', ?_, h2, h3, by simpa using h4, h5, h6⟩
    simp only [RunsR]
    exact ⟨_, vs1, rfl, by rw [← hsz]; simp [resV], h1⟩
  | .cell ad ty' :: rs, t, o, xs, vs, F, own, fp, fs, fa, hK, hd, hr, hn, ho => by
    simp only [resW] at hK
    split at hK
    · rename_i b off g m hT ht
      split at hK
      · rename_i cells hO
        split at hK
        · rename_i y hy
          obtain ⟨v, fx, hrun, hrep, hfxn, hfxo⟩ := take_cells hd hO ht hy
          have hra := hd.slots ad
          simp only at hra
          rw [hT] at hra
          simp only [Rep] at hra
          have hkey := (hd.obj b cells hO).1
          classical
          let own' : Nat → Own := fun k => if k ∈ fx then .slot n else own k
          have hnot : ∀ k, own k ≠ .obj b → own' k = own k := fun k hk => by
            have : k ∉ fx := fun hm => hk (hfxo k hm)
            simp only [own', if_neg this]
          have hd' : DenAt L B F0 w0 F own' fp fs ⟨n, t, (b, none) :: o⟩ a w := by
            refine { below := hd.below, hB := hd.hB, f0 := hd.f0, fl := fun b hb => ⟨?_, (hd.fl b hb).2⟩, ol := ?_, defers := hd.defers, size := hd.size, slots := hd.slots, sn := hd.sn, so := ?_, obj := ?_ }
            · rw [hnot b (by rw [(hd.fl b hb).1]; simp)]; exact (hd.fl b hb).1
            · intro k hk
              by_cases e : k ∈ fx
              · exact hd.ol k (by rw [hfxo k e]; simp)
              · simp only [own', if_neg e] at hk; exact hd.ol k hk
            · intro j k hk
              have := hd.so j k hk
              rw [hnot k (by rw [this]; simp)]; exact this
            · intro q cs hq
              simp only [O] at hq
              split at hq
              · cases hq
              · rename_i hne
                obtain ⟨g1, g2, g3, g4⟩ := hd.obj q cs hq
                exact ⟨by rw [hnot q (by rw [g1]; simp)]; exact g1, g2, fun k hk => by rw [hnot k (by rw [g3 k hk]; simp; exact fun e => hne e.symm)]; exact g3 k hk, g4⟩
          have hri : RepL L F w [y] [v] fx := by
            simp only [RepL]; exact ⟨_, _, fx, [], rfl, by simp, hrep, rfl, rfl⟩
          obtain ⟨vs1, xs', os', own2, fs', fa', h1, h2, h3, h4, h5, h6⟩ := resW_run hsz rs t _ _ (vs ++ [v]) F own' fp fs (fa ++ fx) hK hd' (hr.join hri) (by
            rw [List.nodup_append]
            refine ⟨hn, hfxn, fun k hk k' hk' e => ?_⟩
            subst e
            have e1 := ho k hk
            rw [hfxo k hk'] at e1; cases e1) (by
            intro k hk
            rcases List.mem_append.1 hk with hk | hk
            · rw [hnot k (by rw [ho k hk]; simp)]; exact ho k hk
            · simp only [own', if_pos hk])
          refine ⟨v :: vs1, xs', os', own2, fs', fa', ?_, h2, h3, by simpa using h4, h5, h6⟩
          simp only [RunsR]
          have hr1 : tmps[ad]?.getD undef = .pointer (some ⟨b, off, none⟩) := by rw [← hra.1, Array.getD_eq_getD_getElem?, hsz]
          exact ⟨v, vs1, rfl, by simp [resV, hr1, asAddr, hrun], h1⟩
        · exact hK.elim
      · exact hK.elim
    · exact hK.elim

/-- the end of a function -/
theorem EndsG.res {fn : Func} {t : List (Nat × AV)} {o : Sto} {rs : List ResultVar} {Q : AV → Sto → Prop} (hr : fn.results = rs.toArray) (h : resW P n rs t o [] (fun xs os => Q (oneA xs) os)) : EndsG L P fn ⟨n, t, o⟩ Q := by
  intro B F0 w0 a w hd
  obtain ⟨F, own, fp, fs, hd⟩ := hd
  obtain ⟨vs1, xs', os', own', fs', fa', h1, h2, h3, h4, h5, h6⟩ := resW_run (tmps := a.tmps) rfl rs t o [] [] F own fp fs [] h hd (by simp [RepL]) (by simp) (by simp)
  exact ⟨oneOr vs1, oneA xs', os', F, own', fs', fa', results_run hr h1, h2, h3, oneA_rep (by simpa using h4), h5, h6⟩
end
end Go.Ab
