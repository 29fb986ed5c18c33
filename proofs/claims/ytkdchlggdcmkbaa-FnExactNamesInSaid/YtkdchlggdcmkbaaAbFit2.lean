/-
  Abstract values whose slices are short.
-/
import Derived.Test.YtkdchlggdcmkbaaAbOpen
import Derived.Test.YtkdchlggdcmkbaaDat2
set_option linter.unusedSimpArgs false
set_option linter.unusedVariables false
namespace Go.Ab
mutual
/-- every slice is of a length that L allows -/
def AV.fits (L : Nat → Nat) : AV → Prop
  | .sl _ sz l => l.length ≤ L sz ∧ AV.fitsL L l
  | .vp l => AV.fitsL L l
  | .arr _ _ len sz => len ≤ L sz
  | .agg l => AV.fitsL L l
  | .tup l => AV.fitsL L l
  | .fn _ l => AV.fitsL L l
  | .cnd _ x => x.fits L
  | _ => True
def AV.fitsL (L : Nat → Nat) : List AV → Prop
  | [] => True
  | x :: xs => x.fits L ∧ AV.fitsL L xs
end

theorem AV.fitsL_iff {L : Nat → Nat} : ∀ {l : List AV}, AV.fitsL L l ↔ ∀ x ∈ l, x.fits L
  | [] => by simp [AV.fitsL]
  | x :: xs => by simp [AV.fitsL, AV.fitsL_iff (l := xs)]

mutual
theorem Rep.fit {L L' : Nat → Nat} {F : Nat → Prop} {w : World} : ∀ {x : AV} {y : Value} {fp : List Nat}, x.fits L' → Rep L F w x y fp → Rep L' F w x y fp
  | .dead, _, _, _, r => by simpa [Rep] using r
  | .v _, _, _, _, r => by simpa [Rep] using r
  | .str _, _, _, _, r => by simpa [Rep] using r
  | .sl own sz l, y, fp, h, r => by
    simp only [Rep] at r ⊢
    simp only [AV.fits] at h
    rcases r with r | ⟨b, off, cap, vals, fp', hy, h1, h2, hrow, he, ho⟩
    · exact .inl r
    · exact .inr ⟨b, off, cap, vals, fp', hy, h1, h.1, hrow, RepE.fit h.2 he, ho⟩
  | .vp l, y, fp, h, r => by
    simp only [Rep] at r ⊢
    simp only [AV.fits] at h
    obtain ⟨e, b, off, vals, hy, hb, hrow, hl⟩ := r
    exact ⟨e, b, off, vals, hy, hb, hrow, RepL.fit h hl⟩
  | .arr b off len sz, y, fp, h, r => by
    simp only [Rep] at r ⊢
    simp only [AV.fits] at h
    obtain ⟨e, cap, hy, h1, h2, o⟩ := r
    exact ⟨e, cap, hy, h1, h, o⟩
  | .ptr _ _, _, _, _, r => by simpa [Rep] using r
  | .agg l, y, fp, h, r => by
    simp only [Rep] at r ⊢
    simp only [AV.fits] at h
    obtain ⟨vs, hy, hl⟩ := r
    exact ⟨vs, hy, RepL.fit h hl⟩
  | .tup l, y, fp, h, r => by
    simp only [Rep] at r ⊢
    simp only [AV.fits] at h
    obtain ⟨vs, hy, hl⟩ := r
    exact ⟨vs, hy, RepL.fit h hl⟩
  | .fn f l, y, fp, h, r => by
    simp only [Rep] at r ⊢
    simp only [AV.fits] at h
    obtain ⟨vs, hy, hl⟩ := r
    exact ⟨vs, hy, RepL.fit h hl⟩
  | .cnd g x, y, fp, h, r => by
    simp only [Rep] at r ⊢
    simp only [AV.fits] at h
    exact ⟨fun e => Rep.fit h (r.1 e), r.2⟩
theorem RepL.fit {L L' : Nat → Nat} {F : Nat → Prop} {w : World} : ∀ {l : List AV} {vs : List Value} {fp : List Nat}, AV.fitsL L' l → RepL L F w l vs fp → RepL L' F w l vs fp
  | [], _, _, _, r => by simpa [RepL] using r
  | x :: xs, vs, fp, h, r => by
    simp only [RepL] at r ⊢
    simp only [AV.fitsL] at h
    obtain ⟨y, vs', f1, f2, hv, rfl, hx, hxs⟩ := r
    exact ⟨y, vs', f1, f2, hv, rfl, Rep.fit h.1 hx, RepL.fit h.2 hxs⟩
theorem RepE.fit {L L' : Nat → Nat} {F : Nat → Prop} {w : World} {sz : Nat} : ∀ {l : List AV} {vs : List Value} {fp : List Nat}, AV.fitsL L' l → RepE L F w sz l vs fp → RepE L' F w sz l vs fp
  | [], _, _, _, r => by simpa [RepE] using r
  | x :: xs, vs, fp, h, r => by
    simp only [RepE] at r ⊢
    simp only [AV.fitsL] at h
    obtain ⟨y, vs', f1, f2, hv, hsz, rfl, hx, hxs⟩ := r
    exact ⟨y, vs', f1, f2, hv, hsz, rfl, Rep.fit h.1 hx, RepE.fit h.2 hxs⟩
end
end Go.Ab

namespace Go.Dt
open Go.Ab
theorem thn_ge {a : Int} {k : Int → Int} (h : 0 ≤ thn a k) : 0 ≤ a ∧ 0 ≤ k a := by
  unfold thn at h
  split at h <;> omega

theorem szGo_fit {α : Type} (f : α → Int → Int) (hf : ∀ x r, 0 ≤ r → f x r ≤ r) : ∀ (l : List α) (r : Int), 0 ≤ r → 0 ≤ szGo f l r → ∀ x ∈ l, ∃ r', 0 ≤ r' ∧ r' ≤ r ∧ 0 ≤ f x r'
  | y :: l, r, h0, h, x, hx => by
    have h2 := thn_ge h
    rcases List.mem_cons.1 hx with rfl | hx
    · exact ⟨r, h0, Int.le_refl _, h2.1⟩
    · obtain ⟨r', a, b, c⟩ := szGo_fit f hf l _ h2.1 h2.2 x hx
      exact ⟨r', a, by have := hf y r h0; omega, c⟩

theorem szSl_fit {α : Type} (f : α → Int → Int) (hf : ∀ x r, 0 ≤ r → f x r ≤ r) (l : List α) (r : Int) (_ : 0 ≤ r) (h : 0 ≤ szSl f l r) : l.length ≤ r ∧ ∀ x ∈ l, ∃ r', 0 ≤ r' ∧ r' ≤ r ∧ 0 ≤ f x r' := by
  have h2 := thn_ge h
  refine ⟨by omega, fun x hx => ?_⟩
  obtain ⟨r', a, b, c⟩ := szGo_fit f hf l _ h2.1 h2.2 x hx
  exact ⟨r', a, by omega, c⟩

theorem lim_ge (z : Nat) : 1048576 ≤ lim z := by unfold lim; split <;> omega

/-- a slice whose elements fit -/
theorem fits_sl {α : Type} {f : α → Int → Int} {e : α → AV} {o : Bool} {sz : Nat} (hf : ∀ x r, 0 ≤ r → f x r ≤ r) (l : List α) (r : Int) (h0 : 0 ≤ r) (h1 : r ≤ 1048576) (h : 0 ≤ szSl f l r)
    (ih : ∀ x ∈ l, ∀ r', 0 ≤ r' → r' ≤ 1048576 → 0 ≤ f x r' → (e x).fits lim) : (AV.sl o sz (l.map e)).fits lim := by
  obtain ⟨a, b⟩ := szSl_fit f hf l r h0 h
  simp only [AV.fits, List.length_map]
  refine ⟨by have := lim_ge sz; omega, AV.fitsL_iff.2 fun x hx => ?_⟩
  obtain ⟨y, hy, rfl⟩ := List.mem_map.1 hx
  obtain ⟨r', p, q, s⟩ := b y hy
  exact ih y hy r' p (by omega) s
end Go.Dt
