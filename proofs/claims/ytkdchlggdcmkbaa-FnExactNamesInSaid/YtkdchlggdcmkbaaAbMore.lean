/-
  The logic: bounds of texts in slices.
-/
import Derived.Test.YtkdchlggdcmkbaaAbFx
set_option linter.unusedSimpArgs false
set_option linter.unusedVariables false
namespace Go.Ab
theorem AW.slStr {L : Nat → Nat} {P : Program} {c : Code} {n : Nat} {t : List (Nat × AV)} {o : List (Nat × Option (List AV))} {Q : Exit → AS → Prop} (i : Nat) {own : Bool} {sz : Nat} {l : List AV} {s : List UInt8} (hi : T t i = .sl own sz l) (hm : .str s ∈ l) (h : s.length ≤ 4611686018427387904 → AW L P c ⟨n, t, o⟩ Q) : AW L P c ⟨n, t, o⟩ Q := by
  intro B F0 w0 a w hd
  refine h ?_ B F0 w0 a w hd
  obtain ⟨F, ow, fp, fs, h⟩ := hd
  have hr := h.slots i
  simp only at hr
  rw [hi] at hr
  simp only [Rep] at hr
  rcases hr with ⟨_, rfl, _⟩ | ⟨b, off, cap, vals, fp', _, _, _, _, he, _⟩
  · simp at hm
  · obtain ⟨k, hk, e⟩ := List.getElem_of_mem hm
    obtain ⟨y, f, _, _, hr, _⟩ := he.get (i := k) (x := .str s) (by rw [List.getElem?_eq_getElem hk, e])
    simp only [Rep] at hr
    exact hr.2.1
end Go.Ab
