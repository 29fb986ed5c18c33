/-
  Part of a proof: AbMore, Idx.
-/
import Derived.Test.YtfglembdjbhanaaGreatDoorG1
set_option linter.unusedSimpArgs false
set_option linter.unusedVariables false
namespace Go.Ab
end Go.Ab
namespace Go.Dt
def idx {α : Type} (p : α → Bool) : List α → Int
  | [] => -1
  | x :: xs => if p x then 0 else if idx p xs < 0 then -1 else idx p xs + 1

theorem idx_ge {α : Type} (p : α → Bool) : ∀ l : List α, -1 ≤ idx p l
  | [] => by simp [idx]
  | x :: xs => by
    have := idx_ge p xs
    simp only [idx]; split
    · omega
    · split <;> omega

theorem idx_none {α : Type} {p : α → Bool} : ∀ {l : List α}, (∀ x ∈ l, p x = false) → idx p l = -1
  | [], _ => rfl
  | x :: xs, h => by
    have h1 := h x (by simp)
    have h2 := idx_none (l := xs) fun y hy => h y (by simp [hy])
    simp [idx, h1, h2]

theorem idx_at {α : Type} {p : α → Bool} : ∀ {l : List α} {k : Nat} (hk : k < l.length), (∀ x ∈ l.take k, p x = false) → p l[k] = true → idx p l = k
  | x :: xs, 0, _, _, h => by
    have : p x = true := by simpa using h
    simp [idx, this]
  | x :: xs, k + 1, hk, h, e => by
    have h1 := h x (by simp)
    have h2 := idx_at (l := xs) (k := k) (by simpa using hk) (fun y hy => h y (by simp [hy])) (by simpa using e)
    simp only [idx, h1, h2]
    simp; omega

theorem take_step {α : Type} {p : α → Bool} {l : List α} {k : Nat} (hk : k < l.length) (h : ∀ x ∈ l.take k, p x = false) (e : p l[k] = false) : ∀ x ∈ l.take (k + 1), p x = false := by
  intro x hx
  rw [List.take_succ_eq_append_getElem hk, List.mem_append] at hx
  rcases hx with hx | hx
  · exact h x hx
  · simp at hx; rw [hx]; exact e
end Go.Dt
