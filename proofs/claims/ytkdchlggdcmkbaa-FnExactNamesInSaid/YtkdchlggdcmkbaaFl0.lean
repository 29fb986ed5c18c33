/-
  Plain facts: names looked up, texts filled.
-/
import Derived.Test.YtkdchlggdcmkbaaStr1
import Derived.Test.YtkdchlggdcmkbaaIdx
set_option linter.unusedSimpArgs false
set_option linter.unusedVariables false
namespace Go.Dt
open Go.Ab
instance : Inhabited GArg := ⟨⟨[], []⟩⟩

theorem idx_at' {α : Type} [Inhabited α] {p : α → Bool} {l : List α} {k : Nat} (hk : k < l.length) (h : ∀ x ∈ l.take k, p x = false) (e : p (at_ l k) = true) : idx p l = k := by
  refine idx_at hk h ?_
  have : l[k] = at_ l k := by unfold at_; rw [List.getElem?_eq_getElem hk]; rfl
  rw [this]; exact e
theorem take_step' {α : Type} [Inhabited α] {p : α → Bool} {l : List α} {k : Nat} (hk : k < l.length) (h : ∀ x ∈ l.take k, p x = false) (e : p (at_ l k) = false) : ∀ x ∈ l.take (k + 1), p x = false := by
  refine take_step hk h ?_
  have : l[k] = at_ l k := by unfold at_; rw [List.getElem?_eq_getElem hk]; rfl
  rw [this]; exact e
theorem idx_end {α : Type} {p : α → Bool} {l : List α} {k : Nat} (hk : ¬ k < l.length) (h : ∀ x ∈ l.take k, p x = false) : idx p l = -1 :=
  idx_none (by rw [List.take_of_length_le (by omega)] at h; exact h)
theorem idx_lt {α : Type} {p : α → Bool} : ∀ (l : List α), idx p l < l.length
  | [] => by simp [idx]
  | x :: xs => by
    have := idx_lt (p := p) xs
    simp only [idx, List.length_cons]
    split
    · omega
    · split <;> omega

def argP (n : Str) (a : GArg) : Bool := a.fName == n
/-- the value that a name stands for -/
def argV (l : List GArg) (n : Str) : Option Str := if idx (argP n) l < 0 then none else some (at_ l (idx (argP n) l).toNat).fValue
def outF (l : List GArg) : List Tok → Str
  | [] => []
  | .inl c :: t => c :: outF l t
  | .inr n :: t => (argV l n).getD [] ++ outF l t
def allF (l : List GArg) : List Tok → Bool
  | [] => true
  | .inl _ :: t => allF l t
  | .inr n :: t => (argV l n).isSome && allF l t

theorem outF_app (l : List GArg) : ∀ a b : List Tok, outF l (a ++ b) = outF l a ++ outF l b
  | [], _ => rfl
  | .inl _ :: a, b => by simp [outF, outF_app l a b]
  | .inr _ :: a, b => by simp [outF, outF_app l a b]
theorem allF_app (l : List GArg) : ∀ a b : List Tok, allF l (a ++ b) = (allF l a && allF l b)
  | [], _ => by simp [allF]
  | .inl _ :: a, b => by simp [allF, allF_app l a b]
  | .inr _ :: a, b => by simp [allF, allF_app l a b, Bool.and_assoc]

def ArgsOk (l : List GArg) : Prop := ∀ a ∈ l, a.fValue.length ≤ 1048576

theorem argV_le {l : List GArg} (h : ArgsOk l) (n : Str) : ((argV l n).getD []).length ≤ 1048576 := by
  unfold argV
  split
  · simp
  · rename_i hn
    have := idx_lt (p := argP n) l
    exact h _ (at_mem (by omega))

theorem outF_len {l : List GArg} (h : ArgsOk l) : ∀ t : List Tok, (outF l t).length ≤ t.length * 1048576
  | [] => by simp [outF]
  | .inl c :: t => by simp only [outF, List.length_cons]; have := outF_len h t; omega
  | .inr n :: t => by
    simp only [outF, List.length_cons, List.length_append]
    have := outF_len h t
    have := argV_le h n
    omega

theorem tk_len (s : Str) : (tk s).1.length ≤ s.length := by
  induction h : s.length using Nat.strongRecOn generalizing s with
  | _ n ih =>
    cases s with
    | nil => rw [tk_nil]; simp
    | cons c r =>
      simp only [List.length_cons] at h
      rw [tk_cons]
      split
      · cases r with
        | nil => simp
        | cons d r' =>
          simp only [List.length_cons] at h ⊢
          split
          · have := ih r'.length (by omega) r' rfl
            simp only [tcons, List.length_cons]; omega
          · split
            · have h1 := (List.dropWhile_suffix (p := nmU) (l := r')).length_le
              have := ih (r'.dropWhile nmU).length (by omega) _ rfl
              simp only [tcons, List.length_cons]; omega
            · simp
      · have := ih r.length (by omega) r rfl
        simp only [tcons, List.length_cons]; omega

theorem at8_byte (s : Str) (k : Nat) : UInt8.ofNat (at8 s k).toNat = at_ s k := by rw [at8_nat, Int.toNat_natCast, UInt8.ofNat_toNat]
theorem cut1 {s : Str} {k : Nat} (h : k < s.length) : (s.take (k + 1)).drop k = [at_ s k] := by
  rw [List.drop_take, at_drop h]; simp

theorem tkAt.snd {s : Str} {k : Nat} {d : List Tok} (h : tkAt s k d) : (tk s).2 = (tk (s.drop k)).2 := by
  unfold tkAt at h
  have := congrArg Prod.snd h
  exact this
theorem tkAt.fst {s : Str} {k : Nat} {d : List Tok} (h : tkAt s k d) : (tk s).1 = d ++ (tk (s.drop k)).1 := by
  unfold tkAt at h
  have := congrArg Prod.fst h
  exact this

theorem tkAt.more {s : Str} {k : Nat} {d : List Tok} (h : tkAt s k d) (hok : (tk s).2 = true) (hk : k < s.length) (h36 : at8 s k = 36) : k + 1 < s.length ∧ (at8 s (k + 1 : Nat) ≠ 36 → nameEnd s (k + 1) ≠ k + 1) := by
  rw [h.snd] at hok
  constructor
  · rcases Nat.lt_or_ge (k + 1) s.length with h1 | h1
    · exact h1
    · rw [tk_bad hk h36 (fun h => by omega) (fun h => by omega)] at hok; cases hok
  · intro h2 h3
    rw [tk_bad hk h36 (fun _ => h2) (nameEnd_no h3)] at hok; cases hok

def flB (l : List GArg) (p : List Tok × Bool) : Bool := p.2 && allF l p.1
def flS (l : List GArg) (p : List Tok × Bool) : Str := bif flB l p then outF l p.1 else []

theorem flB_bad {s : Str} {k : Nat} {d : List Tok} {l : List GArg} {n : Str} {j : Nat} (h : tkAt s k d) (e : tk (s.drop k) = tcons (.inr n) (tk (s.drop j))) (hn : idx (argP n) l < 0) : flB l (tk s) = false := by
  unfold flB
  rw [h.fst, e, allF_app]
  simp [tcons, allF, argV, hn]

theorem flB_end {s : Str} {k : Nat} {d : List Tok} {l : List GArg} (h : tkAt s k d) (hk : k ≤ s.length) (he : k < s.length → (tk s).2 = false) (hall : allF l d = true) (hd : (tk s).2 = false → d = []) : outF l d = flS l (tk s) ∧ (tk s).2 = flB l (tk s) := by
  by_cases hlt : k < s.length
  · have h1 := he hlt
    rw [hd h1]
    simp [flS, flB, h1, outF]
  · have := h.fin hlt
    simp [flS, flB, this, hall]
end Go.Dt
