/-
  Part of a proof: Str1, Fl0.
-/
import Derived.Test.YtfglembdjbhanaaGreatDoorG3
import Derived.Test.YtfglembdjbhanaaGreatDoorG4
import Derived.Test.YtfglembdjbhanaaGreatDoorG9
set_option linter.unusedSimpArgs false
set_option linter.unusedVariables false
namespace Go.Dt
open Go.Ab
def ltI (n : Int) : Bool := decide (97 ≤ n) && decide (n ≤ 122)
def digI (n : Int) : Bool := decide (48 ≤ n) && decide (n ≤ 57)
def nmI (n : Int) : Bool := ltI n || digI n || n == 45
def letU (c : UInt8) : Bool := ltI c.toNat
def nmU (c : UInt8) : Bool := nmI c.toNat
theorem lim_1 : lim 1 = 1099511627776 := rfl
theorem lim_n {n : Nat} (h : 1 < n) (h2 : n < 1000000000) : lim n = 2147483648 := by unfold lim; rw [if_neg (by omega), if_pos h2]
attribute [go_sem] lim_1 lim_n

abbrev Tok := UInt8 ⊕ Str
def tcons (x : Tok) (p : List Tok × Bool) : List Tok × Bool := (x :: p.1, p.2)
def tk (s : Str) : List Tok × Bool :=
  match s with
  | [] => ([], true)
  | c :: r => if c == 36 then (match r with
      | [] => ([], false)
      | d :: r' => if d == 36 then tcons (.inl 36) (tk r') else if letU d then tcons (.inr (d :: r'.takeWhile nmU)) (tk (r'.dropWhile nmU)) else ([], false)) else tcons (.inl c) (tk r)
termination_by s.length
decreasing_by
  all_goals simp_wf
  · omega
  · have := (List.dropWhile_suffix (p := nmU) (l := r')).length_le
    omega

def rights : List Tok → List Str
  | [] => []
  | .inl _ :: l => rights l
  | .inr s :: l => s :: rights l

def nmL (p : List Tok × Bool) : List Str := bif p.2 then rights p.1 else []

theorem rights_append : ∀ a b : List Tok, rights (a ++ b) = rights a ++ rights b
  | [], _ => rfl
  | .inl _ :: a, b => by simp [rights, rights_append a b]
  | .inr _ :: a, b => by simp [rights, rights_append a b]

def nameEnd (s : Str) (k : Nat) : Nat := if (decide (k < s.length) && ltI (at8 s k)) = true then k + ((s.drop k).takeWhile nmU).length else k

theorem tw_yes {s : Str} {j : Nat} (h : j < s.length) (hn : nmI (at8 s j) = true) : ((s.drop j).takeWhile nmU).length = 1 + ((s.drop (j + 1)).takeWhile nmU).length := by
  have : nmU (at_ s j) = true := hn
  rw [at_drop h, List.takeWhile_cons_of_pos this, List.length_cons]; omega
theorem tw_no {s : Str} {j : Nat} (h : j < s.length → nmI (at8 s j) = false) : (s.drop j).takeWhile nmU = [] := by
  by_cases hj : j < s.length
  · have : ¬ nmU (at_ s j) = true := by have := h hj; unfold nmU; rw [at8_nat] at this; rw [this]; simp
    rw [at_drop hj, List.takeWhile_cons_of_neg this]
  · rw [List.drop_eq_nil_of_le (by omega)]; rfl
theorem nameEnd_le (s : Str) (k : Nat) (h : k ≤ s.length) : k ≤ nameEnd s k ∧ nameEnd s k ≤ s.length := by
  unfold nameEnd
  split
  · have := (List.takeWhile_prefix (p := nmU) (l := s.drop k)).length_le
    simp only [List.length_drop] at this
    omega
  · omega
theorem tk_nil : tk [] = ([], true) := by rw [tk.eq_def]
theorem tk_cons (c : UInt8) (r : Str) : tk (c :: r) = if c == 36 then (match r with
      | [] => ([], false)
      | d :: r' => if d == 36 then tcons (.inl 36) (tk r') else if letU d then tcons (.inr (d :: r'.takeWhile nmU)) (tk (r'.dropWhile nmU)) else ([], false)) else tcons (.inl c) (tk r) := by
  rw [tk.eq_def]; rfl

theorem at8_36 (s : Str) (k : Nat) : (at_ s k == 36) = (at8 s k == 36) := by
  rw [at8_nat]
  by_cases h : at_ s k = 36
  · rw [h]; rfl
  · have h2 : ((at_ s k).toNat : Int) ≠ 36 := fun e => h (by
      have : (at_ s k).toNat = 36 := by omega
      rw [← UInt8.ofNat_toNat (x := at_ s k), this]; rfl)
    rw [beq_eq_false_iff_ne.2 h, beq_eq_false_iff_ne.2 h2]

theorem tk_plain {s : Str} {k : Nat} (h : k < s.length) (h36 : at8 s k ≠ 36) : tk (s.drop k) = tcons (.inl (at_ s k)) (tk (s.drop (k + 1))) := by
  rw [at_drop h, tk_cons, at8_36, beq_eq_false_iff_ne.2 h36]; simp

theorem tk_two {s : Str} {k : Nat} (h : k + 1 < s.length) (h1 : at8 s k = 36) (h2 : at8 s (k + 1 : Nat) = 36) : tk (s.drop k) = tcons (.inl 36) (tk (s.drop (k + 2))) := by
  rw [at_drop (by omega : k < s.length), tk_cons, at8_36, h1, at_drop h]
  simp only [at8_36, h2, beq_self_eq_true, if_true]

theorem nm_of_lt {n : Int} (h : ltI n = true) : nmI n = true := by simp [nmI, h]

theorem nameEnd_eq {s : Str} {k : Nat} (h : nameEnd s k ≠ k) : k < s.length ∧ ltI (at8 s k) = true ∧ nameEnd s k = k + 1 + ((s.drop (k + 1)).takeWhile nmU).length := by
  unfold nameEnd at h ⊢
  split at h
  · rename_i hc
    simp at hc
    rw [if_pos (by simp [hc])]
    refine ⟨hc.1, hc.2, ?_⟩
    rw [tw_yes hc.1 (nm_of_lt hc.2)]; omega
  · exact absurd rfl h

theorem nameEnd_no {s : Str} {k : Nat} (h : nameEnd s k = k) (hk : k < s.length) : ltI (at8 s k) = false := by
  cases hl : ltI (at8 s k) with
  | false => rfl
  | true =>
    unfold nameEnd at h
    rw [if_pos (by simp [hk, hl]), tw_yes hk (nm_of_lt hl)] at h
    omega

theorem tk_bad {s : Str} {k : Nat} (h : k < s.length) (h1 : at8 s k = 36) (h2 : k + 1 < s.length → at8 s (k + 1 : Nat) ≠ 36) (h3 : k + 1 < s.length → ltI (at8 s (k + 1 : Nat)) = false) : tk (s.drop k) = ([], false) := by
  rw [at_drop h, tk_cons, at8_36, h1]
  by_cases hk : k + 1 < s.length
  · have h4 := h3 hk
    rw [at_drop hk]
    simp only [at8_36, beq_eq_false_iff_ne.2 (h2 hk), letU, ← at8_nat, h4]
    simp
  · rw [List.drop_eq_nil_of_le (by omega)]; simp

theorem tk_name {s : Str} {k : Nat} (h : k < s.length) (h1 : at8 s k = 36) (h2 : k + 1 < s.length → at8 s (k + 1 : Nat) ≠ 36) (h3 : nameEnd s (k + 1) ≠ k + 1) :
    tk (s.drop k) = tcons (.inr ((s.take (nameEnd s (k + 1))).drop (k + 1))) (tk (s.drop (nameEnd s (k + 1)))) := by
  obtain ⟨hk, hl, he⟩ := nameEnd_eq h3
  have e1 : (s.drop (k + 1)).dropWhile nmU = s.drop (nameEnd s (k + 1)) ∧ (s.drop (k + 1)).takeWhile nmU = (s.take (nameEnd s (k + 1))).drop (k + 1) := by
    have hsp : (s.drop (k + 1)).takeWhile nmU ++ (s.drop (k + 1)).dropWhile nmU = s.drop (k + 1) := List.takeWhile_append_dropWhile
    have hlen : nameEnd s (k + 1) = k + 1 + ((s.drop (k + 1)).takeWhile nmU).length := by
      rw [he, tw_yes hk (nm_of_lt hl)]; omega
    constructor
    · have := congrArg (List.drop ((s.drop (k + 1)).takeWhile nmU).length) hsp
      rw [List.drop_left, List.drop_drop] at this
      rw [this, hlen]
    · have := congrArg (List.take ((s.drop (k + 1)).takeWhile nmU).length) hsp
      rw [List.take_left] at this
      rw [this, List.drop_take, hlen]
      congr 1; omega
  rw [at_drop h, tk_cons, at8_36, h1]
  rw [at_drop hk] at e1
  have hn : nmU (at_ s (k + 1)) = true := nm_of_lt hl
  rw [List.dropWhile_cons_of_pos hn, List.takeWhile_cons_of_pos hn] at e1
  rw [at_drop hk]
  simp only [at8_36, beq_eq_false_iff_ne.2 (h2 hk), letU, ← at8_nat, hl, e1.1, e1.2]
  simp

def tkAt (s : Str) (k : Nat) (done : List Tok) : Prop := tk s = (done ++ (tk (s.drop k)).1, (tk (s.drop k)).2)
theorem tkAt_zero (s : Str) : tkAt s 0 [] := by simp [tkAt]
theorem tkAt.next {s : Str} {k j : Nat} {done : List Tok} {x : Tok} (h : tkAt s k done) (e : tk (s.drop k) = tcons x (tk (s.drop j))) : tkAt s j (done ++ [x]) := by
  unfold tkAt at h ⊢; rw [h, e]; simp [tcons]
theorem tkAt.bad {s : Str} {k : Nat} {done : List Tok} (h : tkAt s k done) (e : tk (s.drop k) = ([], false)) : tk s = (done, false) := by
  unfold tkAt at h; rw [h, e]; simp
theorem tkAt.fin {s : Str} {k : Nat} {done : List Tok} (h : tkAt s k done) (hk : ¬ k < s.length) : tk s = (done, true) := by
  unfold tkAt at h; rw [h, List.drop_eq_nil_of_le (by omega), tk_nil]; simp
end Go.Dt
namespace Go.Dt
open Go.Ab

theorem idx_at' {α : Type} [Inhabited α] {p : α → Bool} {l : List α} {k : Nat} (hk : k < l.length) (h : ∀ x ∈ l.take k, p x = false) (e : p (at_ l k) = true) : idx p l = k := by
  refine idx_at hk h ?_
  have : l[k] = at_ l k := by unfold at_; rw [List.getElem?_eq_getElem hk]; rfl
  rw [this]; exact e
theorem take_step' {α : Type} [Inhabited α] {p : α → Bool} {l : List α} {k : Nat} (hk : k < l.length) (h : ∀ x ∈ l.take k, p x = false) (e : p (at_ l k) = false) : ∀ x ∈ l.take (k + 1), p x = false := by
  refine take_step hk h ?_
  have : l[k] = at_ l k := by unfold at_; rw [List.getElem?_eq_getElem hk]; rfl
  rw [this]; exact e
theorem idx_end {α : Type} {p : α → Bool} {l : List α} {k : Nat} (hk : ¬ k < l.length) (h : ∀ x ∈ l.take k, p x = false) : idx p l = -1 :=
  idx_none (by rw [List.take_of_length_le (by omega)] at h; exact h)
theorem idx_lt {α : Type} {p : α → Bool} : ∀ (l : List α), idx p l < l.length
  | [] => by simp [idx]
  | x :: xs => by
    have := idx_lt (p := p) xs
    simp only [idx, List.length_cons]
    split
    · omega
    · split <;> omega

def argP (n : Str) (a : GArg) : Bool := a.fName == n
def argV (l : List GArg) (n : Str) : Option Str := if idx (argP n) l < 0 then none else some (at_ l (idx (argP n) l).toNat).fValue
def outF (l : List GArg) : List Tok → Str
  | [] => []
  | .inl c :: t => c :: outF l t
  | .inr n :: t => (argV l n).getD [] ++ outF l t
def allF (l : List GArg) : List Tok → Bool
  | [] => true
  | .inl _ :: t => allF l t
  | .inr n :: t => (argV l n).isSome && allF l t

theorem outF_app (l : List GArg) : ∀ a b : List Tok, outF l (a ++ b) = outF l a ++ outF l b
  | [], _ => rfl
  | .inl _ :: a, b => by simp [outF, outF_app l a b]
  | .inr _ :: a, b => by simp [outF, outF_app l a b]
theorem allF_app (l : List GArg) : ∀ a b : List Tok, allF l (a ++ b) = (allF l a && allF l b)
  | [], _ => by simp [allF]
  | .inl _ :: a, b => by simp [allF, allF_app l a b]
  | .inr _ :: a, b => by simp [allF, allF_app l a b, Bool.and_assoc]

def ArgsOk (l : List GArg) : Prop := ∀ a ∈ l, a.fValue.length ≤ 1048576

theorem argV_le {l : List GArg} (h : ArgsOk l) (n : Str) : ((argV l n).getD []).length ≤ 1048576 := by
  unfold argV
  split
  · simp
  · rename_i hn
    have := idx_lt (p := argP n) l
    exact h _ (at_mem (by omega))

theorem outF_len {l : List GArg} (h : ArgsOk l) : ∀ t : List Tok, (outF l t).length ≤ t.length * 1048576
  | [] => by simp [outF]
  | .inl c :: t => by simp only [outF, List.length_cons]; have := outF_len h t; omega
  | .inr n :: t => by
    simp only [outF, List.length_cons, List.length_append]
    have := outF_len h t
    have := argV_le h n
    omega

theorem tk_len (s : Str) : (tk s).1.length ≤ s.length := by
  induction h : s.length using Nat.strongRecOn generalizing s with
  | _ n ih =>
    cases s with
    | nil => rw [tk_nil]; simp
    | cons c r =>
      simp only [List.length_cons] at h
      rw [tk_cons]
      split
      · cases r with
        | nil => simp
        | cons d r' =>
          simp only [List.length_cons] at h ⊢
          split
          · have := ih r'.length (by omega) r' rfl
            simp only [tcons, List.length_cons]; omega
          · split
            · have h1 := (List.dropWhile_suffix (p := nmU) (l := r')).length_le
              have := ih (r'.dropWhile nmU).length (by omega) _ rfl
              simp only [tcons, List.length_cons]; omega
            · simp
      · have := ih r.length (by omega) r rfl
        simp only [tcons, List.length_cons]; omega

theorem at8_byte (s : Str) (k : Nat) : UInt8.ofNat (at8 s k).toNat = at_ s k := by rw [at8_nat, Int.toNat_natCast, UInt8.ofNat_toNat]
theorem tkAt.snd {s : Str} {k : Nat} {d : List Tok} (h : tkAt s k d) : (tk s).2 = (tk (s.drop k)).2 := by
  unfold tkAt at h
  have := congrArg Prod.snd h
  exact this
theorem tkAt.fst {s : Str} {k : Nat} {d : List Tok} (h : tkAt s k d) : (tk s).1 = d ++ (tk (s.drop k)).1 := by
  unfold tkAt at h
  have := congrArg Prod.fst h
  exact this

theorem tkAt.more {s : Str} {k : Nat} {d : List Tok} (h : tkAt s k d) (hok : (tk s).2 = true) (hk : k < s.length) (h36 : at8 s k = 36) : k + 1 < s.length ∧ (at8 s (k + 1 : Nat) ≠ 36 → nameEnd s (k + 1) ≠ k + 1) := by
  rw [h.snd] at hok
  constructor
  · rcases Nat.lt_or_ge (k + 1) s.length with h1 | h1
    · exact h1
    · rw [tk_bad hk h36 (fun h => by omega) (fun h => by omega)] at hok; cases hok
  · intro h2 h3
    rw [tk_bad hk h36 (fun _ => h2) (nameEnd_no h3)] at hok; cases hok

def flB (l : List GArg) (p : List Tok × Bool) : Bool := p.2 && allF l p.1
def flS (l : List GArg) (p : List Tok × Bool) : Str := bif flB l p then outF l p.1 else []

end Go.Dt
