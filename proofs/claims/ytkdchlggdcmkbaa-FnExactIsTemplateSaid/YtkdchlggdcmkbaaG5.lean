/-
  Part of a proof: Idx, Fl0, Tx0, Tx1.
-/
import Derived.Test.YtkdchlggdcmkbaaG2
import Derived.Test.YtkdchlggdcmkbaaG3
import Derived.Test.YtkdchlggdcmkbaaG4
set_option linter.unusedSimpArgs false
set_option linter.unusedVariables false
namespace Go.Dt
/-- the first place at which p holds, or -1 -/
def idx {α : Type} (p : α → Bool) : List α → Int
  | [] => -1
  | x :: xs => if p x then 0 else if idx p xs < 0 then -1 else idx p xs + 1

theorem idx_ge {α : Type} (p : α → Bool) : ∀ l : List α, -1 ≤ idx p l
  | [] => by simp [idx]
  | x :: xs => by
    have := idx_ge p xs
    simp only [idx]; split
    · omega
    · split <;> omega

theorem idx_none {α : Type} {p : α → Bool} : ∀ {l : List α}, (∀ x ∈ l, p x = false) → idx p l = -1
  | [], _ => rfl
  | x :: xs, h => by
    have h1 := h x (by simp)
    have h2 := idx_none (l := xs) fun y hy => h y (by simp [hy])
    simp [idx, h1, h2]

theorem idx_at {α : Type} {p : α → Bool} : ∀ {l : List α} {k : Nat} (hk : k < l.length), (∀ x ∈ l.take k, p x = false) → p l[k] = true → idx p l = k
  | x :: xs, 0, _, _, h => by
    have : p x = true := by simpa using h
    simp [idx, this]
  | x :: xs, k + 1, hk, h, e => by
    have h1 := h x (by simp)
    have h2 := idx_at (l := xs) (k := k) (by simpa using hk) (fun y hy => h y (by simp [hy])) (by simpa using e)
    simp only [idx, h1, h2]
    simp; omega

theorem take_step {α : Type} {p : α → Bool} {l : List α} {k : Nat} (hk : k < l.length) (h : ∀ x ∈ l.take k, p x = false) (e : p l[k] = false) : ∀ x ∈ l.take (k + 1), p x = false := by
  intro x hx
  rw [List.take_succ_eq_append_getElem hk, List.mem_append] at hx
  rcases hx with hx | hx
  · exact h x hx
  · simp at hx; rw [hx]; exact e
end Go.Dt
namespace Go.Dt
open Go.Ab

theorem idx_at' {α : Type} [Inhabited α] {p : α → Bool} {l : List α} {k : Nat} (hk : k < l.length) (h : ∀ x ∈ l.take k, p x = false) (e : p (at_ l k) = true) : idx p l = k := by
  refine idx_at hk h ?_
  have : l[k] = at_ l k := by unfold at_; rw [List.getElem?_eq_getElem hk]; rfl
  rw [this]; exact e
theorem take_step' {α : Type} [Inhabited α] {p : α → Bool} {l : List α} {k : Nat} (hk : k < l.length) (h : ∀ x ∈ l.take k, p x = false) (e : p (at_ l k) = false) : ∀ x ∈ l.take (k + 1), p x = false := by
  refine take_step hk h ?_
  have : l[k] = at_ l k := by unfold at_; rw [List.getElem?_eq_getElem hk]; rfl
  rw [this]; exact e
theorem idx_end {α : Type} {p : α → Bool} {l : List α} {k : Nat} (hk : ¬ k < l.length) (h : ∀ x ∈ l.take k, p x = false) : idx p l = -1 :=
  idx_none (by rw [List.take_of_length_le (by omega)] at h; exact h)
theorem idx_lt {α : Type} {p : α → Bool} : ∀ (l : List α), idx p l < l.length
  | [] => by simp [idx]
  | x :: xs => by
    have := idx_lt (p := p) xs
    simp only [idx, List.length_cons]
    split
    · omega
    · split <;> omega

def argP (n : Str) (a : GArg) : Bool := a.fName == n
/-- the value that a name stands for -/
def argV (l : List GArg) (n : Str) : Option Str := if idx (argP n) l < 0 then none else some (at_ l (idx (argP n) l).toNat).fValue
def outF (l : List GArg) : List Tok → Str
  | [] => []
  | .inl c :: t => c :: outF l t
  | .inr n :: t => (argV l n).getD [] ++ outF l t
def allF (l : List GArg) : List Tok → Bool
  | [] => true
  | .inl _ :: t => allF l t
  | .inr n :: t => (argV l n).isSome && allF l t

theorem outF_app (l : List GArg) : ∀ a b : List Tok, outF l (a ++ b) = outF l a ++ outF l b
  | [], _ => rfl
  | .inl _ :: a, b => by simp [outF, outF_app l a b]
  | .inr _ :: a, b => by simp [outF, outF_app l a b]
theorem allF_app (l : List GArg) : ∀ a b : List Tok, allF l (a ++ b) = (allF l a && allF l b)
  | [], _ => by simp [allF]
  | .inl _ :: a, b => by simp [allF, allF_app l a b]
  | .inr _ :: a, b => by simp [allF, allF_app l a b, Bool.and_assoc]

def ArgsOk (l : List GArg) : Prop := ∀ a ∈ l, a.fValue.length ≤ 1048576

theorem argV_le {l : List GArg} (h : ArgsOk l) (n : Str) : ((argV l n).getD []).length ≤ 1048576 := by
  unfold argV
  split
  · simp
  · rename_i hn
    have := idx_lt (p := argP n) l
    exact h _ (at_mem (by omega))

theorem outF_len {l : List GArg} (h : ArgsOk l) : ∀ t : List Tok, (outF l t).length ≤ t.length * 1048576
  | [] => by simp [outF]
  | .inl c :: t => by simp only [outF, List.length_cons]; have := outF_len h t; omega
  | .inr n :: t => by
    simp only [outF, List.length_cons, List.length_append]
    have := outF_len h t
    have := argV_le h n
    omega

theorem tk_len (s : Str) : (tk s).1.length ≤ s.length := by
  induction h : s.length using Nat.strongRecOn generalizing s with
  | _ n ih =>
    cases s with
    | nil => rw [tk_nil]; simp
    | cons c r =>
      simp only [List.length_cons] at h
      rw [tk_cons]
      split
      · cases r with
        | nil => simp
        | cons d r' =>
          simp only [List.length_cons] at h ⊢
          split
          · have := ih r'.length (by omega) r' rfl
            simp only [tcons, List.length_cons]; omega
          · split
            · have h1 := (List.dropWhile_suffix (p := nmU) (l := r')).length_le
              have := ih (r'.dropWhile nmU).length (by omega) _ rfl
              simp only [tcons, List.length_cons]; omega
            · simp
      · have := ih r.length (by omega) r rfl
        simp only [tcons, List.length_cons]; omega

theorem at8_byte (s : Str) (k : Nat) : UInt8.ofNat (at8 s k).toNat = at_ s k := by rw [at8_nat, Int.toNat_natCast, UInt8.ofNat_toNat]
theorem cut1 {s : Str} {k : Nat} (h : k < s.length) : (s.take (k + 1)).drop k = [at_ s k] := by
  rw [List.drop_take, at_drop h]; simp

theorem tkAt.snd {s : Str} {k : Nat} {d : List Tok} (h : tkAt s k d) : (tk s).2 = (tk (s.drop k)).2 := by
  unfold tkAt at h
  have := congrArg Prod.snd h
  exact this
theorem tkAt.fst {s : Str} {k : Nat} {d : List Tok} (h : tkAt s k d) : (tk s).1 = d ++ (tk (s.drop k)).1 := by
  unfold tkAt at h
  have := congrArg Prod.fst h
  exact this

theorem tkAt.more {s : Str} {k : Nat} {d : List Tok} (h : tkAt s k d) (hok : (tk s).2 = true) (hk : k < s.length) (h36 : at8 s k = 36) : k + 1 < s.length ∧ (at8 s (k + 1 : Nat) ≠ 36 → nameEnd s (k + 1) ≠ k + 1) := by
  rw [h.snd] at hok
  constructor
  · rcases Nat.lt_or_ge (k + 1) s.length with h1 | h1
    · exact h1
    · rw [tk_bad hk h36 (fun h => by omega) (fun h => by omega)] at hok; cases hok
  · intro h2 h3
    rw [tk_bad hk h36 (fun _ => h2) (nameEnd_no h3)] at hok; cases hok

def flB (l : List GArg) (p : List Tok × Bool) : Bool := p.2 && allF l p.1
def flS (l : List GArg) (p : List Tok × Bool) : Str := bif flB l p then outF l p.1 else []

theorem flB_bad {s : Str} {k : Nat} {d : List Tok} {l : List GArg} {n : Str} {j : Nat} (h : tkAt s k d) (e : tk (s.drop k) = tcons (.inr n) (tk (s.drop j))) (hn : idx (argP n) l < 0) : flB l (tk s) = false := by
  unfold flB
  rw [h.fst, e, allF_app]
  simp [tcons, allF, argV, hn]

theorem flB_end {s : Str} {k : Nat} {d : List Tok} {l : List GArg} (h : tkAt s k d) (hk : k ≤ s.length) (he : k < s.length → (tk s).2 = false) (hall : allF l d = true) (hd : (tk s).2 = false → d = []) : outF l d = flS l (tk s) ∧ (tk s).2 = flB l (tk s) := by
  by_cases hlt : k < s.length
  · have h1 := he hlt
    rw [hd h1]
    simp [flS, flB, h1, outF]
  · have := h.fin hlt
    simp [flS, flB, this, hall]
end Go.Dt
namespace Go.Dt
open Go.Ab
/-- p holds below n -/
def allTo (p : Nat → Bool) : Nat → Bool
  | 0 => true
  | k + 1 => allTo p k && p k
theorem allTo_false {p : Nat → Bool} : ∀ {n j : Nat}, j < n → p j = false → allTo p n = false
  | 0, _, h, _ => by omega
  | n + 1, j, h, e => by
    simp only [allTo]
    by_cases hj : j = n
    · subst hj; simp [e]
    · rw [allTo_false (n := n) (by omega) e]; rfl
theorem allTo_step {p : Nat → Bool} {k : Nat} (h : allTo p k = true) (e : p k = true) : allTo p (k + 1) = true := by simp [allTo, h, e]
theorem allTo_get {p : Nat → Bool} : ∀ {n j : Nat}, allTo p n = true → j < n → p j = true
  | 0, _, _, h => by omega
  | n + 1, j, h, hj => by
    simp only [allTo, Bool.and_eq_true] at h
    by_cases e : j = n
    · subst e; exact h.2
    · exact allTo_get h.1 (by omega)
theorem allTo_list {α : Type} [Inhabited α] (q : α → Bool) (l : List α) : allTo (fun j => q (at_ l j)) l.length = l.all q := by
  have key : ∀ n, n ≤ l.length → allTo (fun j => q (at_ l j)) n = (l.take n).all q := by
    intro n
    induction n with
    | zero => intro _; simp [allTo]
    | succ n ih =>
      intro h
      rw [allTo, ih (by omega)]
      have : l.take (n + 1) = l.take n ++ [at_ l n] := by
        rw [List.take_succ_eq_append_getElem (by omega)]
        unfold at_; rw [List.getElem?_eq_getElem (by omega)]; rfl
      rw [this]; simp
  have := key l.length (Nat.le_refl _)
  rwa [List.take_length] at this

theorem szSl_neg {α : Type} {f : α → Int → Int} {l : List α} {r : Int} (h : r - l.length < 0) : szSl f l r = -1 := by unfold szSl thn; rw [if_pos h]
theorem szSl_pos {α : Type} {f : α → Int → Int} {l : List α} {r : Int} (h : 0 ≤ r - l.length) : szSl f l r = szGo f l (r - l.length) := by unfold szSl thn; rw [if_neg (by omega)]
theorem szGo_at {α : Type} [Inhabited α] {f : α → Int → Int} {l : List α} {k : Nat} {r : Int} (h : k < l.length) : szGo f (l.drop k) r = if f (at_ l k) r < 0 then -1 else szGo f (l.drop (k + 1)) (f (at_ l k) r) := by
  rw [at_drop h, szGo, thn]
theorem szGo_end {α : Type} {f : α → Int → Int} {l : List α} {k : Nat} {r : Int} (h : ¬ k < l.length) : szGo f (l.drop k) r = r := by
  rw [List.drop_eq_nil_of_le (by omega), szGo]
theorem rawL_n (n : Nat) : rawL n = 140737488355328 := rfl
attribute [go_sem] rawL_n
class Lok (L : Nat → Nat) : Prop where
  le : ∀ z, L z ≤ 4611686018427387904
instance : Lok lim := ⟨fun z => by unfold lim; split <;> omega⟩
instance : Lok rawL := ⟨fun z => by unfold rawL; omega⟩

def chN (s : Str) (j : Nat) : Bool := ltI (at8 s j) || (!(j == 0) && nmI (at8 s j))
/-- is it a name -/
def isName (s : Str) : Bool := allTo (chN s) s.length && (decide (1 ≤ s.length) && decide (s.length ≤ 16) && !(at8 s (s.length - 1 : Nat) == 45))
def chT (s : Str) (j : Nat) : Bool := decide (32 ≤ at8 s j) && decide (at8 s j ≤ 126)
/-- is it a text -/
def isText (s : Str) : Bool := allTo (chT s) s.length && decide (s.length ≤ 40)
end Go.Dt
namespace Go.Proofs.Ytkdchlggdcmkbaa
open Go.Ab Go.Dt
set_option maxRecDepth 20000
set_option maxHeartbeats 1000000

instance sIsText_i (L : Nat → Nat) (s : Str) : Ctr L Try.prog 123 [] [.str s] (.v (.bool (isText s))) [] True := by
  refine Ctr.of_body en123 Try.func123 rfl rfl fun hp => (?_); rw [Try.ntmps123]
  refine AW.fact 0 fun hf => ?_
  simp (disch := omega) only [go_sem, Nat.reduceBEq] at hf
  (repeat' (first | (with_reducible first | refine Z ?_ | refine Y ?_ | (refine hK _ _ ?_; clear hK K) | exact trivial | refine And.intro ?_ ?_) | (refine AW.i rfl (fun h => ?_) (fun h => ?_) <;> try simp only [hC, reduceCtorEq] at h) | with_reducible rfl | with_reducible refine E ?_ | refine eF rfl ?_ | (with_reducible refine fun (K : _ → _ → Prop) hK => ?_) | (with_reducible show drawOK _ _ = true; kernel_rfl) | (with_reducible refine gI fun hg => ?_; try simp only [hC, reduceCtorEq] at hg; try simp only [hg]) | simp (maxSteps := 2000000) (disch := omega) only [go_sem] | (with_reducible intro hg; try simp only [hC, reduceCtorEq] at hg) | (with_reducible show List.Nodup _; decide) | (with_reducible show (_ : Bool) = false; first | rfl | (simp [*]; done)) | with_reducible exact at8_le _ _ | with_reducible exact at8_ge _ _ | (simp only [hC, reduceCtorEq]; omega) | omega | with_reducible assumption | (with_reducible show (_ : Bool) = true; first | (simp [*]; done) | (simp only [hC, reduceCtorEq]; (repeat' (first | assumption | apply And.intro)); done))))
  refine AW.loopV [3] [0] (fun m xs o => ∃ k : Nat, xs = [.v (.int .i64 k)] ∧ o = [] ∧ m = s.length - k ∧ k ≤ s.length ∧ allTo (chT s) k = true) s.length [] trivial ⟨0, ?_, rfl, rfl, ?_, rfl⟩ ?_
  · rfl
  · omega
  rintro m xs o ⟨k, rfl, rfl, rfl, hk, hR⟩
  (repeat' (first | (with_reducible first | refine Z ?_ | refine Y ?_ | (refine hK _ _ ?_; clear hK K) | exact trivial | refine And.intro ?_ ?_) | (refine AW.i rfl (fun h => ?_) (fun h => ?_) <;> try simp only [hC, reduceCtorEq] at h) | with_reducible rfl | with_reducible refine E ?_ | refine eF rfl ?_ | (with_reducible refine fun (K : _ → _ → Prop) hK => ?_) | (with_reducible show drawOK _ _ = true; kernel_rfl) | (with_reducible refine gI fun hg => ?_; try simp only [hC, reduceCtorEq] at hg; try simp only [hg]) | simp (maxSteps := 2000000) (disch := omega) only [go_sem] | (with_reducible intro hg; try simp only [hC, reduceCtorEq] at hg) | (with_reducible show List.Nodup _; decide) | (with_reducible show (_ : Bool) = false; first | rfl | (simp [*]; done)) | with_reducible exact at8_le _ _ | with_reducible exact at8_ge _ _ | (simp only [hC, reduceCtorEq]; omega) | omega | with_reducible assumption | (with_reducible show (_ : Bool) = true; first | (simp [*]; done) | (simp only [hC, reduceCtorEq]; (repeat' (first | assumption | apply And.intro)); done))))
  · rw [isText, allTo_false (by assumption) (by simp [chT]; omega)]; rfl
  · exact ⟨_, [_], [], by omega, ⟨k + 1, rfl, rfl, rfl, by omega, allTo_step hR (by simp [chT]; omega)⟩, rfl, trivial⟩
  · rw [show k = s.length by omega] at hR
    rw [isText, hR]; simp; omega
instance iIsText_i (L : Nat → Nat) (s : Str) : Ctr L Try.prog 131 [] [.str s] (.v (.bool (isText s))) [] True := by
  refine Ctr.of_body en131 Try.func131 rfl rfl fun hp => (?_); rw [Try.ntmps131]
  refine AW.fact 0 fun hf => ?_
  simp (disch := omega) only [go_sem, Nat.reduceBEq] at hf
  (repeat' (first | (with_reducible first | refine Z ?_ | refine Y ?_ | (refine hK _ _ ?_; clear hK K) | exact trivial | refine And.intro ?_ ?_) | (refine AW.i rfl (fun h => ?_) (fun h => ?_) <;> try simp only [hC, reduceCtorEq] at h) | with_reducible rfl | with_reducible refine E ?_ | refine eF rfl ?_ | (with_reducible refine fun (K : _ → _ → Prop) hK => ?_) | (with_reducible show drawOK _ _ = true; kernel_rfl) | (with_reducible refine gI fun hg => ?_; try simp only [hC, reduceCtorEq] at hg; try simp only [hg]) | simp (maxSteps := 2000000) (disch := omega) only [go_sem] | (with_reducible intro hg; try simp only [hC, reduceCtorEq] at hg) | (with_reducible show List.Nodup _; decide) | (with_reducible show (_ : Bool) = false; first | rfl | (simp [*]; done)) | with_reducible exact at8_le _ _ | with_reducible exact at8_ge _ _ | (simp only [hC, reduceCtorEq]; omega) | omega | with_reducible assumption | (with_reducible show (_ : Bool) = true; first | (simp [*]; done) | (simp only [hC, reduceCtorEq]; (repeat' (first | assumption | apply And.intro)); done))))
  refine AW.loopV [3] [0] (fun m xs o => ∃ k : Nat, xs = [.v (.int .i64 k)] ∧ o = [] ∧ m = s.length - k ∧ k ≤ s.length ∧ allTo (chT s) k = true) s.length [] trivial ⟨0, ?_, rfl, rfl, ?_, rfl⟩ ?_
  · rfl
  · omega
  rintro m xs o ⟨k, rfl, rfl, rfl, hk, hR⟩
  (repeat' (first | (with_reducible first | refine Z ?_ | refine Y ?_ | (refine hK _ _ ?_; clear hK K) | exact trivial | refine And.intro ?_ ?_) | (refine AW.i rfl (fun h => ?_) (fun h => ?_) <;> try simp only [hC, reduceCtorEq] at h) | with_reducible rfl | with_reducible refine E ?_ | refine eF rfl ?_ | (with_reducible refine fun (K : _ → _ → Prop) hK => ?_) | (with_reducible show drawOK _ _ = true; kernel_rfl) | (with_reducible refine gI fun hg => ?_; try simp only [hC, reduceCtorEq] at hg; try simp only [hg]) | simp (maxSteps := 2000000) (disch := omega) only [go_sem] | (with_reducible intro hg; try simp only [hC, reduceCtorEq] at hg) | (with_reducible show List.Nodup _; decide) | (with_reducible show (_ : Bool) = false; first | rfl | (simp [*]; done)) | with_reducible exact at8_le _ _ | with_reducible exact at8_ge _ _ | (simp only [hC, reduceCtorEq]; omega) | omega | with_reducible assumption | (with_reducible show (_ : Bool) = true; first | (simp [*]; done) | (simp only [hC, reduceCtorEq]; (repeat' (first | assumption | apply And.intro)); done))))
  · rw [isText, allTo_false (by assumption) (by simp [chT]; omega)]; rfl
  · exact ⟨_, [_], [], by omega, ⟨k + 1, rfl, rfl, rfl, by omega, allTo_step hR (by simp [chT]; omega)⟩, rfl, trivial⟩
  · rw [show k = s.length by omega] at hR
    rw [isText, hR]; simp; omega
instance sIsName_i (L : Nat → Nat) (s : Str) : Ctr L Try.prog 80 [] [.str s] (.v (.bool (isName s))) [] True := by
  refine Ctr.of_body en80 Try.func80 rfl rfl fun hp => (?_); rw [Try.ntmps80]
  refine AW.fact 0 fun hf => ?_
  simp (disch := omega) only [go_sem, Nat.reduceBEq] at hf
  (repeat' (first | (with_reducible first | refine Z ?_ | refine Y ?_ | (refine hK _ _ ?_; clear hK K) | exact trivial | refine And.intro ?_ ?_) | (refine AW.i rfl (fun h => ?_) (fun h => ?_) <;> try simp only [hC, reduceCtorEq] at h) | with_reducible rfl | with_reducible refine E ?_ | refine eF rfl ?_ | (with_reducible refine fun (K : _ → _ → Prop) hK => ?_) | (with_reducible show drawOK _ _ = true; kernel_rfl) | (with_reducible refine gI fun hg => ?_; try simp only [hC, reduceCtorEq] at hg; try simp only [hg]) | simp (maxSteps := 2000000) (disch := omega) only [go_sem] | (with_reducible intro hg; try simp only [hC, reduceCtorEq] at hg) | (with_reducible show List.Nodup _; decide) | (with_reducible show (_ : Bool) = false; first | rfl | (simp [*]; done)) | with_reducible exact at8_le _ _ | with_reducible exact at8_ge _ _ | (simp only [hC, reduceCtorEq]; omega) | omega | with_reducible assumption | (with_reducible show (_ : Bool) = true; first | (simp [*]; done) | (simp only [hC, reduceCtorEq]; (repeat' (first | assumption | apply And.intro)); done))))
  refine AW.loopV [3] [0] (fun m xs o => ∃ k : Nat, xs = [.v (.int .i64 k)] ∧ o = [] ∧ m = s.length - k ∧ k ≤ s.length ∧ allTo (chN s) k = true) s.length [] trivial ⟨0, ?_, rfl, rfl, ?_, rfl⟩ ?_
  · rfl
  · omega
  rintro m xs o ⟨k, rfl, rfl, rfl, hk, hR⟩
  (repeat' (first | (with_reducible first | refine Z ?_ | refine Y ?_ | (refine hK _ _ ?_; clear hK K) | exact trivial | refine And.intro ?_ ?_) | (refine AW.i rfl (fun h => ?_) (fun h => ?_) <;> try simp only [hC, reduceCtorEq] at h) | with_reducible rfl | with_reducible refine E ?_ | refine eF rfl ?_ | (with_reducible refine fun (K : _ → _ → Prop) hK => ?_) | (with_reducible show drawOK _ _ = true; kernel_rfl) | (with_reducible refine gI fun hg => ?_; try simp only [hC, reduceCtorEq] at hg; try simp only [hg]) | simp (maxSteps := 2000000) (disch := omega) only [go_sem] | (with_reducible intro hg; try simp only [hC, reduceCtorEq] at hg) | (with_reducible show List.Nodup _; decide) | (with_reducible show (_ : Bool) = false; first | rfl | (simp [*]; done)) | with_reducible exact at8_le _ _ | with_reducible exact at8_ge _ _ | (simp only [hC, reduceCtorEq]; omega) | omega | with_reducible assumption | (with_reducible show (_ : Bool) = true; first | (simp [*]; done) | (simp only [hC, reduceCtorEq]; (repeat' (first | assumption | apply And.intro)); done))))
  · rw [isName, allTo_false (by assumption) ?_]; rfl
    simp only [chN, nmI, ltI, digI]
    obtain ⟨h1, h2⟩ := h
    have e1 : (decide (97 ≤ at8 s k) && decide (at8 s k ≤ 122)) = false := by simp; omega
    rw [e1]
    rcases h2 with h2 | h2
    · have : k = 0 := by omega
      simp [this]
    · have e2 : (decide (48 ≤ at8 s k) && decide (at8 s k ≤ 57)) = false := by simp; omega
      rw [e2]; simp [h2.2]
  · refine ⟨_, [_], [], by omega, ⟨k + 1, rfl, rfl, rfl, by omega, allTo_step hR ?_⟩, rfl, trivial⟩
    simp only [chN, nmI, ltI, digI]
    cases e1 : (decide (97 ≤ at8 s k) && decide (at8 s k ≤ 122)) with
    | true => rfl
    | false =>
      simp only [Bool.and_eq_false_imp, decide_eq_true_eq, decide_eq_false_iff_not, Int.not_le] at e1
      obtain ⟨h1, h2⟩ := h e1
      have h3 : (k == 0) = false := by simp; omega
      rw [h3]
      cases e2 : (decide (48 ≤ at8 s k) && decide (at8 s k ≤ 57)) with
      | true => rfl
      | false =>
        simp only [Bool.and_eq_false_imp, decide_eq_true_eq, decide_eq_false_iff_not, Int.not_le] at e2
        simp [h2 e2]
  · rw [show k = s.length by omega] at hR
    rw [isName, hR]
    by_cases h0 : s.length = 0
    · simp [h0]
    · rw [castS (by omega)]
      rw [show decide ((1 : Int) ≤ (s.length : Int)) = decide (1 ≤ s.length) from decide_eq_decide.2 (by omega), show decide ((s.length : Int) ≤ 16) = decide (s.length ≤ 16) from decide_eq_decide.2 (by omega)]
      simp only [Bool.true_and, bne]
instance iIsName_i (L : Nat → Nat) (s : Str) : Ctr L Try.prog 87 [] [.str s] (.v (.bool (isName s))) [] True := by
  refine Ctr.of_body en87 Try.func87 rfl rfl fun hp => (?_); rw [Try.ntmps87]
  refine AW.fact 0 fun hf => ?_
  simp (disch := omega) only [go_sem, Nat.reduceBEq] at hf
  (repeat' (first | (with_reducible first | refine Z ?_ | refine Y ?_ | (refine hK _ _ ?_; clear hK K) | exact trivial | refine And.intro ?_ ?_) | (refine AW.i rfl (fun h => ?_) (fun h => ?_) <;> try simp only [hC, reduceCtorEq] at h) | with_reducible rfl | with_reducible refine E ?_ | refine eF rfl ?_ | (with_reducible refine fun (K : _ → _ → Prop) hK => ?_) | (with_reducible show drawOK _ _ = true; kernel_rfl) | (with_reducible refine gI fun hg => ?_; try simp only [hC, reduceCtorEq] at hg; try simp only [hg]) | simp (maxSteps := 2000000) (disch := omega) only [go_sem] | (with_reducible intro hg; try simp only [hC, reduceCtorEq] at hg) | (with_reducible show List.Nodup _; decide) | (with_reducible show (_ : Bool) = false; first | rfl | (simp [*]; done)) | with_reducible exact at8_le _ _ | with_reducible exact at8_ge _ _ | (simp only [hC, reduceCtorEq]; omega) | omega | with_reducible assumption | (with_reducible show (_ : Bool) = true; first | (simp [*]; done) | (simp only [hC, reduceCtorEq]; (repeat' (first | assumption | apply And.intro)); done))))
  · have : isName s = false := by
      rcases h with (h | h) | h
      · simp [isName]; intro _ _; omega
      · simp [isName]; intro _ _ _; omega
      · by_cases h0 : s.length = 0
        · simp [isName, h0]
        · rw [isName, allTo_false (j := 0) (by omega) (by simp [chN, h])]; rfl
    rw [this]
  refine AW.loopV [3] [0] (fun m xs o => ∃ k : Nat, xs = [.v (.int .i64 k)] ∧ o = [] ∧ m = s.length - k ∧ 1 ≤ k ∧ k ≤ s.length ∧ allTo (chN s) k = true) (s.length - 1) [] trivial ⟨1, ?_, rfl, rfl, ?_, ?_, ?_⟩ ?_
  · rfl
  · omega
  · omega
  · simp [allTo, chN, h.2]
  rintro m xs o ⟨k, rfl, rfl, rfl, hk0, hk, hR⟩
  (repeat' (first | (with_reducible first | refine Z ?_ | refine Y ?_ | (refine hK _ _ ?_; clear hK K) | exact trivial | refine And.intro ?_ ?_) | (refine AW.i rfl (fun h => ?_) (fun h => ?_) <;> try simp only [hC, reduceCtorEq] at h) | with_reducible rfl | with_reducible refine E ?_ | refine eF rfl ?_ | (with_reducible refine fun (K : _ → _ → Prop) hK => ?_) | (with_reducible show drawOK _ _ = true; kernel_rfl) | (with_reducible refine gI fun hg => ?_; try simp only [hC, reduceCtorEq] at hg; try simp only [hg]) | simp (maxSteps := 2000000) (disch := omega) only [go_sem] | (with_reducible intro hg; try simp only [hC, reduceCtorEq] at hg) | (with_reducible show List.Nodup _; decide) | (with_reducible show (_ : Bool) = false; first | rfl | (simp [*]; done)) | with_reducible exact at8_le _ _ | with_reducible exact at8_ge _ _ | (simp only [hC, reduceCtorEq]; omega) | omega | with_reducible assumption | (with_reducible show (_ : Bool) = true; first | (simp [*]; done) | (simp only [hC, reduceCtorEq]; (repeat' (first | assumption | apply And.intro)); done))))
  · have h2 : ltI (at8 s k) = false := by
      simp only [nmI, Bool.or_eq_false_iff] at h; exact h.1.1
    rw [isName, allTo_false (by assumption) (by simp [chN, h, h2])]; rfl
  · exact ⟨_, [_], [], by omega, ⟨k + 1, rfl, rfl, rfl, by omega, by omega, allTo_step hR (by simp [chN, h]; omega)⟩, rfl, trivial⟩
  · rw [show k = s.length by omega] at hR
    rw [isName, hR]
    rename_i hh
    have e1 : decide (1 ≤ s.length) = true := by simp; omega
    have e2 : decide (s.length ≤ 16) = true := by simp; omega
    rw [e1, e2]; simp [bne]
end Go.Proofs.Ytkdchlggdcmkbaa
