/-
  Part of a proof: Mk0.
-/
import Derived.Test.YtfglembdjbhanaaGreatDoorG5
import Derived.Test.YtfglembdjbhanaaGreatDoorG8
set_option linter.unusedSimpArgs false
set_option linter.unusedVariables false
namespace Go.Dt
open Go.Ab
attribute [go_sem] frzL_str
def digs (n : Nat) (acc : Str) : Str := if h : n = 0 then acc else digs (n / 10) (UInt8.ofNat (48 + n % 10) :: acc)
termination_by n
decreasing_by omega
theorem digs_zero (acc : Str) : digs 0 acc = acc := by rw [digs]; simp
theorem digs_pos {n : Nat} (h : n ≠ 0) (acc : Str) : digs n acc = digs (n / 10) (UInt8.ofNat (48 + n % 10) :: acc) := by rw [digs]; simp [h]
def mkT (k : Int) : Str := 109 :: (if k ≤ 0 then [48] else digs k.toNat [])
def mks : Nat → Int → List Str
  | 0, _ => []
  | n + 1, k => mkT k :: mks n (k + 1)
theorem mks_len : ∀ (n : Nat) (k : Int), (mks n k).length = n
  | 0, _ => rfl
  | n + 1, k => by simp [mks, mks_len n]
theorem mks_snoc : ∀ (n : Nat) (k : Int), mks (n + 1) k = mks n k ++ [mkT (k + n)]
  | 0, k => by simp [mks]
  | n + 1, k => by
    rw [mks, mks_snoc n (k + 1)]
    simp only [mks, List.cons_append]
    congr 3
    rw [show k + 1 + (n : Int) = k + ((n + 1 : Nat) : Int) by omega]
def mkd (l : List Str) (k : Int) (i : Nat) : List Str := mks i k ++ l.drop i
theorem mkd_len (l : List Str) (k : Int) (i : Nat) (h : i ≤ l.length) : (mkd l k i).length = l.length := by simp [mkd, mks_len]; omega
theorem mkd_step (l : List Str) (k : Int) (i : Nat) (h : i < l.length) : ((mkd l k i).map AV.str).take i ++ [.str (mkT (k + i))] ++ ((mkd l k i).map AV.str).drop (i + 1) = (mkd l k (i + 1)).map AV.str := by
  have e1 : (mkd l k i).take i = mks i k := by rw [mkd, List.take_append_of_le_length (by simp [mks_len]), List.take_of_length_le (by simp [mks_len])]
  have hA : (mkd l k i).drop i = l.drop i := by
    have := List.drop_left (l₁ := mks i k) (l₂ := l.drop i)
    rw [mks_len] at this; exact this
  have e2 : (mkd l k i).drop (i + 1) = l.drop (i + 1) := by
    have : (mkd l k i).drop (i + 1) = ((mkd l k i).drop i).drop 1 := by rw [List.drop_drop]
    rw [this, hA, List.drop_drop]
  rw [← List.map_take, ← List.map_drop, e1, e2, mkd, mks_snoc]
  simp
end Go.Dt
