/-
  Part of a proof: Mk0.
-/
import Derived.Test.YtfglembdjbhanaaGreatDoorG5
import Derived.Test.YtfglembdjbhanaaGreatDoorG12
set_option linter.unusedSimpArgs false
set_option linter.unusedVariables false
namespace Go.Dt
open Go.Ab
attribute [go_sem] frzL_str
def digs (n : Nat) (acc : Str) : Str := if h : n = 0 then acc else digs (n / 10) (UInt8.ofNat (48 + n % 10) :: acc)
termination_by n
decreasing_by omega
def mkT (k : Int) : Str := 109 :: (if k ≤ 0 then [48] else digs k.toNat [])
def mks : Nat → Int → List Str
  | 0, _ => []
  | n + 1, k => mkT k :: mks n (k + 1)
def mkd (l : List Str) (k : Int) (i : Nat) : List Str := mks i k ++ l.drop i
end Go.Dt
