/-
  Part of a proof: AbMore, Idx.
-/
import Derived.Test.YtkdchlggdcmkbaaGreatG1
set_option linter.unusedSimpArgs false
set_option linter.unusedVariables false
namespace Go.Ab
end Go.Ab
namespace Go.Dt
/-- the first place at which p holds, or -1 -/
def idx {α : Type} (p : α → Bool) : List α → Int
  | [] => -1
  | x :: xs => if p x then 0 else if idx p xs < 0 then -1 else idx p xs + 1

end Go.Dt
