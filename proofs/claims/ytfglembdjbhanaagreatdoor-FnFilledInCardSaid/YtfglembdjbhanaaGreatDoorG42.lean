/-
  Part of a proof: Shut16.
-/
import Derived.Test.YtfglembdjbhanaaGreatDoorRows
import Derived.JoinedOf
import Derived.KernelRfl
set_option linter.unusedSimpArgs false
set_option linter.unusedVariables false
namespace Go.Proofs.YtfglembdjbhanaaGreatDoor.fnFilledIn
theorem closed : joinedFacts Tryz.prog 3 Tryz.f3 Rows.fnFilledInSpec Rows.fnFilledInRow = true := by kernel_rfl
end Go.Proofs.YtfglembdjbhanaaGreatDoor.fnFilledIn
