/-
  The closed facts of the row of FnExactNamesIn, by computation.
-/
import Derived.Test.YtkdchlggdcmkbaaRows
import Derived.JoinedOf
import Derived.KernelRfl
set_option linter.unusedSimpArgs false
set_option linter.unusedVariables false
namespace Go.Proofs.Ytkdchlggdcmkbaa.fnExactNamesIn
theorem closed : joinedFacts Try.prog 3 Try.f3 Rows.fnExactNamesInSpec Rows.fnExactNamesInRow = true := by kernel_rfl
end Go.Proofs.Ytkdchlggdcmkbaa.fnExactNamesIn
