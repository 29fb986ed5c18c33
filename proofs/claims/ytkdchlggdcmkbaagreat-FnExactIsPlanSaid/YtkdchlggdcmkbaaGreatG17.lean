/-
  Part of a proof: Shut9.
-/
import Derived.Test.YtkdchlggdcmkbaaGreatRows
import Derived.JoinedOf
import Derived.KernelRfl
set_option linter.unusedSimpArgs false
set_option linter.unusedVariables false
namespace Go.Proofs.YtkdchlggdcmkbaaGreat.fnExactIsPlan
theorem closed : joinedFacts Tryz.prog 3 Tryz.f3 Rows.fnExactIsPlanSpec Rows.fnExactIsPlanRow = true := by kernel_rfl
end Go.Proofs.YtkdchlggdcmkbaaGreat.fnExactIsPlan
