/-
  Part of a proof: Shut8.
-/
import Derived.Test.YtkdchlggdcmkbaaRows
import Derived.JoinedOf
import Derived.KernelRfl
set_option linter.unusedSimpArgs false
set_option linter.unusedVariables false
namespace Go.Proofs.Ytkdchlggdcmkbaa.fnExactIsTemplate
theorem closed : joinedFacts Try.prog 8 Try.f8 Rows.fnExactIsTemplateSpec Rows.fnExactIsTemplateRow = true := by kernel_rfl
end Go.Proofs.Ytkdchlggdcmkbaa.fnExactIsTemplate
