/-
  Part of a proof: Shut13.
-/
import Derived.Test.YtkdchlggdcmkbaaRows
import Derived.JoinedOf
import Derived.KernelRfl
set_option linter.unusedSimpArgs false
set_option linter.unusedVariables false
namespace Go.Proofs.Ytkdchlggdcmkbaa.fnExactDropService
theorem closed : joinedFacts Try.prog 7 Try.f7 Rows.fnExactDropServiceSpec Rows.fnExactDropServiceRow = true := by kernel_rfl
end Go.Proofs.Ytkdchlggdcmkbaa.fnExactDropService
