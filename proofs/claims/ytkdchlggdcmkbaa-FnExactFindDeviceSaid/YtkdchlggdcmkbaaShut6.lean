/-
  The closed facts of the row of FnExactFindDevice, by computation.
-/
import Derived.Test.YtkdchlggdcmkbaaRows
import Derived.JoinedOf
import Derived.KernelRfl
set_option linter.unusedSimpArgs false
set_option linter.unusedVariables false
namespace Go.Proofs.Ytkdchlggdcmkbaa.fnExactFindDevice
theorem closed : joinedFacts Try.prog 6 Try.f6 Rows.fnExactFindDeviceSpec Rows.fnExactFindDeviceRow = true := by kernel_rfl
end Go.Proofs.Ytkdchlggdcmkbaa.fnExactFindDevice
