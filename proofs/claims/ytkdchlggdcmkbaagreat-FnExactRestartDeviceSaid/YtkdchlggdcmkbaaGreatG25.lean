/-
  Part of a proof: Shut12.
-/
import Derived.Test.YtkdchlggdcmkbaaGreatRows
import Derived.JoinedOf
import Derived.KernelRfl
set_option linter.unusedSimpArgs false
set_option linter.unusedVariables false
namespace Go.Proofs.YtkdchlggdcmkbaaGreat.fnExactRestartDevice
theorem closed : joinedFacts Tryz.prog 4 Tryz.f4 Rows.fnExactRestartDeviceSpec Rows.fnExactRestartDeviceRow = true := by kernel_rfl
end Go.Proofs.YtkdchlggdcmkbaaGreat.fnExactRestartDevice
