/-
  Part of a proof: Shut11.
-/
import Derived.Test.YtkdchlggdcmkbaaGreatRows
import Derived.JoinedOf
import Derived.KernelRfl
set_option linter.unusedSimpArgs false
set_option linter.unusedVariables false
namespace Go.Proofs.YtkdchlggdcmkbaaGreat.fnExactHeldDevices
theorem closed : joinedFacts Tryz.prog 5 Tryz.f5 Rows.fnExactHeldDevicesSpec Rows.fnExactHeldDevicesRow = true := by kernel_rfl
end Go.Proofs.YtkdchlggdcmkbaaGreat.fnExactHeldDevices
