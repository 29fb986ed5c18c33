/-
  Part of a proof: Shut14.
-/
import Derived.Test.YtkdchlggdcmkbaaGreatRows
import Derived.JoinedOf
import Derived.KernelRfl
set_option linter.unusedSimpArgs false
set_option linter.unusedVariables false
namespace Go.Proofs.YtkdchlggdcmkbaaGreat.fnExactAddService
theorem closed : joinedFacts Tryz.prog 6 Tryz.f6 Rows.fnExactAddServiceSpec Rows.fnExactAddServiceRow = true := by kernel_rfl
end Go.Proofs.YtkdchlggdcmkbaaGreat.fnExactAddService
