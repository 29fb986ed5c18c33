/-
  Part of a proof: Shut15.
-/
import Derived.Test.YtfglembdjbhanaaGreatDoorRows
import Derived.JoinedOf
import Derived.KernelRfl
set_option linter.unusedSimpArgs false
set_option linter.unusedVariables false
namespace Go.Proofs.YtfglembdjbhanaaGreatDoor.fnExactFillTemplate
theorem closed : joinedFacts Tryz.prog 4 Tryz.f4 Rows.fnExactFillTemplateSpec Rows.fnExactFillTemplateRow = true := by kernel_rfl
end Go.Proofs.YtfglembdjbhanaaGreatDoor.fnExactFillTemplate
