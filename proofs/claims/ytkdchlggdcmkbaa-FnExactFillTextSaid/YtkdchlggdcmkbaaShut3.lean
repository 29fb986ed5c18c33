/-
  The closed facts of the row of FnExactFillText, by computation.
-/
import Derived.Test.YtkdchlggdcmkbaaRows
import Derived.JoinedOf
import Derived.KernelRfl
set_option linter.unusedSimpArgs false
set_option linter.unusedVariables false
namespace Go.Proofs.Ytkdchlggdcmkbaa.fnExactFillText
theorem closed : joinedFacts Try.prog 5 Try.f5 Rows.fnExactFillTextSpec Rows.fnExactFillTextRow = true := by kernel_rfl
end Go.Proofs.Ytkdchlggdcmkbaa.fnExactFillText
