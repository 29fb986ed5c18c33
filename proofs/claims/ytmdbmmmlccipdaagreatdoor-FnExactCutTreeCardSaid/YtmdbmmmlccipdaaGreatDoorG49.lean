/-
  Part of a proof: Shut17.
-/
import Derived.Test.YtmdbmmmlccipdaaGreatDoorRows
import Derived.JoinedOf
import Derived.KernelRfl
set_option linter.unusedSimpArgs false
set_option linter.unusedVariables false
namespace Go.Proofs.YtmdbmmmlccipdaaGreatDoor.fnExactCutTree
theorem s1 : laidOutB Tryz.prog = true := by kernel_rfl
theorem s2 : mapsRowed Tryz.prog = true := by kernel_rfl
theorem s3 : (Rows.fnExactCutTreeRow.inPlace == Program.inPlace Tryz.prog 4) = true := by kernel_rfl
theorem s4 : (Rows.fnExactCutTreeRow.unfollowed == Program.unfollowed Tryz.prog 4) = true := by kernel_rfl
theorem s5 : (Rows.fnExactCutTreeRow.recurses == Program.recurses Tryz.prog 4) = true := by kernel_rfl
theorem s6 : (Rows.fnExactCutTreeRow.named == Program.varsNamed Tryz.prog 4) = true := by kernel_rfl
theorem closed : joinedFacts Tryz.prog 4 Tryz.f4 Rows.fnExactCutTreeSpec Rows.fnExactCutTreeRow = true := by
  unfold joinedFacts
  rw [s1, s2, s3, s4, s5, s6]
  kernel_rfl
end Go.Proofs.YtmdbmmmlccipdaaGreatDoor.fnExactCutTree
