/-
  Part of a proof: Shut19.
-/
import Derived.Test.YtmdbmmmlccipdaaGreatDoorRows
import Derived.JoinedOf
import Derived.KernelRfl
set_option linter.unusedSimpArgs false
set_option linter.unusedVariables false
namespace Go.Proofs.YtmdbmmmlccipdaaGreatDoor.fnExactNewWatcher
theorem s1 : laidOutB Tryz.prog = true := by kernel_rfl
theorem s2 : mapsRowed Tryz.prog = true := by kernel_rfl
theorem s3 : (Rows.fnExactNewWatcherRow.inPlace == Program.inPlace Tryz.prog 5) = true := by kernel_rfl
theorem s4 : (Rows.fnExactNewWatcherRow.unfollowed == Program.unfollowed Tryz.prog 5) = true := by kernel_rfl
theorem s5 : (Rows.fnExactNewWatcherRow.recurses == Program.recurses Tryz.prog 5) = true := by kernel_rfl
theorem s6 : (Rows.fnExactNewWatcherRow.named == Program.varsNamed Tryz.prog 5) = true := by kernel_rfl
theorem closed : joinedFacts Tryz.prog 5 Tryz.f5 Rows.fnExactNewWatcherSpec Rows.fnExactNewWatcherRow = true := by
  unfold joinedFacts
  rw [s1, s2, s3, s4, s5, s6]
  kernel_rfl
end Go.Proofs.YtmdbmmmlccipdaaGreatDoor.fnExactNewWatcher
