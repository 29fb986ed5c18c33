/-
  Part of a proof: Shut21.
-/
import Derived.Test.YtmcjbaafmjlblaaGreatDoorRows
import Derived.JoinedOf
import Derived.KernelRfl
set_option linter.unusedSimpArgs false
set_option linter.unusedVariables false
namespace Go.Proofs.YtmcjbaafmjlblaaGreatDoor.fnExactTellWatcher
theorem s1:laidOutB Tryz.prog=true:=by kernel_rfl
theorem s2:mapsRowed Tryz.prog=true:=by kernel_rfl
theorem s3:(Rows.fnExactTellWatcherRow.inPlace == Program.inPlace Tryz.prog 4)=true:=by kernel_rfl
theorem s4:(Rows.fnExactTellWatcherRow.unfollowed == Program.unfollowed Tryz.prog 4)=true:=by kernel_rfl
theorem s5:(Rows.fnExactTellWatcherRow.recurses == Program.recurses Tryz.prog 4)=true:=by kernel_rfl
theorem s6:(Rows.fnExactTellWatcherRow.named == Program.varsNamed Tryz.prog 4)=true:=by kernel_rfl
theorem closed:joinedFacts Tryz.prog 4 Tryz.f4 Rows.fnExactTellWatcherSpec Rows.fnExactTellWatcherRow=true:=by
 unfold joinedFacts
 rw [s1,s2,s3,s4,s5,s6]
 kernel_rfl
end Go.Proofs.YtmcjbaafmjlblaaGreatDoor.fnExactTellWatcher
