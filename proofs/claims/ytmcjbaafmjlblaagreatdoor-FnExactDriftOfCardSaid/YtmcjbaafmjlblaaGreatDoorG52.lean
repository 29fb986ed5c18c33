/-
  Part of a proof: Shut22.
-/
import Derived.Test.YtmcjbaafmjlblaaGreatDoorRows
import Derived.JoinedOf
import Derived.KernelRfl
set_option linter.unusedSimpArgs false
set_option linter.unusedVariables false
namespace Go.Proofs.YtmcjbaafmjlblaaGreatDoor.fnExactDriftOf
theorem s1:laidOutB Tryz.prog=true:=by kernel_rfl
theorem s2:mapsRowed Tryz.prog=true:=by kernel_rfl
theorem s3:(Rows.fnExactDriftOfRow.inPlace == Program.inPlace Tryz.prog 3)=true:=by kernel_rfl
theorem s4:(Rows.fnExactDriftOfRow.unfollowed == Program.unfollowed Tryz.prog 3)=true:=by kernel_rfl
theorem s5:(Rows.fnExactDriftOfRow.recurses == Program.recurses Tryz.prog 3)=true:=by kernel_rfl
theorem s6:(Rows.fnExactDriftOfRow.named == Program.varsNamed Tryz.prog 3)=true:=by kernel_rfl
theorem closed:joinedFacts Tryz.prog 3 Tryz.f3 Rows.fnExactDriftOfSpec Rows.fnExactDriftOfRow=true:=by
 unfold joinedFacts
 rw [s1,s2,s3,s4,s5,s6]
 kernel_rfl
end Go.Proofs.YtmcjbaafmjlblaaGreatDoor.fnExactDriftOf
