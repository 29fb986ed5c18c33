/- Part of a proof. -/
import Derived.Test.YtmcjbaafmjlblaaGreatDoorRows
import Derived.JoinedOf
set_option linter.all false
namespace Go.Proofs.YtmcjbaafmjlblaaGreatDoor.fnExactKnownBy
theorem s1:laidOutB Tryz.prog=true:=by kernel_rfl
theorem s2:mapsRowed Tryz.prog=true:=by kernel_rfl
theorem s3:(Rows.fnExactKnownByRow.inPlace == Program.inPlace Tryz.prog 5)=true:=by kernel_rfl
theorem s4:(Rows.fnExactKnownByRow.unfollowed == Program.unfollowed Tryz.prog 5)=true:=by kernel_rfl
theorem s5:(Rows.fnExactKnownByRow.recurses == Program.recurses Tryz.prog 5)=true:=by kernel_rfl
theorem s6:(Rows.fnExactKnownByRow.named == Program.varsNamed Tryz.prog 5)=true:=by kernel_rfl
theorem closed:joinedFacts Tryz.prog 5 Tryz.f5 Rows.fnExactKnownBySpec Rows.fnExactKnownByRow=true:=by
 unfold joinedFacts
 rw [s1,s2,s3,s4,s5,s6]
 kernel_rfl
end Go.Proofs.YtmcjbaafmjlblaaGreatDoor.fnExactKnownBy
