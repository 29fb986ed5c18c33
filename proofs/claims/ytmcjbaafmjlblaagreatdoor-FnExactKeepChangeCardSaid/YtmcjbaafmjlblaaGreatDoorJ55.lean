/- Part of a proof. -/
import Derived.Test.YtmcjbaafmjlblaaGreatDoorRows
import Derived.JoinedOf
set_option linter.all false
namespace Go.Proofs.YtmcjbaafmjlblaaGreatDoor.fnExactKeepChange
theorem s1:laidOutB Tryz.prog=true:=by kernel_rfl
theorem s2:mapsRowed Tryz.prog=true:=by kernel_rfl
theorem s3:(Rows.fnExactKeepChangeRow.inPlace == Program.inPlace Tryz.prog 8)=true:=by kernel_rfl
theorem s4:(Rows.fnExactKeepChangeRow.unfollowed == Program.unfollowed Tryz.prog 8)=true:=by kernel_rfl
theorem s5:(Rows.fnExactKeepChangeRow.recurses == Program.recurses Tryz.prog 8)=true:=by kernel_rfl
theorem s6:(Rows.fnExactKeepChangeRow.named == Program.varsNamed Tryz.prog 8)=true:=by kernel_rfl
theorem closed:joinedFacts Tryz.prog 8 Tryz.f8 Rows.fnExactKeepChangeSpec Rows.fnExactKeepChangeRow=true:=by
 unfold joinedFacts
 rw [s1,s2,s3,s4,s5,s6]
 kernel_rfl
end Go.Proofs.YtmcjbaafmjlblaaGreatDoor.fnExactKeepChange
