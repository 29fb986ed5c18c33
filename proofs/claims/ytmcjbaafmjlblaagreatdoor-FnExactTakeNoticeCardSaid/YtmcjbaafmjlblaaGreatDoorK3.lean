/- Part of a proof. -/
import Derived.Test.YtmcjbaafmjlblaaGreatDoorRows
import Derived.JoinedOf
set_option linter.all false
namespace Go.Proofs.YtmcjbaafmjlblaaGreatDoor.fnExactTakeNotice
theorem s1:laidOutB Tryz.prog=true:=by kernel_rfl
theorem s2:mapsRowed Tryz.prog=true:=by kernel_rfl
theorem s3:(Rows.fnExactTakeNoticeRow.inPlace == Program.inPlace Tryz.prog 6)=true:=by kernel_rfl
theorem s4:(Rows.fnExactTakeNoticeRow.unfollowed == Program.unfollowed Tryz.prog 6)=true:=by kernel_rfl
theorem s5:(Rows.fnExactTakeNoticeRow.recurses == Program.recurses Tryz.prog 6)=true:=by kernel_rfl
theorem s6:(Rows.fnExactTakeNoticeRow.named == Program.varsNamed Tryz.prog 6)=true:=by kernel_rfl
theorem closed:joinedFacts Tryz.prog 6 Tryz.f6 Rows.fnExactTakeNoticeSpec Rows.fnExactTakeNoticeRow=true:=by
 unfold joinedFacts
 rw [s1,s2,s3,s4,s5,s6]
 kernel_rfl
end Go.Proofs.YtmcjbaafmjlblaaGreatDoor.fnExactTakeNotice
