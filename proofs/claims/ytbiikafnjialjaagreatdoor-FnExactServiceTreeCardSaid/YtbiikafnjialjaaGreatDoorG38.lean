/- Part of a proof. -/
import Derived.Test.YtbiikafnjialjaaGreatDoorRows
import Derived.JoinedOf
set_option linter.all false
namespace Go.Proofs.YtbiikafnjialjaaGreatDoor.fnExactServiceTree
theorem s1:laidOutB Tryz.prog=true:=by kernel_rfl
theorem s2:mapsRowed Tryz.prog=true:=by kernel_rfl
theorem s3:(Rows.fnExactServiceTreeRow.inPlace == Program.inPlace Tryz.prog 3)=true:=by kernel_rfl
theorem s4:(Rows.fnExactServiceTreeRow.unfollowed == Program.unfollowed Tryz.prog 3)=true:=by kernel_rfl
theorem s5:(Rows.fnExactServiceTreeRow.recurses == Program.recurses Tryz.prog 3)=true:=by kernel_rfl
theorem s6:(Rows.fnExactServiceTreeRow.named == Program.varsNamed Tryz.prog 3)=true:=by kernel_rfl
theorem closed:joinedFacts Tryz.prog 3 Tryz.f3 Rows.fnExactServiceTreeSpec Rows.fnExactServiceTreeRow=true:=by
 unfold joinedFacts
 rw [s1,s2,s3,s4,s5,s6]
 kernel_rfl
end Go.Proofs.YtbiikafnjialjaaGreatDoor.fnExactServiceTree
