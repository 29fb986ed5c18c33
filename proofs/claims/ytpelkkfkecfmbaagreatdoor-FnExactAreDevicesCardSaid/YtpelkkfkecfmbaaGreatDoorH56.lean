/- Part of a proof. -/
import Derived.Test.YtpelkkfkecfmbaaGreatDoorRows
import Derived.JoinedOf
set_option linter.all false
open Go.Proofs.Tryz
namespace Go.Proofs.YtpelkkfkecfmbaaGreatDoor.fnExactAreDevices
def s1:laidOutB prog=true:=by kernel_rfl
def s2:mapsRowed prog=true:=by kernel_rfl
def s3:(Rows.fnExactAreDevicesRow.inPlace == Program.inPlace prog 5)=true:=by kernel_rfl
def s4:(Rows.fnExactAreDevicesRow.unfollowed == Program.unfollowed prog 5)=true:=by kernel_rfl
def s5:(Rows.fnExactAreDevicesRow.recurses == Program.recurses prog 5)=true:=by kernel_rfl
def s6:(Rows.fnExactAreDevicesRow.named == Program.varsNamed prog 5)=true:=by kernel_rfl
def closed:joinedFacts prog 5 Tryz.f5 Rows.fnExactAreDevicesSpec Rows.fnExactAreDevicesRow=true:=by
 unfold joinedFacts;rw [s1,s2,s3,s4,s5,s6]
 kernel_rfl
end Go.Proofs.YtpelkkfkecfmbaaGreatDoor.fnExactAreDevices
