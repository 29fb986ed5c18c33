/- Part of a proof. -/
import Derived.Test.YtpelkkfkecfmbaaGreatDoorRows
import Derived.JoinedOf
set_option linter.all false
open Go.Proofs.Tryz
namespace Go.Proofs.YtpelkkfkecfmbaaGreatDoor.fnExactIsDevice
def s1:laidOutB prog=true:=by kernel_rfl
def s2:mapsRowed prog=true:=by kernel_rfl
def s3:(Rows.fnExactIsDeviceRow.inPlace == Program.inPlace prog 3)=true:=by kernel_rfl
def s4:(Rows.fnExactIsDeviceRow.unfollowed == Program.unfollowed prog 3)=true:=by kernel_rfl
def s5:(Rows.fnExactIsDeviceRow.recurses == Program.recurses prog 3)=true:=by kernel_rfl
def s6:(Rows.fnExactIsDeviceRow.named == Program.varsNamed prog 3)=true:=by kernel_rfl
def closed:joinedFacts prog 3 Tryz.f3 Rows.fnExactIsDeviceSpec Rows.fnExactIsDeviceRow=true:=by
 unfold joinedFacts;rw [s1,s2,s3,s4,s5,s6]
 kernel_rfl
end Go.Proofs.YtpelkkfkecfmbaaGreatDoor.fnExactIsDevice
