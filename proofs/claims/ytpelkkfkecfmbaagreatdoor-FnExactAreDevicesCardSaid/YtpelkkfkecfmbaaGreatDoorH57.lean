/- Part of a proof. -/
import Derived.Test.YtpelkkfkecfmbaaGreatDoorTie
set_option linter.all false
open Go.Proofs.Tryz
namespace Go.Proofs.YtpelkkfkecfmbaaGreatDoor.fnExactAreDevices
def w4:false=Rows.fnExactAreDevicesRow.goesBy Tryz.pinned.checked.prog:=by kernel_rfl
end Go.Proofs.YtpelkkfkecfmbaaGreatDoor.fnExactAreDevices
