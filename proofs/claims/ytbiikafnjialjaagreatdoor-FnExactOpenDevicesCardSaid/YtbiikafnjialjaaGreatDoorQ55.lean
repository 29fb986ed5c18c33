/- Part of a proof. -/
import Derived.Test.YtbiikafnjialjaaGreatDoorTie
set_option linter.all false
open Go.Proofs.Tryz
open List
namespace Go.Proofs.YtbiikafnjialjaaGreatDoor.fnExactOpenDevices
def w4:false=Rows.fnExactOpenDevicesRow.goesBy Tryz.pinned.checked.prog:=by kernel_rfl
