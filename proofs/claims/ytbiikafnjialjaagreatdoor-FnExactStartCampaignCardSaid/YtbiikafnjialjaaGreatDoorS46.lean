/- Part of a proof. -/
import Derived.Test.YtbiikafnjialjaaGreatDoorTie
set_option linter.all false
open Go.Proofs.Tryz
open List
namespace Go.Proofs.YtbiikafnjialjaaGreatDoor.fnExactStartCampaign
def w4:false=Rows.fnExactStartCampaignRow.goesBy Tryz.pinned.checked.prog:=by kernel_rfl
