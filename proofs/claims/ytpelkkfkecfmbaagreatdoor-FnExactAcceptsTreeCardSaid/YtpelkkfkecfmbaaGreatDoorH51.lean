/- Part of a proof. -/
import Derived.Test.YtpelkkfkecfmbaaGreatDoorRows
import Derived.JoinedOf
set_option linter.all false
open Go.Proofs.Tryz
namespace Go.Proofs.YtpelkkfkecfmbaaGreatDoor.fnExactAcceptsTree
def s1:laidOutB prog=true:=by kernel_rfl
def s2:mapsRowed prog=true:=by kernel_rfl
def s3:(Rows.fnExactAcceptsTreeRow.inPlace == Program.inPlace prog 4)=true:=by kernel_rfl
def s4:(Rows.fnExactAcceptsTreeRow.unfollowed == Program.unfollowed prog 4)=true:=by kernel_rfl
def s5:(Rows.fnExactAcceptsTreeRow.recurses == Program.recurses prog 4)=true:=by kernel_rfl
def s6:(Rows.fnExactAcceptsTreeRow.named == Program.varsNamed prog 4)=true:=by kernel_rfl
def closed:joinedFacts prog 4 Tryz.f4 Rows.fnExactAcceptsTreeSpec Rows.fnExactAcceptsTreeRow=true:=by
 unfold joinedFacts;rw [s1,s2,s3,s4,s5,s6]
 kernel_rfl
end Go.Proofs.YtpelkkfkecfmbaaGreatDoor.fnExactAcceptsTree
