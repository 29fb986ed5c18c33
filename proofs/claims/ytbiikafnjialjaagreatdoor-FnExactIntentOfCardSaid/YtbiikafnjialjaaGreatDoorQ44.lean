/- Part of a proof. -/
import Derived.Test.YtbiikafnjialjaaGreatDoorRows
import Derived.JoinedOf
set_option linter.all false
open Go.Proofs.Tryz
open List
namespace Go.Proofs.YtbiikafnjialjaaGreatDoor.fnExactIntentOf
def s1:laidOutB prog=true:=by kernel_rfl
def s2:mapsRowed prog=true:=by kernel_rfl
def s3:(Rows.fnExactIntentOfRow.inPlace == Program.inPlace prog 4)=true:=by kernel_rfl
def s4:(Rows.fnExactIntentOfRow.unfollowed == Program.unfollowed prog 4)=true:=by kernel_rfl
def s5:(Rows.fnExactIntentOfRow.recurses == Program.recurses prog 4)=true:=by kernel_rfl
def s6:(Rows.fnExactIntentOfRow.named == Program.varsNamed prog 4)=true:=by kernel_rfl
def closed:joinedFacts prog 4 Tryz.f4 Rows.fnExactIntentOfSpec Rows.fnExactIntentOfRow=true:=by
 unfold joinedFacts;rw[s1,s2,s3,s4,s5,s6]
 kernel_rfl
