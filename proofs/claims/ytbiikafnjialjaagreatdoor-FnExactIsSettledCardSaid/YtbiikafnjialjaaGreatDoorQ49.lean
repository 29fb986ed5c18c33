/- Part of a proof. -/
import Derived.Test.YtbiikafnjialjaaGreatDoorRows
import Derived.JoinedOf
set_option linter.all false
open Go.Proofs.Tryz
open List
namespace Go.Proofs.YtbiikafnjialjaaGreatDoor.fnExactIsSettled
def s1:laidOutB prog=true:=by kernel_rfl
def s2:mapsRowed prog=true:=by kernel_rfl
def s3:(Rows.fnExactIsSettledRow.inPlace == Program.inPlace prog 5)=true:=by kernel_rfl
def s4:(Rows.fnExactIsSettledRow.unfollowed == Program.unfollowed prog 5)=true:=by kernel_rfl
def s5:(Rows.fnExactIsSettledRow.recurses == Program.recurses prog 5)=true:=by kernel_rfl
def s6:(Rows.fnExactIsSettledRow.named == Program.varsNamed prog 5)=true:=by kernel_rfl
def closed:joinedFacts prog 5 Tryz.f5 Rows.fnExactIsSettledSpec Rows.fnExactIsSettledRow=true:=by
 unfold joinedFacts;rw[s1,s2,s3,s4,s5,s6]
 kernel_rfl
