/- Part of a proof. -/
import Derived.Test.YtbiikafnjialjaaGreatDoorRows
import Derived.JoinedOf
set_option linter.all false
open Go.Proofs.Tryz
open List
namespace Go.Proofs.YtbiikafnjialjaaGreatDoor.fnExactOpenDevices
def s1:laidOutB prog=true:=by kernel_rfl
def s2:mapsRowed prog=true:=by kernel_rfl
def s3:(Rows.fnExactOpenDevicesRow.inPlace == Program.inPlace prog 7)=true:=by kernel_rfl
def s4:(Rows.fnExactOpenDevicesRow.unfollowed == Program.unfollowed prog 7)=true:=by kernel_rfl
def s5:(Rows.fnExactOpenDevicesRow.recurses == Program.recurses prog 7)=true:=by kernel_rfl
def s6:(Rows.fnExactOpenDevicesRow.named == Program.varsNamed prog 7)=true:=by kernel_rfl
def closed:joinedFacts prog 7 Tryz.f7 Rows.fnExactOpenDevicesSpec Rows.fnExactOpenDevicesRow=true:=by
 unfold joinedFacts;rw[s1,s2,s3,s4,s5,s6]
 kernel_rfl
