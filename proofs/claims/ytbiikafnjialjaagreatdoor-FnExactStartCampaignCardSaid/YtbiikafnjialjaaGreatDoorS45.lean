/- Part of a proof. -/
import Derived.Test.YtbiikafnjialjaaGreatDoorRows
import Derived.JoinedOf
set_option linter.all false
open Go.Proofs.Tryz
open List
namespace Go.Proofs.YtbiikafnjialjaaGreatDoor.fnExactStartCampaign
def s1:laidOutB prog=true:=by kernel_rfl
def s2:mapsRowed prog=true:=by kernel_rfl
def s3:(Rows.fnExactStartCampaignRow.inPlace == Program.inPlace prog 6)=true:=by kernel_rfl
def s4:(Rows.fnExactStartCampaignRow.unfollowed == Program.unfollowed prog 6)=true:=by kernel_rfl
def s5:(Rows.fnExactStartCampaignRow.recurses == Program.recurses prog 6)=true:=by kernel_rfl
def s6:(Rows.fnExactStartCampaignRow.named == Program.varsNamed prog 6)=true:=by kernel_rfl
def closed:joinedFacts prog 6 Tryz.f6 Rows.fnExactStartCampaignSpec Rows.fnExactStartCampaignRow=true:=by
 unfold joinedFacts;rw[s1,s2,s3,s4,s5,s6]
 kernel_rfl
