/- Part of a proof. -/
import Derived.Test.YtmcjbaafmjlblaaGreatDoorRows
import Derived.JoinedOf
set_option linter.all false
namespace Go.Proofs.YtmcjbaafmjlblaaGreatDoor.fnExactPackJournal
theorem s1:laidOutB Tryz.prog=true:=by kernel_rfl
theorem s2:mapsRowed Tryz.prog=true:=by kernel_rfl
theorem s3:(Rows.fnExactPackJournalRow.inPlace == Program.inPlace Tryz.prog 7)=true:=by kernel_rfl
theorem s4:(Rows.fnExactPackJournalRow.unfollowed == Program.unfollowed Tryz.prog 7)=true:=by kernel_rfl
theorem s5:(Rows.fnExactPackJournalRow.recurses == Program.recurses Tryz.prog 7)=true:=by kernel_rfl
theorem s6:(Rows.fnExactPackJournalRow.named == Program.varsNamed Tryz.prog 7)=true:=by kernel_rfl
theorem closed:joinedFacts Tryz.prog 7 Tryz.f7 Rows.fnExactPackJournalSpec Rows.fnExactPackJournalRow=true:=by
 unfold joinedFacts
 rw [s1,s2,s3,s4,s5,s6]
 kernel_rfl
end Go.Proofs.YtmcjbaafmjlblaaGreatDoor.fnExactPackJournal
