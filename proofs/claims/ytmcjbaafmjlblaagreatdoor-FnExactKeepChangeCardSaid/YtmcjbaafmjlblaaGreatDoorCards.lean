/-
  DERIVED. GIVEN WITH THE SEED: THE CARDS: each row of YtmcjbaafmjlblaaGreatDoorRows.lean that lists a variable, with what it lists TIED to the program's text (the seventh form; the later family's looks); each row that meets fmt, with fmt's text TOLD by the authors' own Lean function (tested against real Go, not proved from fmt's source: count such statements apart). THE CARD IS WHAT COUNTS. Prove the row's statement (the work); the ties are given (YtmcjbaafmjlblaaGreatDoorTie.lean); close each card by the builder's one call (the guide's Derived/Test/ToyasCard.lean, 'card_holds'). Laid BY PROGRAM, IN A SANDBOX (cutbox-door.mjs). By AI agents, Wed Nov 11 2026. No macro, syntax, notation, axiom, sorry.
-/
import Derived.Test.YtmcjbaafmjlblaaGreatDoorRows
import GoSem.ClaimSeven
namespace Go.Proofs.YtmcjbaafmjlblaaGreatDoor
namespace Rows

/-- THE TIED CARD OF 'laws.FnExactDriftOf'. -/
def fnExactDriftOfCard : Claim7 := { stood := { row := fnExactDriftOfRow, standIns := [], harness := (true, "29264439cd0b055dbc997b5f83bec61b3e64a54213da982893ef11e8327c87ea"), looks := false }, kinds := [], alts := [], laidByText := true, laidKinds := [.data, .data, .data], laidTests := true, laidLooks := .later }
def FnExactDriftOfCardSaid : Prop := Claim7.holds Tryz.pinned (.plain (OpenSpec.ofChange fnExactDriftOfSpec)) fnExactDriftOfCard

/-- THE TIED CARD OF 'laws.FnExactTellWatcher'. -/
def fnExactTellWatcherCard : Claim7 := { stood := { row := fnExactTellWatcherRow, standIns := [], harness := (true, "29264439cd0b055dbc997b5f83bec61b3e64a54213da982893ef11e8327c87ea"), looks := false }, kinds := [], alts := [], laidByText := true, laidKinds := [.data, .data, .data], laidTests := true, laidLooks := .later }
def FnExactTellWatcherCardSaid : Prop := Claim7.holds Tryz.pinned (.plain (OpenSpec.ofChange fnExactTellWatcherSpec)) fnExactTellWatcherCard

/-- THE TIED CARD OF 'laws.FnExactKnownBy'. -/
def fnExactKnownByCard : Claim7 := { stood := { row := fnExactKnownByRow, standIns := [], harness := (true, "29264439cd0b055dbc997b5f83bec61b3e64a54213da982893ef11e8327c87ea"), looks := false }, kinds := [], alts := [], laidByText := true, laidKinds := [.data, .data, .data], laidTests := true, laidLooks := .later }
def FnExactKnownByCardSaid : Prop := Claim7.holds Tryz.pinned (.plain (OpenSpec.ofChange fnExactKnownBySpec)) fnExactKnownByCard

/-- THE TIED CARD OF 'laws.FnExactTakeNotice'. -/
def fnExactTakeNoticeCard : Claim7 := { stood := { row := fnExactTakeNoticeRow, standIns := [], harness := (true, "29264439cd0b055dbc997b5f83bec61b3e64a54213da982893ef11e8327c87ea"), looks := false }, kinds := [], alts := [], laidByText := true, laidKinds := [.data, .data, .data], laidTests := true, laidLooks := .later }
def FnExactTakeNoticeCardSaid : Prop := Claim7.holds Tryz.pinned (.plain (OpenSpec.ofChange fnExactTakeNoticeSpec)) fnExactTakeNoticeCard

/-- THE TIED CARD OF 'laws.FnExactPackJournal'. -/
def fnExactPackJournalCard : Claim7 := { stood := { row := fnExactPackJournalRow, standIns := [], harness := (true, "29264439cd0b055dbc997b5f83bec61b3e64a54213da982893ef11e8327c87ea"), looks := false }, kinds := [], alts := [], laidByText := true, laidKinds := [.data, .data, .data], laidTests := true, laidLooks := .later }
def FnExactPackJournalCardSaid : Prop := Claim7.holds Tryz.pinned (.plain (OpenSpec.ofChange fnExactPackJournalSpec)) fnExactPackJournalCard

/-- THE TIED CARD OF 'laws.FnExactKeepChange'. -/
def fnExactKeepChangeCard : Claim7 := { stood := { row := fnExactKeepChangeRow, standIns := [], harness := (true, "29264439cd0b055dbc997b5f83bec61b3e64a54213da982893ef11e8327c87ea"), looks := false }, kinds := [], alts := [], laidByText := true, laidKinds := [.data, .data, .data], laidTests := true, laidLooks := .later }
def FnExactKeepChangeCardSaid : Prop := Claim7.holds Tryz.pinned (.plain (OpenSpec.ofChange fnExactKeepChangeSpec)) fnExactKeepChangeCard

/-- THE SECOND FORM's CARD OF 'laws.FnExactDriftOf'. -/
def fnExactDriftOfUptoCard : Claim7 := { stood := { row := fnExactDriftOfUptoRow, standIns := [], harness := (true, "29264439cd0b055dbc997b5f83bec61b3e64a54213da982893ef11e8327c87ea"), looks := false }, kinds := [], alts := [], laidByText := true, laidKinds := [.data, .data, .data], laidTests := true, laidLooks := .later }
def FnExactDriftOfUptoCardSaid : Prop := Claim7.holds Tryz.pinned (.plain (OpenSpec.upto fnExactDriftOfSpec)) fnExactDriftOfUptoCard

/-- THE SECOND FORM's CARD OF 'laws.FnExactTellWatcher'. -/
def fnExactTellWatcherUptoCard : Claim7 := { stood := { row := fnExactTellWatcherUptoRow, standIns := [], harness := (true, "29264439cd0b055dbc997b5f83bec61b3e64a54213da982893ef11e8327c87ea"), looks := false }, kinds := [], alts := [], laidByText := true, laidKinds := [.data, .data, .data], laidTests := true, laidLooks := .later }
def FnExactTellWatcherUptoCardSaid : Prop := Claim7.holds Tryz.pinned (.plain (OpenSpec.upto fnExactTellWatcherSpec)) fnExactTellWatcherUptoCard

/-- THE SECOND FORM's CARD OF 'laws.FnExactKnownBy'. -/
def fnExactKnownByUptoCard : Claim7 := { stood := { row := fnExactKnownByUptoRow, standIns := [], harness := (true, "29264439cd0b055dbc997b5f83bec61b3e64a54213da982893ef11e8327c87ea"), looks := false }, kinds := [], alts := [], laidByText := true, laidKinds := [.data, .data, .data], laidTests := true, laidLooks := .later }
def FnExactKnownByUptoCardSaid : Prop := Claim7.holds Tryz.pinned (.plain (OpenSpec.upto fnExactKnownBySpec)) fnExactKnownByUptoCard

/-- THE SECOND FORM's CARD OF 'laws.FnExactTakeNotice'. -/
def fnExactTakeNoticeUptoCard : Claim7 := { stood := { row := fnExactTakeNoticeUptoRow, standIns := [], harness := (true, "29264439cd0b055dbc997b5f83bec61b3e64a54213da982893ef11e8327c87ea"), looks := false }, kinds := [], alts := [], laidByText := true, laidKinds := [.data, .data, .data], laidTests := true, laidLooks := .later }
def FnExactTakeNoticeUptoCardSaid : Prop := Claim7.holds Tryz.pinned (.plain (OpenSpec.upto fnExactTakeNoticeSpec)) fnExactTakeNoticeUptoCard

/-- THE SECOND FORM's CARD OF 'laws.FnExactPackJournal'. -/
def fnExactPackJournalUptoCard : Claim7 := { stood := { row := fnExactPackJournalUptoRow, standIns := [], harness := (true, "29264439cd0b055dbc997b5f83bec61b3e64a54213da982893ef11e8327c87ea"), looks := false }, kinds := [], alts := [], laidByText := true, laidKinds := [.data, .data, .data], laidTests := true, laidLooks := .later }
def FnExactPackJournalUptoCardSaid : Prop := Claim7.holds Tryz.pinned (.plain (OpenSpec.upto fnExactPackJournalSpec)) fnExactPackJournalUptoCard

/-- THE SECOND FORM's CARD OF 'laws.FnExactKeepChange'. -/
def fnExactKeepChangeUptoCard : Claim7 := { stood := { row := fnExactKeepChangeUptoRow, standIns := [], harness := (true, "29264439cd0b055dbc997b5f83bec61b3e64a54213da982893ef11e8327c87ea"), looks := false }, kinds := [], alts := [], laidByText := true, laidKinds := [.data, .data, .data], laidTests := true, laidLooks := .later }
def FnExactKeepChangeUptoCardSaid : Prop := Claim7.holds Tryz.pinned (.plain (OpenSpec.upto fnExactKeepChangeSpec)) fnExactKeepChangeUptoCard
end Rows
end Go.Proofs.YtmcjbaafmjlblaaGreatDoor
