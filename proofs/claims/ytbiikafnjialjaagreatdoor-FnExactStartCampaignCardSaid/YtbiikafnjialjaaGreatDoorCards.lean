/-
  DERIVED. GIVEN WITH THE SEED: THE CARDS: each row of YtbiikafnjialjaaGreatDoorRows.lean that lists a variable, with what it lists TIED to the program's text (the seventh form; the later family's looks); each row that meets fmt, with fmt's text TOLD by the authors' own Lean function (tested against real Go, not proved from fmt's source: count such statements apart). THE CARD IS WHAT COUNTS. Prove the row's statement (the work); the ties are given (YtbiikafnjialjaaGreatDoorTie.lean); close each card by the builder's one call (the guide's Derived/Test/ToyasCard.lean, 'card_holds'). Laid BY PROGRAM, IN A SANDBOX (cutbox-door.mjs). By AI agents, Wed Nov 11 2026. No macro, syntax, notation, axiom, sorry.
-/
import Derived.Test.YtbiikafnjialjaaGreatDoorRows
import GoSem.ClaimSeven
namespace Go.Proofs.YtbiikafnjialjaaGreatDoor
namespace Rows

/-- THE TIED CARD OF 'laws.FnExactServiceTree'. -/
def fnExactServiceTreeCard : Claim7 := { stood := { row := fnExactServiceTreeRow, standIns := [], harness := (true, "d2c10dc79398d925296a6135311dc9ab319987c0b3181c3b904e541ccba5af2c"), looks := false }, kinds := [], alts := [], laidByText := true, laidKinds := [.data, .data, .data], laidTests := true, laidLooks := .later }
def FnExactServiceTreeCardSaid : Prop := Claim7.holds Tryz.pinned (.plain (OpenSpec.ofChange fnExactServiceTreeSpec)) fnExactServiceTreeCard

/-- THE TIED CARD OF 'laws.FnExactIntentOf'. -/
def fnExactIntentOfCard : Claim7 := { stood := { row := fnExactIntentOfRow, standIns := [], harness := (true, "d2c10dc79398d925296a6135311dc9ab319987c0b3181c3b904e541ccba5af2c"), looks := false }, kinds := [], alts := [], laidByText := true, laidKinds := [.data, .data, .data], laidTests := true, laidLooks := .later }
def FnExactIntentOfCardSaid : Prop := Claim7.holds Tryz.pinned (.plain (OpenSpec.ofChange fnExactIntentOfSpec)) fnExactIntentOfCard

/-- THE TIED CARD OF 'laws.FnExactIsSettled'. -/
def fnExactIsSettledCard : Claim7 := { stood := { row := fnExactIsSettledRow, standIns := [], harness := (true, "d2c10dc79398d925296a6135311dc9ab319987c0b3181c3b904e541ccba5af2c"), looks := false }, kinds := [], alts := [], laidByText := true, laidKinds := [.data, .data, .data], laidTests := true, laidLooks := .later }
def FnExactIsSettledCardSaid : Prop := Claim7.holds Tryz.pinned (.plain (OpenSpec.ofChange fnExactIsSettledSpec)) fnExactIsSettledCard

/-- THE TIED CARD OF 'laws.FnExactStartCampaign'. -/
def fnExactStartCampaignCard : Claim7 := { stood := { row := fnExactStartCampaignRow, standIns := [], harness := (true, "d2c10dc79398d925296a6135311dc9ab319987c0b3181c3b904e541ccba5af2c"), looks := false }, kinds := [], alts := [], laidByText := true, laidKinds := [.data, .data, .data], laidTests := true, laidLooks := .later }
def FnExactStartCampaignCardSaid : Prop := Claim7.holds Tryz.pinned (.plain (OpenSpec.ofChange fnExactStartCampaignSpec)) fnExactStartCampaignCard

/-- THE TIED CARD OF 'laws.FnExactOpenDevices'. -/
def fnExactOpenDevicesCard : Claim7 := { stood := { row := fnExactOpenDevicesRow, standIns := [], harness := (true, "d2c10dc79398d925296a6135311dc9ab319987c0b3181c3b904e541ccba5af2c"), looks := false }, kinds := [], alts := [], laidByText := true, laidKinds := [.data, .data, .data], laidTests := true, laidLooks := .later }
def FnExactOpenDevicesCardSaid : Prop := Claim7.holds Tryz.pinned (.plain (OpenSpec.ofChange fnExactOpenDevicesSpec)) fnExactOpenDevicesCard

/-- THE SECOND FORM's CARD OF 'laws.FnExactServiceTree'. -/
def fnExactServiceTreeUptoCard : Claim7 := { stood := { row := fnExactServiceTreeUptoRow, standIns := [], harness := (true, "d2c10dc79398d925296a6135311dc9ab319987c0b3181c3b904e541ccba5af2c"), looks := false }, kinds := [], alts := [], laidByText := true, laidKinds := [.data, .data, .data], laidTests := true, laidLooks := .later }
def FnExactServiceTreeUptoCardSaid : Prop := Claim7.holds Tryz.pinned (.plain (OpenSpec.upto fnExactServiceTreeSpec)) fnExactServiceTreeUptoCard

/-- THE SECOND FORM's CARD OF 'laws.FnExactIntentOf'. -/
def fnExactIntentOfUptoCard : Claim7 := { stood := { row := fnExactIntentOfUptoRow, standIns := [], harness := (true, "d2c10dc79398d925296a6135311dc9ab319987c0b3181c3b904e541ccba5af2c"), looks := false }, kinds := [], alts := [], laidByText := true, laidKinds := [.data, .data, .data], laidTests := true, laidLooks := .later }
def FnExactIntentOfUptoCardSaid : Prop := Claim7.holds Tryz.pinned (.plain (OpenSpec.upto fnExactIntentOfSpec)) fnExactIntentOfUptoCard

/-- THE SECOND FORM's CARD OF 'laws.FnExactIsSettled'. -/
def fnExactIsSettledUptoCard : Claim7 := { stood := { row := fnExactIsSettledUptoRow, standIns := [], harness := (true, "d2c10dc79398d925296a6135311dc9ab319987c0b3181c3b904e541ccba5af2c"), looks := false }, kinds := [], alts := [], laidByText := true, laidKinds := [.data, .data, .data], laidTests := true, laidLooks := .later }
def FnExactIsSettledUptoCardSaid : Prop := Claim7.holds Tryz.pinned (.plain (OpenSpec.upto fnExactIsSettledSpec)) fnExactIsSettledUptoCard

/-- THE SECOND FORM's CARD OF 'laws.FnExactStartCampaign'. -/
def fnExactStartCampaignUptoCard : Claim7 := { stood := { row := fnExactStartCampaignUptoRow, standIns := [], harness := (true, "d2c10dc79398d925296a6135311dc9ab319987c0b3181c3b904e541ccba5af2c"), looks := false }, kinds := [], alts := [], laidByText := true, laidKinds := [.data, .data, .data], laidTests := true, laidLooks := .later }
def FnExactStartCampaignUptoCardSaid : Prop := Claim7.holds Tryz.pinned (.plain (OpenSpec.upto fnExactStartCampaignSpec)) fnExactStartCampaignUptoCard

/-- THE SECOND FORM's CARD OF 'laws.FnExactOpenDevices'. -/
def fnExactOpenDevicesUptoCard : Claim7 := { stood := { row := fnExactOpenDevicesUptoRow, standIns := [], harness := (true, "d2c10dc79398d925296a6135311dc9ab319987c0b3181c3b904e541ccba5af2c"), looks := false }, kinds := [], alts := [], laidByText := true, laidKinds := [.data, .data, .data], laidTests := true, laidLooks := .later }
def FnExactOpenDevicesUptoCardSaid : Prop := Claim7.holds Tryz.pinned (.plain (OpenSpec.upto fnExactOpenDevicesSpec)) fnExactOpenDevicesUptoCard
end Rows
end Go.Proofs.YtbiikafnjialjaaGreatDoor
