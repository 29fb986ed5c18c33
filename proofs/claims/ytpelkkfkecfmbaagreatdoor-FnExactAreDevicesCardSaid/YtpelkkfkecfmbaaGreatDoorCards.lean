/-
  DERIVED. GIVEN WITH THE SEED: THE CARDS: each row of YtpelkkfkecfmbaaGreatDoorRows.lean that lists a variable, with what it lists TIED to the program's text (the seventh form; the later family's looks); each row that meets fmt, with fmt's text TOLD by the authors' own Lean function (tested against real Go, not proved from fmt's source: count such statements apart). THE CARD IS WHAT COUNTS. Prove the row's statement (the work); the ties are given (YtpelkkfkecfmbaaGreatDoorTie.lean); close each card by the builder's one call (the guide's Derived/Test/ToyasCard.lean, 'card_holds'). Laid BY PROGRAM, IN A SANDBOX (cutbox-door.mjs). By AI agents, Wed Nov 11 2026. No macro, syntax, notation, axiom, sorry.
-/
import Derived.Test.YtpelkkfkecfmbaaGreatDoorRows
import GoSem.ClaimSeven
namespace Go.Proofs.YtpelkkfkecfmbaaGreatDoor
namespace Rows

/-- THE TIED CARD OF 'laws.FnExactIsDevice'. -/
def fnExactIsDeviceCard : Claim7 := { stood := { row := fnExactIsDeviceRow, standIns := [], harness := (true, "a7fd6ab52fcd751b7aa872e545bcf0ed984d16b0d3595c5d8d84f01f64a01ca3"), looks := false }, kinds := [], alts := [], laidByText := true, laidKinds := [.data, .data, .data], laidTests := true, laidLooks := .later }
def FnExactIsDeviceCardSaid : Prop := Claim7.holds Tryz.pinned (.plain (OpenSpec.ofChange fnExactIsDeviceSpec)) fnExactIsDeviceCard

/-- THE TIED CARD OF 'laws.FnExactAcceptsTree'. -/
def fnExactAcceptsTreeCard : Claim7 := { stood := { row := fnExactAcceptsTreeRow, standIns := [], harness := (true, "a7fd6ab52fcd751b7aa872e545bcf0ed984d16b0d3595c5d8d84f01f64a01ca3"), looks := false }, kinds := [], alts := [], laidByText := true, laidKinds := [.data, .data, .data], laidTests := true, laidLooks := .later }
def FnExactAcceptsTreeCardSaid : Prop := Claim7.holds Tryz.pinned (.plain (OpenSpec.ofChange fnExactAcceptsTreeSpec)) fnExactAcceptsTreeCard

/-- THE TIED CARD OF 'laws.FnExactAreDevices'. -/
def fnExactAreDevicesCard : Claim7 := { stood := { row := fnExactAreDevicesRow, standIns := [], harness := (true, "a7fd6ab52fcd751b7aa872e545bcf0ed984d16b0d3595c5d8d84f01f64a01ca3"), looks := false }, kinds := [], alts := [], laidByText := true, laidKinds := [.data, .data, .data], laidTests := true, laidLooks := .later }
def FnExactAreDevicesCardSaid : Prop := Claim7.holds Tryz.pinned (.plain (OpenSpec.ofChange fnExactAreDevicesSpec)) fnExactAreDevicesCard

/-- THE TIED CARD OF 'laws.FnExactNewDevice'. -/
def fnExactNewDeviceCard : Claim7 := { stood := { row := fnExactNewDeviceRow, standIns := [], harness := (true, "a7fd6ab52fcd751b7aa872e545bcf0ed984d16b0d3595c5d8d84f01f64a01ca3"), looks := false }, kinds := [], alts := [], laidByText := true, laidKinds := [.data, .data, .data], laidTests := true, laidLooks := .later }
def FnExactNewDeviceCardSaid : Prop := Claim7.holds Tryz.pinned (.plain (OpenSpec.ofChange fnExactNewDeviceSpec)) fnExactNewDeviceCard

/-- THE SECOND FORM's CARD OF 'laws.FnExactIsDevice'. -/
def fnExactIsDeviceUptoCard : Claim7 := { stood := { row := fnExactIsDeviceUptoRow, standIns := [], harness := (true, "a7fd6ab52fcd751b7aa872e545bcf0ed984d16b0d3595c5d8d84f01f64a01ca3"), looks := false }, kinds := [], alts := [], laidByText := true, laidKinds := [.data, .data, .data], laidTests := true, laidLooks := .later }
def FnExactIsDeviceUptoCardSaid : Prop := Claim7.holds Tryz.pinned (.plain (OpenSpec.upto fnExactIsDeviceSpec)) fnExactIsDeviceUptoCard

/-- THE SECOND FORM's CARD OF 'laws.FnExactAcceptsTree'. -/
def fnExactAcceptsTreeUptoCard : Claim7 := { stood := { row := fnExactAcceptsTreeUptoRow, standIns := [], harness := (true, "a7fd6ab52fcd751b7aa872e545bcf0ed984d16b0d3595c5d8d84f01f64a01ca3"), looks := false }, kinds := [], alts := [], laidByText := true, laidKinds := [.data, .data, .data], laidTests := true, laidLooks := .later }
def FnExactAcceptsTreeUptoCardSaid : Prop := Claim7.holds Tryz.pinned (.plain (OpenSpec.upto fnExactAcceptsTreeSpec)) fnExactAcceptsTreeUptoCard

/-- THE SECOND FORM's CARD OF 'laws.FnExactAreDevices'. -/
def fnExactAreDevicesUptoCard : Claim7 := { stood := { row := fnExactAreDevicesUptoRow, standIns := [], harness := (true, "a7fd6ab52fcd751b7aa872e545bcf0ed984d16b0d3595c5d8d84f01f64a01ca3"), looks := false }, kinds := [], alts := [], laidByText := true, laidKinds := [.data, .data, .data], laidTests := true, laidLooks := .later }
def FnExactAreDevicesUptoCardSaid : Prop := Claim7.holds Tryz.pinned (.plain (OpenSpec.upto fnExactAreDevicesSpec)) fnExactAreDevicesUptoCard

/-- THE SECOND FORM's CARD OF 'laws.FnExactNewDevice'. -/
def fnExactNewDeviceUptoCard : Claim7 := { stood := { row := fnExactNewDeviceUptoRow, standIns := [], harness := (true, "a7fd6ab52fcd751b7aa872e545bcf0ed984d16b0d3595c5d8d84f01f64a01ca3"), looks := false }, kinds := [], alts := [], laidByText := true, laidKinds := [.data, .data, .data], laidTests := true, laidLooks := .later }
def FnExactNewDeviceUptoCardSaid : Prop := Claim7.holds Tryz.pinned (.plain (OpenSpec.upto fnExactNewDeviceSpec)) fnExactNewDeviceUptoCard
end Rows
end Go.Proofs.YtpelkkfkecfmbaaGreatDoor
