/-
  DERIVED. GIVEN WITH THE SEED: THE CARDS: each row of YtmdbmmmlccipdaaGreatDoorRows.lean that lists a variable, with what it lists TIED to the program's text (the seventh form; the later family's looks); each row that meets fmt, with fmt's text TOLD by the authors' own Lean function (tested against real Go, not proved from fmt's source: count such statements apart). THE CARD IS WHAT COUNTS. Prove the row's statement (the work); the ties are given (YtmdbmmmlccipdaaGreatDoorTie.lean); close each card by the builder's one call (the guide's Derived/Test/ToyasCard.lean, 'card_holds'). Laid BY PROGRAM, IN A SANDBOX (cutbox-door.mjs). By AI agents, Wed Nov 11 2026. No macro, syntax, notation, axiom, sorry.
-/
import Derived.Test.YtmdbmmmlccipdaaGreatDoorRows
import GoSem.ClaimSeven
namespace Go.Proofs.YtmdbmmmlccipdaaGreatDoor
namespace Rows

/-- THE TIED CARD OF 'laws.FnCuts'. -/
def fnCutsCard : Claim7 := { stood := { row := fnCutsRow, standIns := [], harness := (true, "e8f2c9c1c067cab3a1d8eff19a6c3e6d07b826a5f2bff9ba33b71da93e02fabe"), looks := false }, kinds := [], alts := [], laidByText := true, laidKinds := [.data, .data, .data], laidTests := true, laidLooks := .later }
def FnCutsCardSaid : Prop := Claim7.holds Tryz.pinned (.plain (OpenSpec.ofChange fnCutsSpec)) fnCutsCard

/-- THE TIED CARD OF 'laws.FnExactCutTree'. -/
def fnExactCutTreeCard : Claim7 := { stood := { row := fnExactCutTreeRow, standIns := [], harness := (true, "e8f2c9c1c067cab3a1d8eff19a6c3e6d07b826a5f2bff9ba33b71da93e02fabe"), looks := false }, kinds := [], alts := [], laidByText := true, laidKinds := [.data, .data, .data], laidTests := true, laidLooks := .later }
def FnExactCutTreeCardSaid : Prop := Claim7.holds Tryz.pinned (.plain (OpenSpec.ofChange fnExactCutTreeSpec)) fnExactCutTreeCard

/-- THE TIED CARD OF 'laws.FnExactNewWatcher'. -/
def fnExactNewWatcherCard : Claim7 := { stood := { row := fnExactNewWatcherRow, standIns := [], harness := (true, "e8f2c9c1c067cab3a1d8eff19a6c3e6d07b826a5f2bff9ba33b71da93e02fabe"), looks := false }, kinds := [], alts := [], laidByText := true, laidKinds := [.data, .data, .data], laidTests := true, laidLooks := .later }
def FnExactNewWatcherCardSaid : Prop := Claim7.holds Tryz.pinned (.plain (OpenSpec.ofChange fnExactNewWatcherSpec)) fnExactNewWatcherCard

/-- THE TIED CARD OF 'laws.FnExactIsCampaign'. -/
def fnExactIsCampaignCard : Claim7 := { stood := { row := fnExactIsCampaignRow, standIns := [], harness := (true, "e8f2c9c1c067cab3a1d8eff19a6c3e6d07b826a5f2bff9ba33b71da93e02fabe"), looks := false }, kinds := [], alts := [], laidByText := true, laidKinds := [.data, .data, .data], laidTests := true, laidLooks := .later }
def FnExactIsCampaignCardSaid : Prop := Claim7.holds Tryz.pinned (.plain (OpenSpec.ofChange fnExactIsCampaignSpec)) fnExactIsCampaignCard

/-- THE TIED CARD OF 'laws.FnExactKnownBy'. -/
def fnExactKnownByCard : Claim7 := { stood := { row := fnExactKnownByRow, standIns := [], harness := (true, "e8f2c9c1c067cab3a1d8eff19a6c3e6d07b826a5f2bff9ba33b71da93e02fabe"), looks := false }, kinds := [], alts := [], laidByText := true, laidKinds := [.data, .data, .data], laidTests := true, laidLooks := .later }
def FnExactKnownByCardSaid : Prop := Claim7.holds Tryz.pinned (.plain (OpenSpec.ofChange fnExactKnownBySpec)) fnExactKnownByCard

/-- THE TIED CARD OF 'laws.FnExactTellWatcher'. -/
def fnExactTellWatcherCard : Claim7 := { stood := { row := fnExactTellWatcherRow, standIns := [], harness := (true, "e8f2c9c1c067cab3a1d8eff19a6c3e6d07b826a5f2bff9ba33b71da93e02fabe"), looks := false }, kinds := [], alts := [], laidByText := true, laidKinds := [.data, .data, .data], laidTests := true, laidLooks := .later }
def FnExactTellWatcherCardSaid : Prop := Claim7.holds Tryz.pinned (.plain (OpenSpec.ofChange fnExactTellWatcherSpec)) fnExactTellWatcherCard

/-- THE SECOND FORM's CARD OF 'laws.FnCuts'. -/
def fnCutsUptoCard : Claim7 := { stood := { row := fnCutsUptoRow, standIns := [], harness := (true, "e8f2c9c1c067cab3a1d8eff19a6c3e6d07b826a5f2bff9ba33b71da93e02fabe"), looks := false }, kinds := [], alts := [], laidByText := true, laidKinds := [.data, .data, .data], laidTests := true, laidLooks := .later }
def FnCutsUptoCardSaid : Prop := Claim7.holds Tryz.pinned (.plain (OpenSpec.upto fnCutsSpec)) fnCutsUptoCard

/-- THE SECOND FORM's CARD OF 'laws.FnExactCutTree'. -/
def fnExactCutTreeUptoCard : Claim7 := { stood := { row := fnExactCutTreeUptoRow, standIns := [], harness := (true, "e8f2c9c1c067cab3a1d8eff19a6c3e6d07b826a5f2bff9ba33b71da93e02fabe"), looks := false }, kinds := [], alts := [], laidByText := true, laidKinds := [.data, .data, .data], laidTests := true, laidLooks := .later }
def FnExactCutTreeUptoCardSaid : Prop := Claim7.holds Tryz.pinned (.plain (OpenSpec.upto fnExactCutTreeSpec)) fnExactCutTreeUptoCard

/-- THE SECOND FORM's CARD OF 'laws.FnExactNewWatcher'. -/
def fnExactNewWatcherUptoCard : Claim7 := { stood := { row := fnExactNewWatcherUptoRow, standIns := [], harness := (true, "e8f2c9c1c067cab3a1d8eff19a6c3e6d07b826a5f2bff9ba33b71da93e02fabe"), looks := false }, kinds := [], alts := [], laidByText := true, laidKinds := [.data, .data, .data], laidTests := true, laidLooks := .later }
def FnExactNewWatcherUptoCardSaid : Prop := Claim7.holds Tryz.pinned (.plain (OpenSpec.upto fnExactNewWatcherSpec)) fnExactNewWatcherUptoCard

/-- THE SECOND FORM's CARD OF 'laws.FnExactIsCampaign'. -/
def fnExactIsCampaignUptoCard : Claim7 := { stood := { row := fnExactIsCampaignUptoRow, standIns := [], harness := (true, "e8f2c9c1c067cab3a1d8eff19a6c3e6d07b826a5f2bff9ba33b71da93e02fabe"), looks := false }, kinds := [], alts := [], laidByText := true, laidKinds := [.data, .data, .data], laidTests := true, laidLooks := .later }
def FnExactIsCampaignUptoCardSaid : Prop := Claim7.holds Tryz.pinned (.plain (OpenSpec.upto fnExactIsCampaignSpec)) fnExactIsCampaignUptoCard

/-- THE SECOND FORM's CARD OF 'laws.FnExactKnownBy'. -/
def fnExactKnownByUptoCard : Claim7 := { stood := { row := fnExactKnownByUptoRow, standIns := [], harness := (true, "e8f2c9c1c067cab3a1d8eff19a6c3e6d07b826a5f2bff9ba33b71da93e02fabe"), looks := false }, kinds := [], alts := [], laidByText := true, laidKinds := [.data, .data, .data], laidTests := true, laidLooks := .later }
def FnExactKnownByUptoCardSaid : Prop := Claim7.holds Tryz.pinned (.plain (OpenSpec.upto fnExactKnownBySpec)) fnExactKnownByUptoCard

/-- THE SECOND FORM's CARD OF 'laws.FnExactTellWatcher'. -/
def fnExactTellWatcherUptoCard : Claim7 := { stood := { row := fnExactTellWatcherUptoRow, standIns := [], harness := (true, "e8f2c9c1c067cab3a1d8eff19a6c3e6d07b826a5f2bff9ba33b71da93e02fabe"), looks := false }, kinds := [], alts := [], laidByText := true, laidKinds := [.data, .data, .data], laidTests := true, laidLooks := .later }
def FnExactTellWatcherUptoCardSaid : Prop := Claim7.holds Tryz.pinned (.plain (OpenSpec.upto fnExactTellWatcherSpec)) fnExactTellWatcherUptoCard
end Rows
end Go.Proofs.YtmdbmmmlccipdaaGreatDoor
