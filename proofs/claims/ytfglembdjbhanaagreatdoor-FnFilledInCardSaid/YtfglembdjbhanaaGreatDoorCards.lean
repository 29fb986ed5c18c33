/-
  DERIVED. GIVEN WITH THE SEED: THE CARDS: each row of YtfglembdjbhanaaGreatDoorRows.lean that lists a variable, with what it lists TIED to the program's text (the seventh form; the later family's looks); each row that meets fmt, with fmt's text TOLD by the authors' own Lean function (tested against real Go, not proved from fmt's source: count such statements apart). THE CARD IS WHAT COUNTS. Prove the row's statement (the work); the ties are given (YtfglembdjbhanaaGreatDoorTie.lean); close each card by the builder's one call (the guide's Derived/Test/ToyasCard.lean, 'card_holds'). Laid BY PROGRAM, IN A SANDBOX (cutbox-door.mjs). By AI agents, Wed Nov 11 2026. No macro, syntax, notation, axiom, sorry.
-/
import Derived.Test.YtfglembdjbhanaaGreatDoorRows
import GoSem.ClaimSeven
namespace Go.Proofs.YtfglembdjbhanaaGreatDoor
namespace Rows

/-- THE TIED CARD OF 'laws.FnFilledIn'. -/
def fnFilledInCard : Claim7 := { stood := { row := fnFilledInRow, standIns := [], harness := (true, "4552585fc1ac03942e1d4f7e92e53a86c009e89673662f046fa638de272b212f"), looks := false }, kinds := [], alts := [], laidByText := true, laidKinds := [.data, .data, .data], laidTests := true, laidLooks := .later }
def FnFilledInCardSaid : Prop := Claim7.holds Tryz.pinned (.plain (OpenSpec.ofChange fnFilledInSpec)) fnFilledInCard

/-- THE TIED CARD OF 'laws.FnExactFillTemplate'. -/
def fnExactFillTemplateCard : Claim7 := { stood := { row := fnExactFillTemplateRow, standIns := [], harness := (true, "4552585fc1ac03942e1d4f7e92e53a86c009e89673662f046fa638de272b212f"), looks := false }, kinds := [], alts := [], laidByText := true, laidKinds := [.data, .data, .data], laidTests := true, laidLooks := .later }
def FnExactFillTemplateCardSaid : Prop := Claim7.holds Tryz.pinned (.plain (OpenSpec.ofChange fnExactFillTemplateSpec)) fnExactFillTemplateCard

/-- THE SECOND FORM's CARD OF 'laws.FnFilledIn'. -/
def fnFilledInUptoCard : Claim7 := { stood := { row := fnFilledInUptoRow, standIns := [], harness := (true, "4552585fc1ac03942e1d4f7e92e53a86c009e89673662f046fa638de272b212f"), looks := false }, kinds := [], alts := [], laidByText := true, laidKinds := [.data, .data, .data], laidTests := true, laidLooks := .later }
def FnFilledInUptoCardSaid : Prop := Claim7.holds Tryz.pinned (.plain (OpenSpec.upto fnFilledInSpec)) fnFilledInUptoCard

/-- THE SECOND FORM's CARD OF 'laws.FnExactFillTemplate'. -/
def fnExactFillTemplateUptoCard : Claim7 := { stood := { row := fnExactFillTemplateUptoRow, standIns := [], harness := (true, "4552585fc1ac03942e1d4f7e92e53a86c009e89673662f046fa638de272b212f"), looks := false }, kinds := [], alts := [], laidByText := true, laidKinds := [.data, .data, .data], laidTests := true, laidLooks := .later }
def FnExactFillTemplateUptoCardSaid : Prop := Claim7.holds Tryz.pinned (.plain (OpenSpec.upto fnExactFillTemplateSpec)) fnExactFillTemplateUptoCard
end Rows
end Go.Proofs.YtfglembdjbhanaaGreatDoor
