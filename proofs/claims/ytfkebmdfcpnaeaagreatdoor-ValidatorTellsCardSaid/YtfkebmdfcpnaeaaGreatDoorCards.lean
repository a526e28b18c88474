/-
  DERIVED. GIVEN WITH THE SEED: THE CARDS: each row of YtfkebmdfcpnaeaaGreatDoorRows.lean that lists a variable, with what it lists TIED to the program's text (the seventh form; the later family's looks); each row that meets fmt, with fmt's text TOLD by the authors' own Lean function (tested against real Go, not proved from fmt's source: count such statements apart). THE CARD IS WHAT COUNTS. Prove the row's statement (the work); the ties are given (YtfkebmdfcpnaeaaGreatDoorTie.lean); close each card by the builder's one call (the guide's Derived/Test/ToyasCard.lean, 'card_holds'). Laid BY PROGRAM, IN A SANDBOX (cutbox-door.mjs). By AI agents, Wed Nov 11 2026. No macro, syntax, notation, axiom, sorry.
-/
import Derived.Test.YtfkebmdfcpnaeaaGreatDoorRows
import GoSem.ClaimSeven
namespace Go.Proofs.YtfkebmdfcpnaeaaGreatDoor
namespace Rows

/-- THE TIED CARD OF 'gatepostlaw12.ValidatorTells'. -/
def validatorTellsCard : Claim7 := { stood := { row := validatorTellsRow, standIns := [], harness := (true, "8de0c1db09830f5f4613dc61081a5549f6c390284c41ab481a60d9c45c0da6dc"), looks := false }, kinds := [], alts := [], laidByText := true, laidKinds := [.data, .data, .data, .data, .pinned], laidTests := true, laidLooks := .later }
def ValidatorTellsCardSaid : Prop := Claim7.holds Tryz.pinned (.plain (OpenSpec.ofChange validatorTellsSpec)) validatorTellsCard

/-- THE SECOND FORM's CARD OF 'gatepostlaw12.ValidatorTells'. -/
def validatorTellsUptoCard : Claim7 := { stood := { row := validatorTellsUptoRow, standIns := [], harness := (true, "8de0c1db09830f5f4613dc61081a5549f6c390284c41ab481a60d9c45c0da6dc"), looks := false }, kinds := [], alts := [], laidByText := true, laidKinds := [.data, .data, .data, .data, .pinned], laidTests := true, laidLooks := .later }
def ValidatorTellsUptoCardSaid : Prop := Claim7.holds Tryz.pinned (.plain (OpenSpec.upto validatorTellsSpec)) validatorTellsUptoCard
end Rows
end Go.Proofs.YtfkebmdfcpnaeaaGreatDoor
