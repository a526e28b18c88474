/-
  DERIVED. GIVEN WITH THE SEED: THE CARDS: each row of YtaahialaegfjgaaGreatDoorRows.lean that lists a variable, with what it lists TIED to the program's text (the seventh form; the later family's looks); each row that meets fmt, with fmt's text TOLD by the authors' own Lean function (tested against real Go, not proved from fmt's source: count such statements apart). THE CARD IS WHAT COUNTS. Prove the row's statement (the work); the ties are given (YtaahialaegfjgaaGreatDoorTie.lean); close each card by the builder's one call (the guide's Derived/Test/ToyasCard.lean, 'card_holds'). Laid BY PROGRAM, IN A SANDBOX (cutbox-door.mjs). By AI agents, Wed Nov 11 2026. No macro, syntax, notation, axiom, sorry.
-/
import Derived.Test.YtaahialaegfjgaaGreatDoorRows
import GoSem.ClaimSeven
namespace Go.Proofs.YtaahialaegfjgaaGreatDoor
namespace Rows

/-- THE TIED CARD OF 'gatepostlaw10.StoringKeeps'. -/
def storingKeepsCard : Claim7 := { stood := { row := storingKeepsRow, standIns := [], harness := (true, "5c69b1f978073804987019e032270955c5384be9ff35a60e338b584292080ceb"), looks := false }, kinds := [], alts := [], laidByText := true, laidKinds := [.data, .pinned], laidTests := true, laidLooks := .later }
def StoringKeepsCardSaid : Prop := Claim7.holds Tryz.pinned (.plain (OpenSpec.ofChange storingKeepsSpec)) storingKeepsCard

/-- THE TIED CARD OF 'gatepostlaw10.StoringTells'. -/
def storingTellsCard : Claim7 := { stood := { row := storingTellsRow, standIns := [], harness := (true, "5c69b1f978073804987019e032270955c5384be9ff35a60e338b584292080ceb"), looks := false }, kinds := [], alts := [], laidByText := true, laidKinds := [.data, .pinned], laidTests := true, laidLooks := .later }
def StoringTellsCardSaid : Prop := Claim7.holds Tryz.pinned (.plain (OpenSpec.ofChange storingTellsSpec)) storingTellsCard

/-- THE SECOND FORM's CARD OF 'gatepostlaw10.StoringKeeps'. -/
def storingKeepsUptoCard : Claim7 := { stood := { row := storingKeepsUptoRow, standIns := [], harness := (true, "5c69b1f978073804987019e032270955c5384be9ff35a60e338b584292080ceb"), looks := false }, kinds := [], alts := [], laidByText := true, laidKinds := [.data, .pinned], laidTests := true, laidLooks := .later }
def StoringKeepsUptoCardSaid : Prop := Claim7.holds Tryz.pinned (.plain (OpenSpec.upto storingKeepsSpec)) storingKeepsUptoCard

/-- THE SECOND FORM's CARD OF 'gatepostlaw10.StoringTells'. -/
def storingTellsUptoCard : Claim7 := { stood := { row := storingTellsUptoRow, standIns := [], harness := (true, "5c69b1f978073804987019e032270955c5384be9ff35a60e338b584292080ceb"), looks := false }, kinds := [], alts := [], laidByText := true, laidKinds := [.data, .pinned], laidTests := true, laidLooks := .later }
def StoringTellsUptoCardSaid : Prop := Claim7.holds Tryz.pinned (.plain (OpenSpec.upto storingTellsSpec)) storingTellsUptoCard
end Rows
end Go.Proofs.YtaahialaegfjgaaGreatDoor
