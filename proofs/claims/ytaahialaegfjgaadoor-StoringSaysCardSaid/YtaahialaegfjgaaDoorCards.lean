/-
  DERIVED. GIVEN WITH THE SEED: THE CARDS: each row of YtaahialaegfjgaaDoorRows.lean that lists a variable, with what it lists TIED to the program's text (the seventh form; the later family's looks); each row that meets fmt, with fmt's text TOLD by the authors' own Lean function (tested against real Go, not proved from fmt's source: count such statements apart). THE CARD IS WHAT COUNTS. Prove the row's statement (the work); the ties are given (YtaahialaegfjgaaDoorTie.lean); close each card by the builder's one call (the guide's Derived/Test/ToyasCard.lean, 'card_holds'). Laid BY PROGRAM, IN A SANDBOX (cutbox-door.mjs). By AI agents, Wed Nov 11 2026. No macro, syntax, notation, axiom, sorry.
-/
import Derived.Test.YtaahialaegfjgaaDoorRows
import GoSem.ClaimSeven
namespace Go.Proofs.YtaahialaegfjgaaDoor
namespace Rows

/-- THE TIED CARD OF 'gatepostlaw10.StoringSays'. -/
def storingSaysCard : Claim7 := { stood := { row := storingSaysRow, standIns := [], harness := (true, "87747251777342d83e880dc32a8c7d6a42cf11b990f6aaec8a32247bd3559888"), looks := false }, kinds := [], alts := [], laidByText := true, laidKinds := [.data, .pinned], laidTests := true, laidLooks := .later }
def StoringSaysCardSaid : Prop := Claim7.holds Tryd.pinned (.plain (OpenSpec.ofChange storingSaysSpec)) storingSaysCard

/-- THE TIED CARD OF 'gatepostlaw10.StoringAuth'. -/
def storingAuthCard : Claim7 := { stood := { row := storingAuthRow, standIns := [], harness := (true, "87747251777342d83e880dc32a8c7d6a42cf11b990f6aaec8a32247bd3559888"), looks := false }, kinds := [], alts := [], laidByText := true, laidKinds := [.data, .pinned], laidTests := true, laidLooks := .later }
def StoringAuthCardSaid : Prop := Claim7.holds Tryd.pinned (.plain (OpenSpec.ofChange storingAuthSpec)) storingAuthCard

/-- THE SECOND FORM's CARD OF 'gatepostlaw10.StoringSays'. -/
def storingSaysUptoCard : Claim7 := { stood := { row := storingSaysUptoRow, standIns := [], harness := (true, "87747251777342d83e880dc32a8c7d6a42cf11b990f6aaec8a32247bd3559888"), looks := false }, kinds := [], alts := [], laidByText := true, laidKinds := [.data, .pinned], laidTests := true, laidLooks := .later }
def StoringSaysUptoCardSaid : Prop := Claim7.holds Tryd.pinned (.plain (OpenSpec.upto storingSaysSpec)) storingSaysUptoCard

/-- THE SECOND FORM's CARD OF 'gatepostlaw10.StoringAuth'. -/
def storingAuthUptoCard : Claim7 := { stood := { row := storingAuthUptoRow, standIns := [], harness := (true, "87747251777342d83e880dc32a8c7d6a42cf11b990f6aaec8a32247bd3559888"), looks := false }, kinds := [], alts := [], laidByText := true, laidKinds := [.data, .pinned], laidTests := true, laidLooks := .later }
def StoringAuthUptoCardSaid : Prop := Claim7.holds Tryd.pinned (.plain (OpenSpec.upto storingAuthSpec)) storingAuthUptoCard
end Rows
end Go.Proofs.YtaahialaegfjgaaDoor
