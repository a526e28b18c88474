/-
  DERIVED. GIVEN WITH THE SEED: THE CARDS: each row of YtfihnnebffkbfaaDoorRows.lean that lists a variable, with what it lists TIED to the program's text (the seventh form; the later family's looks); each row that meets fmt, with fmt's text TOLD by the authors' own Lean function (tested against real Go, not proved from fmt's source: count such statements apart). THE CARD IS WHAT COUNTS. Prove the row's statement (the work); the ties are given (YtfihnnebffkbfaaDoorTie.lean); close each card by the builder's one call (the guide's Derived/Test/ToyasCard.lean, 'card_holds'). Laid BY PROGRAM, IN A SANDBOX (cutbox-door.mjs). By AI agents, Wed Nov 11 2026. No macro, syntax, notation, axiom, sorry.
-/
import Derived.Test.YtfihnnebffkbfaaDoorRows
import GoSem.ClaimSeven
namespace Go.Proofs.YtfihnnebffkbfaaDoor
namespace Rows

/-- THE TIED CARD OF 'gatepostlaw11.VaryParts'. -/
def varyPartsCard : Claim7 := { stood := { row := varyPartsRow, standIns := [], harness := (true, "05c65a4082740c95f1488f2a4afb43bfa896a1116e7a782ac5de610544fc4b9e"), looks := false }, kinds := [], alts := [], laidByText := true, laidKinds := [.data, .data, .data], laidTests := true, laidLooks := .later }
def VaryPartsCardSaid : Prop := Claim7.holds Tryd.pinned (.plain (OpenSpec.ofChange varyPartsSpec)) varyPartsCard

/-- THE TIED CARD OF 'gatepostlaw11.VaryOrder'. -/
def varyOrderCard : Claim7 := { stood := { row := varyOrderRow, standIns := [], harness := (true, "05c65a4082740c95f1488f2a4afb43bfa896a1116e7a782ac5de610544fc4b9e"), looks := false }, kinds := [], alts := [], laidByText := true, laidKinds := [.data, .data, .data, .data, .pinned], laidTests := true, laidLooks := .later }
def VaryOrderCardSaid : Prop := Claim7.holds Tryd.pinned (.plain (OpenSpec.ofChange varyOrderSpec)) varyOrderCard

/-- THE TIED CARD OF 'gatepostlaw11.VaryTells'. -/
def varyTellsCard : Claim7 := { stood := { row := varyTellsRow, standIns := [], harness := (true, "05c65a4082740c95f1488f2a4afb43bfa896a1116e7a782ac5de610544fc4b9e"), looks := false }, kinds := [], alts := [], laidByText := true, laidKinds := [.data, .data, .data, .data, .pinned], laidTests := true, laidLooks := .later }
def VaryTellsCardSaid : Prop := Claim7.holds Tryd.pinned (.plain (OpenSpec.ofChange varyTellsSpec)) varyTellsCard

/-- THE SECOND FORM's CARD OF 'gatepostlaw11.VaryParts'. -/
def varyPartsUptoCard : Claim7 := { stood := { row := varyPartsUptoRow, standIns := [], harness := (true, "05c65a4082740c95f1488f2a4afb43bfa896a1116e7a782ac5de610544fc4b9e"), looks := false }, kinds := [], alts := [], laidByText := true, laidKinds := [.data, .data, .data], laidTests := true, laidLooks := .later }
def VaryPartsUptoCardSaid : Prop := Claim7.holds Tryd.pinned (.plain (OpenSpec.upto varyPartsSpec)) varyPartsUptoCard

/-- THE SECOND FORM's CARD OF 'gatepostlaw11.VaryOrder'. -/
def varyOrderUptoCard : Claim7 := { stood := { row := varyOrderUptoRow, standIns := [], harness := (true, "05c65a4082740c95f1488f2a4afb43bfa896a1116e7a782ac5de610544fc4b9e"), looks := false }, kinds := [], alts := [], laidByText := true, laidKinds := [.data, .data, .data, .data, .pinned], laidTests := true, laidLooks := .later }
def VaryOrderUptoCardSaid : Prop := Claim7.holds Tryd.pinned (.plain (OpenSpec.upto varyOrderSpec)) varyOrderUptoCard

/-- THE SECOND FORM's CARD OF 'gatepostlaw11.VaryTells'. -/
def varyTellsUptoCard : Claim7 := { stood := { row := varyTellsUptoRow, standIns := [], harness := (true, "05c65a4082740c95f1488f2a4afb43bfa896a1116e7a782ac5de610544fc4b9e"), looks := false }, kinds := [], alts := [], laidByText := true, laidKinds := [.data, .data, .data, .data, .pinned], laidTests := true, laidLooks := .later }
def VaryTellsUptoCardSaid : Prop := Claim7.holds Tryd.pinned (.plain (OpenSpec.upto varyTellsSpec)) varyTellsUptoCard
end Rows
end Go.Proofs.YtfihnnebffkbfaaDoor
