/-
  DERIVED. GIVEN WITH THE SEED: THE CARDS: each row of YtgplldjcopfjpaaDoorRows.lean that lists a variable, with what it lists TIED to the program's text (the seventh form; the later family's looks); each row that meets fmt, with fmt's text TOLD by the authors' own Lean function (tested against real Go, not proved from fmt's source: count such statements apart). THE CARD IS WHAT COUNTS. Prove the row's statement (the work); the ties are given (YtgplldjcopfjpaaDoorTie.lean); close each card by the builder's one call (the guide's Derived/Test/ToyasCard.lean, 'card_holds'). Laid BY PROGRAM, IN A SANDBOX (cutbox-door.mjs). By AI agents, Wed Nov 11 2026. No macro, syntax, notation, axiom, sorry.
-/
import Derived.Test.YtgplldjcopfjpaaDoorRows
import GoSem.ClaimSeven
namespace Go.Proofs.YtgplldjcopfjpaaDoor
namespace Rows

/-- THE TIED CARD OF 'gatepostlaw08.ControlJoins'. -/
def controlJoinsCard : Claim7 := { stood := { row := controlJoinsRow, standIns := [], harness := (true, "15ada22a43bc381e81f473fc3748095232f2397d34b34da2bd8c5b94276ec778"), looks := false }, kinds := [], alts := [], laidByText := true, laidKinds := [.data, .pinned], laidTests := true, laidLooks := .later }
def ControlJoinsCardSaid : Prop := Claim7.holds Tryd.pinned (.plain (OpenSpec.ofChange controlJoinsSpec)) controlJoinsCard

/-- THE TIED CARD OF 'gatepostlaw08.ControlNumbers'. -/
def controlNumbersCard : Claim7 := { stood := { row := controlNumbersRow, standIns := [], harness := (true, "15ada22a43bc381e81f473fc3748095232f2397d34b34da2bd8c5b94276ec778"), looks := false }, kinds := [], alts := [], laidByText := true, laidKinds := [.data, .pinned], laidTests := true, laidLooks := .later }
def ControlNumbersCardSaid : Prop := Claim7.holds Tryd.pinned (.plain (OpenSpec.ofChange controlNumbersSpec)) controlNumbersCard

/-- THE TIED CARD OF 'gatepostlaw08.ControlTells'. -/
def controlTellsCard : Claim7 := { stood := { row := controlTellsRow, standIns := [], harness := (true, "15ada22a43bc381e81f473fc3748095232f2397d34b34da2bd8c5b94276ec778"), looks := false }, kinds := [], alts := [], laidByText := true, laidKinds := [.data, .pinned], laidTests := true, laidLooks := .later }
def ControlTellsCardSaid : Prop := Claim7.holds Tryd.pinned (.plain (OpenSpec.ofChange controlTellsSpec)) controlTellsCard

/-- THE SECOND FORM's CARD OF 'gatepostlaw08.ControlJoins'. -/
def controlJoinsUptoCard : Claim7 := { stood := { row := controlJoinsUptoRow, standIns := [], harness := (true, "15ada22a43bc381e81f473fc3748095232f2397d34b34da2bd8c5b94276ec778"), looks := false }, kinds := [], alts := [], laidByText := true, laidKinds := [.data, .pinned], laidTests := true, laidLooks := .later }
def ControlJoinsUptoCardSaid : Prop := Claim7.holds Tryd.pinned (.plain (OpenSpec.upto controlJoinsSpec)) controlJoinsUptoCard

/-- THE SECOND FORM's CARD OF 'gatepostlaw08.ControlNumbers'. -/
def controlNumbersUptoCard : Claim7 := { stood := { row := controlNumbersUptoRow, standIns := [], harness := (true, "15ada22a43bc381e81f473fc3748095232f2397d34b34da2bd8c5b94276ec778"), looks := false }, kinds := [], alts := [], laidByText := true, laidKinds := [.data, .pinned], laidTests := true, laidLooks := .later }
def ControlNumbersUptoCardSaid : Prop := Claim7.holds Tryd.pinned (.plain (OpenSpec.upto controlNumbersSpec)) controlNumbersUptoCard

/-- THE SECOND FORM's CARD OF 'gatepostlaw08.ControlTells'. -/
def controlTellsUptoCard : Claim7 := { stood := { row := controlTellsUptoRow, standIns := [], harness := (true, "15ada22a43bc381e81f473fc3748095232f2397d34b34da2bd8c5b94276ec778"), looks := false }, kinds := [], alts := [], laidByText := true, laidKinds := [.data, .pinned], laidTests := true, laidLooks := .later }
def ControlTellsUptoCardSaid : Prop := Claim7.holds Tryd.pinned (.plain (OpenSpec.upto controlTellsSpec)) controlTellsUptoCard
end Rows
end Go.Proofs.YtgplldjcopfjpaaDoor
