/-
  DERIVED. GIVEN WITH THE SEED: THE CARDS: each row of YtfnepflonoadkaaDoorRows.lean that lists a variable, with what it lists TIED to the program's text (the seventh form; the later family's looks); each row that meets fmt, with fmt's text TOLD by the authors' own Lean function (tested against real Go, not proved from fmt's source: count such statements apart). THE CARD IS WHAT COUNTS. Prove the row's statement (the work); the ties are given (YtfnepflonoadkaaDoorTie.lean); close each card by the builder's one call (the guide's Derived/Test/ToyasCard.lean, 'card_holds'). Laid BY PROGRAM, IN A SANDBOX (cutbox-door.mjs). By AI agents, Wed Nov 11 2026. No macro, syntax, notation, axiom, sorry.
-/
import Derived.Test.YtfnepflonoadkaaDoorRows
import GoSem.ClaimSeven
namespace Go.Proofs.YtfnepflonoadkaaDoor
namespace Rows

/-- THE TIED CARD OF 'gatepostlaw04.FieldParses'. -/
def fieldParsesCard : Claim7 := { stood := { row := fieldParsesRow, standIns := [], harness := (true, "aa0eb5b6305e2c2e2d96adf5311dd7799ce429c4fb5bb2e9c21273e8819a9301"), looks := false }, kinds := [], alts := [], laidByText := true, laidKinds := [.data, .pinned], laidTests := true, laidLooks := .later }
def FieldParsesCardSaid : Prop := Claim7.holds Tryd.pinned (.plain (OpenSpec.ofChange fieldParsesSpec)) fieldParsesCard

/-- THE TIED CARD OF 'gatepostlaw04.FieldBack'. -/
def fieldBackCard : Claim7 := { stood := { row := fieldBackRow, standIns := [], harness := (true, "aa0eb5b6305e2c2e2d96adf5311dd7799ce429c4fb5bb2e9c21273e8819a9301"), looks := false }, kinds := [], alts := [], laidByText := true, laidKinds := [.data, .pinned], laidTests := true, laidLooks := .later }
def FieldBackCardSaid : Prop := Claim7.holds Tryd.pinned (.plain (OpenSpec.ofChange fieldBackSpec)) fieldBackCard

/-- THE TIED CARD OF 'gatepostlaw04.FieldNames'. -/
def fieldNamesCard : Claim7 := { stood := { row := fieldNamesRow, standIns := [], harness := (true, "aa0eb5b6305e2c2e2d96adf5311dd7799ce429c4fb5bb2e9c21273e8819a9301"), looks := false }, kinds := [], alts := [], laidByText := true, laidKinds := [.data, .pinned], laidTests := true, laidLooks := .later }
def FieldNamesCardSaid : Prop := Claim7.holds Tryd.pinned (.plain (OpenSpec.ofChange fieldNamesSpec)) fieldNamesCard

/-- THE TIED CARD OF 'gatepostlaw04.FieldStrips'. -/
def fieldStripsCard : Claim7 := { stood := { row := fieldStripsRow, standIns := [], harness := (true, "aa0eb5b6305e2c2e2d96adf5311dd7799ce429c4fb5bb2e9c21273e8819a9301"), looks := false }, kinds := [], alts := [], laidByText := true, laidKinds := [.data, .pinned], laidTests := true, laidLooks := .later }
def FieldStripsCardSaid : Prop := Claim7.holds Tryd.pinned (.plain (OpenSpec.ofChange fieldStripsSpec)) fieldStripsCard

/-- THE TIED CARD OF 'gatepostlaw04.FieldGets'. -/
def fieldGetsCard : Claim7 := { stood := { row := fieldGetsRow, standIns := [], harness := (true, "aa0eb5b6305e2c2e2d96adf5311dd7799ce429c4fb5bb2e9c21273e8819a9301"), looks := false }, kinds := [], alts := [], laidByText := true, laidKinds := [.data, .pinned], laidTests := true, laidLooks := .later }
def FieldGetsCardSaid : Prop := Claim7.holds Tryd.pinned (.plain (OpenSpec.ofChange fieldGetsSpec)) fieldGetsCard

/-- THE SECOND FORM's CARD OF 'gatepostlaw04.FieldParses'. -/
def fieldParsesUptoCard : Claim7 := { stood := { row := fieldParsesUptoRow, standIns := [], harness := (true, "aa0eb5b6305e2c2e2d96adf5311dd7799ce429c4fb5bb2e9c21273e8819a9301"), looks := false }, kinds := [], alts := [], laidByText := true, laidKinds := [.data, .pinned], laidTests := true, laidLooks := .later }
def FieldParsesUptoCardSaid : Prop := Claim7.holds Tryd.pinned (.plain (OpenSpec.upto fieldParsesSpec)) fieldParsesUptoCard

/-- THE SECOND FORM's CARD OF 'gatepostlaw04.FieldBack'. -/
def fieldBackUptoCard : Claim7 := { stood := { row := fieldBackUptoRow, standIns := [], harness := (true, "aa0eb5b6305e2c2e2d96adf5311dd7799ce429c4fb5bb2e9c21273e8819a9301"), looks := false }, kinds := [], alts := [], laidByText := true, laidKinds := [.data, .pinned], laidTests := true, laidLooks := .later }
def FieldBackUptoCardSaid : Prop := Claim7.holds Tryd.pinned (.plain (OpenSpec.upto fieldBackSpec)) fieldBackUptoCard

/-- THE SECOND FORM's CARD OF 'gatepostlaw04.FieldNames'. -/
def fieldNamesUptoCard : Claim7 := { stood := { row := fieldNamesUptoRow, standIns := [], harness := (true, "aa0eb5b6305e2c2e2d96adf5311dd7799ce429c4fb5bb2e9c21273e8819a9301"), looks := false }, kinds := [], alts := [], laidByText := true, laidKinds := [.data, .pinned], laidTests := true, laidLooks := .later }
def FieldNamesUptoCardSaid : Prop := Claim7.holds Tryd.pinned (.plain (OpenSpec.upto fieldNamesSpec)) fieldNamesUptoCard

/-- THE SECOND FORM's CARD OF 'gatepostlaw04.FieldStrips'. -/
def fieldStripsUptoCard : Claim7 := { stood := { row := fieldStripsUptoRow, standIns := [], harness := (true, "aa0eb5b6305e2c2e2d96adf5311dd7799ce429c4fb5bb2e9c21273e8819a9301"), looks := false }, kinds := [], alts := [], laidByText := true, laidKinds := [.data, .pinned], laidTests := true, laidLooks := .later }
def FieldStripsUptoCardSaid : Prop := Claim7.holds Tryd.pinned (.plain (OpenSpec.upto fieldStripsSpec)) fieldStripsUptoCard

/-- THE SECOND FORM's CARD OF 'gatepostlaw04.FieldGets'. -/
def fieldGetsUptoCard : Claim7 := { stood := { row := fieldGetsUptoRow, standIns := [], harness := (true, "aa0eb5b6305e2c2e2d96adf5311dd7799ce429c4fb5bb2e9c21273e8819a9301"), looks := false }, kinds := [], alts := [], laidByText := true, laidKinds := [.data, .pinned], laidTests := true, laidLooks := .later }
def FieldGetsUptoCardSaid : Prop := Claim7.holds Tryd.pinned (.plain (OpenSpec.upto fieldGetsSpec)) fieldGetsUptoCard
end Rows
end Go.Proofs.YtfnepflonoadkaaDoor
