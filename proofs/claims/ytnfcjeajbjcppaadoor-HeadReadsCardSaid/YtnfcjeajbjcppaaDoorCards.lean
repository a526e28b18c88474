/-
  DERIVED. GIVEN WITH THE SEED: THE CARDS: each row of YtnfcjeajbjcppaaDoorRows.lean that lists a variable, with what it lists TIED to the program's text (the seventh form; the later family's looks); each row that meets fmt, with fmt's text TOLD by the authors' own Lean function (tested against real Go, not proved from fmt's source: count such statements apart). THE CARD IS WHAT COUNTS. Prove the row's statement (the work); the ties are given (YtnfcjeajbjcppaaDoorTie.lean); close each card by the builder's one call (the guide's Derived/Test/ToyasCard.lean, 'card_holds'). Laid BY PROGRAM, IN A SANDBOX (cutbox-door.mjs). By AI agents, Wed Nov 11 2026. No macro, syntax, notation, axiom, sorry.
-/
import Derived.Test.YtnfcjeajbjcppaaDoorRows
import GoSem.ClaimSeven
namespace Go.Proofs.YtnfcjeajbjcppaaDoor
namespace Rows

/-- THE TIED CARD OF 'gatepostlaw05.HeadNobody'. -/
def headNobodyCard : Claim7 := { stood := { row := headNobodyRow, standIns := [], harness := (true, "ec257f660871ba717d214e75e6daddb554b292c1b47c1e7e2f248a387e30e10f"), looks := false }, kinds := [], alts := [], laidByText := true, laidKinds := [.data, .pinned], laidTests := true, laidLooks := .later }
def HeadNobodyCardSaid : Prop := Claim7.holds Tryd.pinned (.plain (OpenSpec.ofChange headNobodySpec)) headNobodyCard

/-- THE TIED CARD OF 'gatepostlaw05.HeadMany'. -/
def headManyCard : Claim7 := { stood := { row := headManyRow, standIns := [], harness := (true, "ec257f660871ba717d214e75e6daddb554b292c1b47c1e7e2f248a387e30e10f"), looks := false }, kinds := [], alts := [], laidByText := true, laidKinds := [.data, .pinned], laidTests := true, laidLooks := .later }
def HeadManyCardSaid : Prop := Claim7.holds Tryd.pinned (.plain (OpenSpec.ofChange headManySpec)) headManyCard

/-- THE TIED CARD OF 'gatepostlaw05.HeadFields'. -/
def headFieldsCard : Claim7 := { stood := { row := headFieldsRow, standIns := [], harness := (true, "ec257f660871ba717d214e75e6daddb554b292c1b47c1e7e2f248a387e30e10f"), looks := false }, kinds := [], alts := [], laidByText := true, laidKinds := [.data, .pinned], laidTests := true, laidLooks := .later }
def HeadFieldsCardSaid : Prop := Claim7.holds Tryd.pinned (.plain (OpenSpec.ofChange headFieldsSpec)) headFieldsCard

/-- THE TIED CARD OF 'gatepostlaw05.HeadReads'. -/
def headReadsCard : Claim7 := { stood := { row := headReadsRow, standIns := [], harness := (true, "ec257f660871ba717d214e75e6daddb554b292c1b47c1e7e2f248a387e30e10f"), looks := false }, kinds := [], alts := [], laidByText := true, laidKinds := [.data, .pinned], laidTests := true, laidLooks := .later }
def HeadReadsCardSaid : Prop := Claim7.holds Tryd.pinned (.plain (OpenSpec.ofChange headReadsSpec)) headReadsCard

/-- THE TIED CARD OF 'gatepostlaw05.HeadCuts'. -/
def headCutsCard : Claim7 := { stood := { row := headCutsRow, standIns := [], harness := (true, "ec257f660871ba717d214e75e6daddb554b292c1b47c1e7e2f248a387e30e10f"), looks := false }, kinds := [], alts := [], laidByText := true, laidKinds := [.data, .pinned], laidTests := true, laidLooks := .later }
def HeadCutsCardSaid : Prop := Claim7.holds Tryd.pinned (.plain (OpenSpec.ofChange headCutsSpec)) headCutsCard

/-- THE SECOND FORM's CARD OF 'gatepostlaw05.HeadNobody'. -/
def headNobodyUptoCard : Claim7 := { stood := { row := headNobodyUptoRow, standIns := [], harness := (true, "ec257f660871ba717d214e75e6daddb554b292c1b47c1e7e2f248a387e30e10f"), looks := false }, kinds := [], alts := [], laidByText := true, laidKinds := [.data, .pinned], laidTests := true, laidLooks := .later }
def HeadNobodyUptoCardSaid : Prop := Claim7.holds Tryd.pinned (.plain (OpenSpec.upto headNobodySpec)) headNobodyUptoCard

/-- THE SECOND FORM's CARD OF 'gatepostlaw05.HeadMany'. -/
def headManyUptoCard : Claim7 := { stood := { row := headManyUptoRow, standIns := [], harness := (true, "ec257f660871ba717d214e75e6daddb554b292c1b47c1e7e2f248a387e30e10f"), looks := false }, kinds := [], alts := [], laidByText := true, laidKinds := [.data, .pinned], laidTests := true, laidLooks := .later }
def HeadManyUptoCardSaid : Prop := Claim7.holds Tryd.pinned (.plain (OpenSpec.upto headManySpec)) headManyUptoCard

/-- THE SECOND FORM's CARD OF 'gatepostlaw05.HeadFields'. -/
def headFieldsUptoCard : Claim7 := { stood := { row := headFieldsUptoRow, standIns := [], harness := (true, "ec257f660871ba717d214e75e6daddb554b292c1b47c1e7e2f248a387e30e10f"), looks := false }, kinds := [], alts := [], laidByText := true, laidKinds := [.data, .pinned], laidTests := true, laidLooks := .later }
def HeadFieldsUptoCardSaid : Prop := Claim7.holds Tryd.pinned (.plain (OpenSpec.upto headFieldsSpec)) headFieldsUptoCard

/-- THE SECOND FORM's CARD OF 'gatepostlaw05.HeadReads'. -/
def headReadsUptoCard : Claim7 := { stood := { row := headReadsUptoRow, standIns := [], harness := (true, "ec257f660871ba717d214e75e6daddb554b292c1b47c1e7e2f248a387e30e10f"), looks := false }, kinds := [], alts := [], laidByText := true, laidKinds := [.data, .pinned], laidTests := true, laidLooks := .later }
def HeadReadsUptoCardSaid : Prop := Claim7.holds Tryd.pinned (.plain (OpenSpec.upto headReadsSpec)) headReadsUptoCard

/-- THE SECOND FORM's CARD OF 'gatepostlaw05.HeadCuts'. -/
def headCutsUptoCard : Claim7 := { stood := { row := headCutsUptoRow, standIns := [], harness := (true, "ec257f660871ba717d214e75e6daddb554b292c1b47c1e7e2f248a387e30e10f"), looks := false }, kinds := [], alts := [], laidByText := true, laidKinds := [.data, .pinned], laidTests := true, laidLooks := .later }
def HeadCutsUptoCardSaid : Prop := Claim7.holds Tryd.pinned (.plain (OpenSpec.upto headCutsSpec)) headCutsUptoCard
end Rows
end Go.Proofs.YtnfcjeajbjcppaaDoor
