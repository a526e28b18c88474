/-
  DERIVED. GIVEN WITH THE SEED: THE CARDS: each row of YtlnhcdafagpfhaaDoorRows.lean that lists a variable, with what it lists TIED to the program's text (the seventh form; the later family's looks); each row that meets fmt, with fmt's text TOLD by the authors' own Lean function (tested against real Go, not proved from fmt's source: count such statements apart). THE CARD IS WHAT COUNTS. Prove the row's statement (the work); the ties are given (YtlnhcdafagpfhaaDoorTie.lean); close each card by the builder's one call (the guide's Derived/Test/ToyasCard.lean, 'card_holds'). Laid BY PROGRAM, IN A SANDBOX (cutbox-door.mjs). By AI agents, Wed Nov 11 2026. No macro, syntax, notation, axiom, sorry.
-/
import Derived.Test.YtlnhcdafagpfhaaDoorRows
import GoSem.ClaimSeven
namespace Go.Proofs.YtlnhcdafagpfhaaDoor
namespace Rows

/-- THE TIED CARD OF 'gatepostlaw14.RangesContent'. -/
def rangesContentCard : Claim7 := { stood := { row := rangesContentRow, standIns := [], harness := (true, "68d2979a960a6283726f2e573c6294e9712a2c1622dedbbb14cbce91fb4f2993"), looks := false }, kinds := [], alts := [], laidByText := true, laidKinds := [.data, .data, .data], laidTests := true, laidLooks := .later }
def RangesContentCardSaid : Prop := Claim7.holds Tryd.pinned (.plain (OpenSpec.ofChange rangesContentSpec)) rangesContentCard

/-- THE TIED CARD OF 'gatepostlaw14.RangesBack'. -/
def rangesBackCard : Claim7 := { stood := { row := rangesBackRow, standIns := [], harness := (true, "68d2979a960a6283726f2e573c6294e9712a2c1622dedbbb14cbce91fb4f2993"), looks := false }, kinds := [], alts := [], laidByText := true, laidKinds := [.data, .data, .data], laidTests := true, laidLooks := .later }
def RangesBackCardSaid : Prop := Claim7.holds Tryd.pinned (.plain (OpenSpec.ofChange rangesBackSpec)) rangesBackCard

/-- THE TIED CARD OF 'gatepostlaw14.RangesTells'. -/
def rangesTellsCard : Claim7 := { stood := { row := rangesTellsRow, standIns := [], harness := (true, "68d2979a960a6283726f2e573c6294e9712a2c1622dedbbb14cbce91fb4f2993"), looks := false }, kinds := [], alts := [], laidByText := true, laidKinds := [.data, .pinned], laidTests := true, laidLooks := .later }
def RangesTellsCardSaid : Prop := Claim7.holds Tryd.pinned (.plain (OpenSpec.ofChange rangesTellsSpec)) rangesTellsCard

/-- THE TIED CARD OF 'gatepostlaw14.RangesOne'. -/
def rangesOneCard : Claim7 := { stood := { row := rangesOneRow, standIns := [], harness := (true, "68d2979a960a6283726f2e573c6294e9712a2c1622dedbbb14cbce91fb4f2993"), looks := false }, kinds := [], alts := [], laidByText := true, laidKinds := [.data, .pinned], laidTests := true, laidLooks := .later }
def RangesOneCardSaid : Prop := Claim7.holds Tryd.pinned (.plain (OpenSpec.ofChange rangesOneSpec)) rangesOneCard

/-- THE TIED CARD OF 'gatepostlaw14.RangesMany'. -/
def rangesManyCard : Claim7 := { stood := { row := rangesManyRow, standIns := [], harness := (true, "68d2979a960a6283726f2e573c6294e9712a2c1622dedbbb14cbce91fb4f2993"), looks := false }, kinds := [], alts := [], laidByText := true, laidKinds := [.data, .pinned], laidTests := true, laidLooks := .later }
def RangesManyCardSaid : Prop := Claim7.holds Tryd.pinned (.plain (OpenSpec.ofChange rangesManySpec)) rangesManyCard

/-- THE SECOND FORM's CARD OF 'gatepostlaw14.RangesContent'. -/
def rangesContentUptoCard : Claim7 := { stood := { row := rangesContentUptoRow, standIns := [], harness := (true, "68d2979a960a6283726f2e573c6294e9712a2c1622dedbbb14cbce91fb4f2993"), looks := false }, kinds := [], alts := [], laidByText := true, laidKinds := [.data, .data, .data], laidTests := true, laidLooks := .later }
def RangesContentUptoCardSaid : Prop := Claim7.holds Tryd.pinned (.plain (OpenSpec.upto rangesContentSpec)) rangesContentUptoCard

/-- THE SECOND FORM's CARD OF 'gatepostlaw14.RangesBack'. -/
def rangesBackUptoCard : Claim7 := { stood := { row := rangesBackUptoRow, standIns := [], harness := (true, "68d2979a960a6283726f2e573c6294e9712a2c1622dedbbb14cbce91fb4f2993"), looks := false }, kinds := [], alts := [], laidByText := true, laidKinds := [.data, .data, .data], laidTests := true, laidLooks := .later }
def RangesBackUptoCardSaid : Prop := Claim7.holds Tryd.pinned (.plain (OpenSpec.upto rangesBackSpec)) rangesBackUptoCard

/-- THE SECOND FORM's CARD OF 'gatepostlaw14.RangesTells'. -/
def rangesTellsUptoCard : Claim7 := { stood := { row := rangesTellsUptoRow, standIns := [], harness := (true, "68d2979a960a6283726f2e573c6294e9712a2c1622dedbbb14cbce91fb4f2993"), looks := false }, kinds := [], alts := [], laidByText := true, laidKinds := [.data, .pinned], laidTests := true, laidLooks := .later }
def RangesTellsUptoCardSaid : Prop := Claim7.holds Tryd.pinned (.plain (OpenSpec.upto rangesTellsSpec)) rangesTellsUptoCard

/-- THE SECOND FORM's CARD OF 'gatepostlaw14.RangesOne'. -/
def rangesOneUptoCard : Claim7 := { stood := { row := rangesOneUptoRow, standIns := [], harness := (true, "68d2979a960a6283726f2e573c6294e9712a2c1622dedbbb14cbce91fb4f2993"), looks := false }, kinds := [], alts := [], laidByText := true, laidKinds := [.data, .pinned], laidTests := true, laidLooks := .later }
def RangesOneUptoCardSaid : Prop := Claim7.holds Tryd.pinned (.plain (OpenSpec.upto rangesOneSpec)) rangesOneUptoCard

/-- THE SECOND FORM's CARD OF 'gatepostlaw14.RangesMany'. -/
def rangesManyUptoCard : Claim7 := { stood := { row := rangesManyUptoRow, standIns := [], harness := (true, "68d2979a960a6283726f2e573c6294e9712a2c1622dedbbb14cbce91fb4f2993"), looks := false }, kinds := [], alts := [], laidByText := true, laidKinds := [.data, .pinned], laidTests := true, laidLooks := .later }
def RangesManyUptoCardSaid : Prop := Claim7.holds Tryd.pinned (.plain (OpenSpec.upto rangesManySpec)) rangesManyUptoCard
end Rows
end Go.Proofs.YtlnhcdafagpfhaaDoor
