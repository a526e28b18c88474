/-
  DERIVED. GIVEN WITH THE SEED: THE CARDS: each row of YtdgklgeddbfeaaaDoorRows.lean that lists a variable, with what it lists TIED to the program's text (the seventh form; the later family's looks); each row that meets fmt, with fmt's text TOLD by the authors' own Lean function (tested against real Go, not proved from fmt's source: count such statements apart). THE CARD IS WHAT COUNTS. Prove the row's statement (the work); the ties are given (YtdgklgeddbfeaaaDoorTie.lean); close each card by the builder's one call (the guide's Derived/Test/ToyasCard.lean, 'card_holds'). Laid BY PROGRAM, IN A SANDBOX (cutbox-door.mjs). By AI agents, Wed Nov 11 2026. No macro, syntax, notation, axiom, sorry.
-/
import Derived.Test.YtdgklgeddbfeaaaDoorRows
import GoSem.ClaimSeven
namespace Go.Proofs.YtdgklgeddbfeaaaDoor
namespace Rows

/-- THE TIED CARD OF 'gatepostlaw02.DateWeeks'. -/
def dateWeeksCard : Claim7 := { stood := { row := dateWeeksRow, standIns := [], harness := (true, "7a5c1c291051ae4daacbaf1616e050bf8af0895b36791e29cac6747597d5ef76"), looks := false }, kinds := [], alts := [], laidByText := true, laidKinds := [.data, .data, .data], laidTests := true, laidLooks := .later }
def DateWeeksCardSaid : Prop := Claim7.holds Tryd.pinned (.plain (OpenSpec.ofChange dateWeeksSpec)) dateWeeksCard

/-- THE TIED CARD OF 'gatepostlaw02.DateTells'. -/
def dateTellsCard : Claim7 := { stood := { row := dateTellsRow, standIns := [], harness := (true, "7a5c1c291051ae4daacbaf1616e050bf8af0895b36791e29cac6747597d5ef76"), looks := false }, kinds := [], alts := [], laidByText := true, laidKinds := [.data, .data, .data], laidTests := true, laidLooks := .later }
def DateTellsCardSaid : Prop := Claim7.holds Tryd.pinned (.plain (OpenSpec.ofChange dateTellsSpec)) dateTellsCard

/-- THE TIED CARD OF 'gatepostlaw02.DateBack'. -/
def dateBackCard : Claim7 := { stood := { row := dateBackRow, standIns := [], harness := (true, "7a5c1c291051ae4daacbaf1616e050bf8af0895b36791e29cac6747597d5ef76"), looks := false }, kinds := [], alts := [], laidByText := true, laidKinds := [.data, .data, .data], laidTests := true, laidLooks := .later }
def DateBackCardSaid : Prop := Claim7.holds Tryd.pinned (.plain (OpenSpec.ofChange dateBackSpec)) dateBackCard

/-- THE TIED CARD OF 'gatepostlaw02.DateForms'. -/
def dateFormsCard : Claim7 := { stood := { row := dateFormsRow, standIns := [], harness := (true, "7a5c1c291051ae4daacbaf1616e050bf8af0895b36791e29cac6747597d5ef76"), looks := false }, kinds := [], alts := [], laidByText := true, laidKinds := [.data, .data, .data], laidTests := true, laidLooks := .later }
def DateFormsCardSaid : Prop := Claim7.holds Tryd.pinned (.plain (OpenSpec.ofChange dateFormsSpec)) dateFormsCard

/-- THE SECOND FORM's CARD OF 'gatepostlaw02.DateWeeks'. -/
def dateWeeksUptoCard : Claim7 := { stood := { row := dateWeeksUptoRow, standIns := [], harness := (true, "7a5c1c291051ae4daacbaf1616e050bf8af0895b36791e29cac6747597d5ef76"), looks := false }, kinds := [], alts := [], laidByText := true, laidKinds := [.data, .data, .data], laidTests := true, laidLooks := .later }
def DateWeeksUptoCardSaid : Prop := Claim7.holds Tryd.pinned (.plain (OpenSpec.upto dateWeeksSpec)) dateWeeksUptoCard

/-- THE SECOND FORM's CARD OF 'gatepostlaw02.DateTells'. -/
def dateTellsUptoCard : Claim7 := { stood := { row := dateTellsUptoRow, standIns := [], harness := (true, "7a5c1c291051ae4daacbaf1616e050bf8af0895b36791e29cac6747597d5ef76"), looks := false }, kinds := [], alts := [], laidByText := true, laidKinds := [.data, .data, .data], laidTests := true, laidLooks := .later }
def DateTellsUptoCardSaid : Prop := Claim7.holds Tryd.pinned (.plain (OpenSpec.upto dateTellsSpec)) dateTellsUptoCard

/-- THE SECOND FORM's CARD OF 'gatepostlaw02.DateBack'. -/
def dateBackUptoCard : Claim7 := { stood := { row := dateBackUptoRow, standIns := [], harness := (true, "7a5c1c291051ae4daacbaf1616e050bf8af0895b36791e29cac6747597d5ef76"), looks := false }, kinds := [], alts := [], laidByText := true, laidKinds := [.data, .data, .data], laidTests := true, laidLooks := .later }
def DateBackUptoCardSaid : Prop := Claim7.holds Tryd.pinned (.plain (OpenSpec.upto dateBackSpec)) dateBackUptoCard

/-- THE SECOND FORM's CARD OF 'gatepostlaw02.DateForms'. -/
def dateFormsUptoCard : Claim7 := { stood := { row := dateFormsUptoRow, standIns := [], harness := (true, "7a5c1c291051ae4daacbaf1616e050bf8af0895b36791e29cac6747597d5ef76"), looks := false }, kinds := [], alts := [], laidByText := true, laidKinds := [.data, .data, .data], laidTests := true, laidLooks := .later }
def DateFormsUptoCardSaid : Prop := Claim7.holds Tryd.pinned (.plain (OpenSpec.upto dateFormsSpec)) dateFormsUptoCard
end Rows
end Go.Proofs.YtdgklgeddbfeaaaDoor
