/-
  DERIVED. GIVEN WITH THE SEED: THE CARDS: each row of YtmfpmnfbcgchjaaDoorRows.lean that lists a variable, with what it lists TIED to the program's text (the seventh form; the later family's looks); each row that meets fmt, with fmt's text TOLD by the authors' own Lean function (tested against real Go, not proved from fmt's source: count such statements apart). THE CARD IS WHAT COUNTS. Prove the row's statement (the work); the ties are given (YtmfpmnfbcgchjaaDoorTie.lean); close each card by the builder's one call (the guide's Derived/Test/ToyasCard.lean, 'card_holds'). Laid BY PROGRAM, IN A SANDBOX (cutbox-door.mjs). By AI agents, Wed Nov 11 2026. No macro, syntax, notation, axiom, sorry.
-/
import Derived.Test.YtmfpmnfbcgchjaaDoorRows
import GoSem.ClaimSeven
namespace Go.Proofs.YtmfpmnfbcgchjaaDoor
namespace Rows

/-- THE TIED CARD OF 'gatepostlaw01.TokenTrims'. -/
def tokenTrimsCard : Claim7 := { stood := { row := tokenTrimsRow, standIns := [], harness := (true, "760183c5a81ca68dac22ecae3c5066e45eb513b600686523d79d0a694f27cb90"), looks := false }, kinds := [], alts := [], laidByText := true, laidKinds := [.data, .pinned], laidTests := true, laidLooks := .later }
def TokenTrimsCardSaid : Prop := Claim7.holds Tryd.pinned (.plain (OpenSpec.ofChange tokenTrimsSpec)) tokenTrimsCard

/-- THE TIED CARD OF 'gatepostlaw01.TokenSplits'. -/
def tokenSplitsCard : Claim7 := { stood := { row := tokenSplitsRow, standIns := [], harness := (true, "760183c5a81ca68dac22ecae3c5066e45eb513b600686523d79d0a694f27cb90"), looks := false }, kinds := [], alts := [], laidByText := true, laidKinds := [.data, .pinned], laidTests := true, laidLooks := .later }
def TokenSplitsCardSaid : Prop := Claim7.holds Tryd.pinned (.plain (OpenSpec.ofChange tokenSplitsSpec)) tokenSplitsCard

/-- THE TIED CARD OF 'gatepostlaw01.TokenTells'. -/
def tokenTellsCard : Claim7 := { stood := { row := tokenTellsRow, standIns := [], harness := (true, "760183c5a81ca68dac22ecae3c5066e45eb513b600686523d79d0a694f27cb90"), looks := false }, kinds := [], alts := [], laidByText := true, laidKinds := [.data, .pinned], laidTests := true, laidLooks := .later }
def TokenTellsCardSaid : Prop := Claim7.holds Tryd.pinned (.plain (OpenSpec.ofChange tokenTellsSpec)) tokenTellsCard

/-- THE TIED CARD OF 'gatepostlaw01.TokenPairs'. -/
def tokenPairsCard : Claim7 := { stood := { row := tokenPairsRow, standIns := [], harness := (true, "760183c5a81ca68dac22ecae3c5066e45eb513b600686523d79d0a694f27cb90"), looks := false }, kinds := [], alts := [], laidByText := true, laidKinds := [.data, .pinned], laidTests := true, laidLooks := .later }
def TokenPairsCardSaid : Prop := Claim7.holds Tryd.pinned (.plain (OpenSpec.ofChange tokenPairsSpec)) tokenPairsCard

/-- THE TIED CARD OF 'gatepostlaw01.TokenJoins'. -/
def tokenJoinsCard : Claim7 := { stood := { row := tokenJoinsRow, standIns := [], harness := (true, "760183c5a81ca68dac22ecae3c5066e45eb513b600686523d79d0a694f27cb90"), looks := false }, kinds := [], alts := [], laidByText := true, laidKinds := [.data, .pinned], laidTests := true, laidLooks := .later }
def TokenJoinsCardSaid : Prop := Claim7.holds Tryd.pinned (.plain (OpenSpec.ofChange tokenJoinsSpec)) tokenJoinsCard

/-- THE TIED CARD OF 'gatepostlaw01.TokenQuotes'. -/
def tokenQuotesCard : Claim7 := { stood := { row := tokenQuotesRow, standIns := [], harness := (true, "760183c5a81ca68dac22ecae3c5066e45eb513b600686523d79d0a694f27cb90"), looks := false }, kinds := [], alts := [], laidByText := true, laidKinds := [.data, .pinned], laidTests := true, laidLooks := .later }
def TokenQuotesCardSaid : Prop := Claim7.holds Tryd.pinned (.plain (OpenSpec.ofChange tokenQuotesSpec)) tokenQuotesCard

/-- THE SECOND FORM's CARD OF 'gatepostlaw01.TokenTrims'. -/
def tokenTrimsUptoCard : Claim7 := { stood := { row := tokenTrimsUptoRow, standIns := [], harness := (true, "760183c5a81ca68dac22ecae3c5066e45eb513b600686523d79d0a694f27cb90"), looks := false }, kinds := [], alts := [], laidByText := true, laidKinds := [.data, .pinned], laidTests := true, laidLooks := .later }
def TokenTrimsUptoCardSaid : Prop := Claim7.holds Tryd.pinned (.plain (OpenSpec.upto tokenTrimsSpec)) tokenTrimsUptoCard

/-- THE SECOND FORM's CARD OF 'gatepostlaw01.TokenSplits'. -/
def tokenSplitsUptoCard : Claim7 := { stood := { row := tokenSplitsUptoRow, standIns := [], harness := (true, "760183c5a81ca68dac22ecae3c5066e45eb513b600686523d79d0a694f27cb90"), looks := false }, kinds := [], alts := [], laidByText := true, laidKinds := [.data, .pinned], laidTests := true, laidLooks := .later }
def TokenSplitsUptoCardSaid : Prop := Claim7.holds Tryd.pinned (.plain (OpenSpec.upto tokenSplitsSpec)) tokenSplitsUptoCard

/-- THE SECOND FORM's CARD OF 'gatepostlaw01.TokenTells'. -/
def tokenTellsUptoCard : Claim7 := { stood := { row := tokenTellsUptoRow, standIns := [], harness := (true, "760183c5a81ca68dac22ecae3c5066e45eb513b600686523d79d0a694f27cb90"), looks := false }, kinds := [], alts := [], laidByText := true, laidKinds := [.data, .pinned], laidTests := true, laidLooks := .later }
def TokenTellsUptoCardSaid : Prop := Claim7.holds Tryd.pinned (.plain (OpenSpec.upto tokenTellsSpec)) tokenTellsUptoCard

/-- THE SECOND FORM's CARD OF 'gatepostlaw01.TokenPairs'. -/
def tokenPairsUptoCard : Claim7 := { stood := { row := tokenPairsUptoRow, standIns := [], harness := (true, "760183c5a81ca68dac22ecae3c5066e45eb513b600686523d79d0a694f27cb90"), looks := false }, kinds := [], alts := [], laidByText := true, laidKinds := [.data, .pinned], laidTests := true, laidLooks := .later }
def TokenPairsUptoCardSaid : Prop := Claim7.holds Tryd.pinned (.plain (OpenSpec.upto tokenPairsSpec)) tokenPairsUptoCard

/-- THE SECOND FORM's CARD OF 'gatepostlaw01.TokenJoins'. -/
def tokenJoinsUptoCard : Claim7 := { stood := { row := tokenJoinsUptoRow, standIns := [], harness := (true, "760183c5a81ca68dac22ecae3c5066e45eb513b600686523d79d0a694f27cb90"), looks := false }, kinds := [], alts := [], laidByText := true, laidKinds := [.data, .pinned], laidTests := true, laidLooks := .later }
def TokenJoinsUptoCardSaid : Prop := Claim7.holds Tryd.pinned (.plain (OpenSpec.upto tokenJoinsSpec)) tokenJoinsUptoCard

/-- THE SECOND FORM's CARD OF 'gatepostlaw01.TokenQuotes'. -/
def tokenQuotesUptoCard : Claim7 := { stood := { row := tokenQuotesUptoRow, standIns := [], harness := (true, "760183c5a81ca68dac22ecae3c5066e45eb513b600686523d79d0a694f27cb90"), looks := false }, kinds := [], alts := [], laidByText := true, laidKinds := [.data, .pinned], laidTests := true, laidLooks := .later }
def TokenQuotesUptoCardSaid : Prop := Claim7.holds Tryd.pinned (.plain (OpenSpec.upto tokenQuotesSpec)) tokenQuotesUptoCard
end Rows
end Go.Proofs.YtmfpmnfbcgchjaaDoor
