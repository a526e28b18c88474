/-
  No cell of these rows narrows 'for every input' (looked for: loops, veiled, ifaces, maps, wideKeys, modest, calm, conditions, laid).
  DERIVED. THE GIVEN ROWS OF THIS SEAT. 5 by the template 'for every input the law returns true; each argument reads behind the call as it read before'; 0 by the template 'total and deterministic' (their statements: YtebjbkbjmdnblaaTotals.lean).
  GIVEN WITH THE SEED: the statements are not yours to turn. If you find one false, say at which input.
  Laid BY PROGRAM, IN A SANDBOX (cutbox-rows.mjs): the forced cells as the released guide's own fill.sh prints them over the translation 3af28bbf4bdc24df… (all of the seat's roots in one cut). By AI agents, Wed Nov 11 2026. No macro, syntax, notation, axiom, sorry.
-/
import Derived.Test.YtebjbkbjmdnblaaChecked
import GoSem.Claim
import GoSem.ClaimJoined
import GoSem.ClaimMapViews
import Derived.JoinedTies
import Derived.KernelRfl
namespace Go.Proofs.Ytebjbkbjmdnblaa
/- THE CELL 'sum', in the pinned program and in every row, IS THE sha256 OF THE DUMP (.gsa) THAT YtebjbkbjmdnblaaProg.lean LOADS. Nothing in Lean hashes anything: it is a label: what it is worth is what the hold of that sum in a sandbox is worth. -/
noncomputable def Try.pinned : Pinned := { name := "ytebjbkbjmdnblaa", sum := "3af28bbf4bdc24df4a418e282e4b87f16eeaf7c139451d479dd23a47ee8e4753", checked := Try.checked }
namespace Rows
def none {H : Type} : Left H := { results := [], args := [] }

/-- 'gatepostlaw09.FreshAges': WHATEVER THE INPUT: true; the input reads as it did. -/
def freshAgesSpec : ChangeSpec := { name := "freshAges", fn := fun _ => fun
  | [d1, d2, d3] => { results := [.lit (.bool true)], args := [d1, d2, d3] }
  | _ => none }
def freshAgesRow : OpenClaim := { program := "ytebjbkbjmdnblaa", sum := "3af28bbf4bdc24df4a418e282e4b87f16eeaf7c139451d479dd23a47ee8e4753", func := "gatepost/gatepostlaw09.FreshAges", spec := "freshAges", unfollowed := true, recurses := true, apart := false }
def FreshAgesSaid : Prop := freshAgesRow.holds Try.pinned (OpenSpec.ofChange freshAgesSpec)

/-- ITS FALSE NEIGHBOUR: 'it returns false'. Refute it at one input. -/
def freshAgesWrong : ChangeSpec := { name := "freshAges", fn := fun _ => fun
  | [d1, d2, d3] => { results := [.lit (.bool false)], args := [d1, d2, d3] }
  | _ => none }
def FreshAgesWrongFalsely : Prop := freshAgesRow.holds Try.pinned (OpenSpec.ofChange freshAgesWrong)

/-- 'gatepostlaw09.FreshTells': WHATEVER THE INPUT: true; the input reads as it did. -/
def freshTellsSpec : ChangeSpec := { name := "freshTells", fn := fun _ => fun
  | [d1, d2, d3] => { results := [.lit (.bool true)], args := [d1, d2, d3] }
  | _ => none }
def freshTellsRow : OpenClaim := { program := "ytebjbkbjmdnblaa", sum := "3af28bbf4bdc24df4a418e282e4b87f16eeaf7c139451d479dd23a47ee8e4753", func := "gatepost/gatepostlaw09.FreshTells", spec := "freshTells", unfollowed := true, recurses := true, apart := false }
def FreshTellsSaid : Prop := freshTellsRow.holds Try.pinned (OpenSpec.ofChange freshTellsSpec)

/-- ITS FALSE NEIGHBOUR: 'it returns false'. Refute it at one input. -/
def freshTellsWrong : ChangeSpec := { name := "freshTells", fn := fun _ => fun
  | [d1, d2, d3] => { results := [.lit (.bool false)], args := [d1, d2, d3] }
  | _ => none }
def FreshTellsWrongFalsely : Prop := freshTellsRow.holds Try.pinned (OpenSpec.ofChange freshTellsWrong)

/-- 'gatepostlaw09.FreshGrows': WHATEVER THE INPUT: true; the input reads as it did. -/
def freshGrowsSpec : ChangeSpec := { name := "freshGrows", fn := fun _ => fun
  | [d1, d2] => { results := [.lit (.bool true)], args := [d1, d2] }
  | _ => none }
def freshGrowsRow : OpenClaim := { program := "ytebjbkbjmdnblaa", sum := "3af28bbf4bdc24df4a418e282e4b87f16eeaf7c139451d479dd23a47ee8e4753", func := "gatepost/gatepostlaw09.FreshGrows", spec := "freshGrows", unfollowed := true, recurses := true, apart := false }
def FreshGrowsSaid : Prop := freshGrowsRow.holds Try.pinned (OpenSpec.ofChange freshGrowsSpec)

/-- ITS FALSE NEIGHBOUR: 'it returns false'. Refute it at one input. -/
def freshGrowsWrong : ChangeSpec := { name := "freshGrows", fn := fun _ => fun
  | [d1, d2] => { results := [.lit (.bool false)], args := [d1, d2] }
  | _ => none }
def FreshGrowsWrongFalsely : Prop := freshGrowsRow.holds Try.pinned (OpenSpec.ofChange freshGrowsWrong)

/-- 'gatepostlaw09.FreshAsks': WHATEVER THE INPUT: true; the input reads as it did. -/
def freshAsksSpec : ChangeSpec := { name := "freshAsks", fn := fun _ => fun
  | [d1, d2, d3] => { results := [.lit (.bool true)], args := [d1, d2, d3] }
  | _ => none }
def freshAsksRow : OpenClaim := { program := "ytebjbkbjmdnblaa", sum := "3af28bbf4bdc24df4a418e282e4b87f16eeaf7c139451d479dd23a47ee8e4753", func := "gatepost/gatepostlaw09.FreshAsks", spec := "freshAsks", unfollowed := true, recurses := true, apart := false }
def FreshAsksSaid : Prop := freshAsksRow.holds Try.pinned (OpenSpec.ofChange freshAsksSpec)

/-- ITS FALSE NEIGHBOUR: 'it returns false'. Refute it at one input. -/
def freshAsksWrong : ChangeSpec := { name := "freshAsks", fn := fun _ => fun
  | [d1, d2, d3] => { results := [.lit (.bool false)], args := [d1, d2, d3] }
  | _ => none }
def FreshAsksWrongFalsely : Prop := freshAsksRow.holds Try.pinned (OpenSpec.ofChange freshAsksWrong)

/-- 'gatepostlaw09.FreshLonger': WHATEVER THE INPUT: true; the input reads as it did. -/
def freshLongerSpec : ChangeSpec := { name := "freshLonger", fn := fun _ => fun
  | [d1, d2, d3] => { results := [.lit (.bool true)], args := [d1, d2, d3] }
  | _ => none }
def freshLongerRow : OpenClaim := { program := "ytebjbkbjmdnblaa", sum := "3af28bbf4bdc24df4a418e282e4b87f16eeaf7c139451d479dd23a47ee8e4753", func := "gatepost/gatepostlaw09.FreshLonger", spec := "freshLonger", unfollowed := true, recurses := true, apart := false }
def FreshLongerSaid : Prop := freshLongerRow.holds Try.pinned (OpenSpec.ofChange freshLongerSpec)

/-- ITS FALSE NEIGHBOUR: 'it returns false'. Refute it at one input. -/
def freshLongerWrong : ChangeSpec := { name := "freshLonger", fn := fun _ => fun
  | [d1, d2, d3] => { results := [.lit (.bool false)], args := [d1, d2, d3] }
  | _ => none }
def FreshLongerWrongFalsely : Prop := freshLongerRow.holds Try.pinned (OpenSpec.ofChange freshLongerWrong)

/- THE SECOND FORM. 'bulk': how many values and letters a reading holds, each counted each time it is reached (what is shared counts as often as it is met; a slice's spare places count too). A statement '..UptoSaid' is the law's where the arguments, and the package variables that the reading takes, are together of bulk at most 1048576: NARROWER than '..Said'. Prove '..Said' where nothing that the law and all that it calls make is longer than what came in: it says more and counts as full. Else prove '..UptoSaid'. A law counts once. -/
mutual
def uptoBulk {H : Type} : DataW H → Nat
  | .lit (.string bytes) => bytes.length + 1
  | .lit _ => 1
  | .nil => 1
  | .ptr d => uptoBulk d + 1
  | .slice elems spare => uptoBulkAll elems + uptoBulkAll spare + 1
  | .agg parts => uptoBulkAll parts + 1
  | .iface _ d => uptoBulk d + 1
  | .map entries => uptoBulkEntries entries + 1
  | .held _ => 1
def uptoBulkAll {H : Type} : List (DataW H) → Nat
  | [] => 0
  | d :: r => uptoBulk d + uptoBulkAll r
def uptoBulkEntries {H : Type} : List (Lit × DataW H) → Nat
  | [] => 0
  | x :: r => uptoBulkEntry x + uptoBulkEntries r
def uptoBulkEntry {H : Type} : Lit × DataW H → Nat
  | (.string bytes, d) => bytes.length + uptoBulk d + 1
  | (_, d) => uptoBulk d + 1
 end
def uptoSmall : (H : Type) → List (DataW H) → Bool := fun _ ds => decide (uptoBulkAll ds ≤ 1048576)
def OpenSpec.upto (s : _root_.Go.ChangeSpec) : _root_.Go.OpenSpec := { _root_.Go.OpenSpec.ofChange s with cond := some uptoSmall }

/-- 'gatepostlaw09.FreshAges', WHERE WHAT IT READS IS OF BULK AT MOST 1048576: true; the input reads as it did. -/
def freshAgesUptoRow : OpenClaim := { program := "ytebjbkbjmdnblaa", sum := "3af28bbf4bdc24df4a418e282e4b87f16eeaf7c139451d479dd23a47ee8e4753", func := "gatepost/gatepostlaw09.FreshAges", spec := "freshAges", unfollowed := true, recurses := true, apart := false, narrowed := true }
def FreshAgesUptoSaid : Prop := freshAgesUptoRow.holds Try.pinned (OpenSpec.upto freshAgesSpec)

/-- 'gatepostlaw09.FreshTells', WHERE WHAT IT READS IS OF BULK AT MOST 1048576: true; the input reads as it did. -/
def freshTellsUptoRow : OpenClaim := { program := "ytebjbkbjmdnblaa", sum := "3af28bbf4bdc24df4a418e282e4b87f16eeaf7c139451d479dd23a47ee8e4753", func := "gatepost/gatepostlaw09.FreshTells", spec := "freshTells", unfollowed := true, recurses := true, apart := false, narrowed := true }
def FreshTellsUptoSaid : Prop := freshTellsUptoRow.holds Try.pinned (OpenSpec.upto freshTellsSpec)

/-- 'gatepostlaw09.FreshGrows', WHERE WHAT IT READS IS OF BULK AT MOST 1048576: true; the input reads as it did. -/
def freshGrowsUptoRow : OpenClaim := { program := "ytebjbkbjmdnblaa", sum := "3af28bbf4bdc24df4a418e282e4b87f16eeaf7c139451d479dd23a47ee8e4753", func := "gatepost/gatepostlaw09.FreshGrows", spec := "freshGrows", unfollowed := true, recurses := true, apart := false, narrowed := true }
def FreshGrowsUptoSaid : Prop := freshGrowsUptoRow.holds Try.pinned (OpenSpec.upto freshGrowsSpec)

/-- 'gatepostlaw09.FreshAsks', WHERE WHAT IT READS IS OF BULK AT MOST 1048576: true; the input reads as it did. -/
def freshAsksUptoRow : OpenClaim := { program := "ytebjbkbjmdnblaa", sum := "3af28bbf4bdc24df4a418e282e4b87f16eeaf7c139451d479dd23a47ee8e4753", func := "gatepost/gatepostlaw09.FreshAsks", spec := "freshAsks", unfollowed := true, recurses := true, apart := false, narrowed := true }
def FreshAsksUptoSaid : Prop := freshAsksUptoRow.holds Try.pinned (OpenSpec.upto freshAsksSpec)

/-- 'gatepostlaw09.FreshLonger', WHERE WHAT IT READS IS OF BULK AT MOST 1048576: true; the input reads as it did. -/
def freshLongerUptoRow : OpenClaim := { program := "ytebjbkbjmdnblaa", sum := "3af28bbf4bdc24df4a418e282e4b87f16eeaf7c139451d479dd23a47ee8e4753", func := "gatepost/gatepostlaw09.FreshLonger", spec := "freshLonger", unfollowed := true, recurses := true, apart := false, narrowed := true }
def FreshLongerUptoSaid : Prop := freshLongerUptoRow.holds Try.pinned (OpenSpec.upto freshLongerSpec)

end Rows
end Go.Proofs.Ytebjbkbjmdnblaa
