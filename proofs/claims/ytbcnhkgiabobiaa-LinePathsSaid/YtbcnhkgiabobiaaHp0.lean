/- A text written by our program hprint.py (walks of the program, and the row of a law whose plain law is proved beside it). Lean checks it. -/
import Derived.Test.YtbcnhkgiabobiaaProg
import Derived.Below
import Derived.Deep.Draws
import Derived.Deep.AppendLies
import Derived.Maps.AppendAt
import Derived.OwnWalk
import Derived.Laws.BytesArg
import Derived.Laws.MakeOwn
import Derived.Laws.OwnMore
import Derived.Deep.OwnRows
import Derived.Tactics
import Derived.Lib.ConvBytes
import Derived.Laws.Slices
import Derived.WalkKit
import Derived.KernelRfl
import Derived.RowKit3
import Derived.Deep.LoopGhost
import Derived.Deep.QuietTactic
import Derived.BigQuiet
import Derived.WideLaws
import Derived.Deep.DeepCutAuto
import Derived.Deep.CutBlock
import Derived.Deep.RegionHeld3
import Derived.Laws.Rows
import Derived.Lib.AppendStr
import Derived.ArgAppend
import Derived.Laws.IdiomCopy
import Derived.OrdersHeld
import Derived.Laws.BitsLemmas
import Derived.RowKit
import Derived.WalkSpells
import Derived.Test.YtbcnhkgiabobiaaWWords
import Derived.Test.YtbcnhkgiabobiaaWLast
import Derived.Test.YtbcnhkgiabobiaaWTab
import Derived.Test.YtbcnhkgiabobiaaWFour
import Derived.Test.YtbcnhkgiabobiaaWQPut
import Derived.Test.YtbcnhkgiabobiaaWApart
import Derived.Test.YtbcnhkgiabobiaaWArr
import Derived.Test.YtbcnhkgiabobiaaWZeros
import Derived.Test.YtbcnhkgiabobiaaWFoot
import Derived.Test.YtbcnhkgiabobiaaWKept
import Derived.Test.YtbcnhkgiabobiaaWShare
import Derived.Test.YtbcnhkgiabobiaaWN
import Derived.Test.YtbcnhkgiabobiaaWFootNe
import Derived.Test.YtbcnhkgiabobiaaWAt
import Derived.Test.YtbcnhkgiabobiaaWEqStruct
import Derived.Test.YtbcnhkgiabobiaaWRepsOne
import Derived.Test.YtbcnhkgiabobiaaWInv
import Derived.Test.YtbcnhkgiabobiaaWInvWords
import Derived.Test.YtbcnhkgiabobiaaWGuard
import Derived.Test.YtbcnhkgiabobiaaWNEv
import Derived.Test.YtbcnhkgiabobiaaWMore
namespace Go.Proofs.Ytbcnhkgiabobiaa.Hp
open Go.RowKit Go.Proofs.YtbcnhkgiabobiaaW.PrintWords Go.Proofs.YtbcnhkgiabobiaaW.PrintLast Go.Proofs.YtbcnhkgiabobiaaW.PrintMore
attribute [local go_sem] max2_int min2_int max_two min_two max_three min_three max_four min_four   -- for this text's walks alone
set_option linter.unusedVariables false
set_option linter.unusedSimpArgs false



def errW : Option Int → Value
  | none => .nilIface
  | some c => .iface 0 (.int .i64 c)
theorem errW_none : errW none = .nilIface := rfl
theorem errW_some (c : Int) : errW (some c) = .iface 0 (.int .i64 c) := rfl

theorem info5 : (Try.prog.info? 5).map (fun i => (i.zero, i.size, i.bytes)) = some (some (.int .u8 0), 1, 1) := by kernel_rfl
-- the values' own types

end Go.Proofs.Ytbcnhkgiabobiaa.Hp
