/- A text written by our program hprint.py (walks of the program, and the row of a law whose plain law is proved beside it). Lean checks it. -/
import Derived.Test.YtfkebmdfcpnaeaaProg
import Derived.Below
import Derived.Deep.Draws
import Derived.Deep.AppendLies
import Derived.Maps.AppendAt
import Derived.OwnWalk
import Derived.Laws.BytesArg
import Derived.Laws.MakeOwn
import Derived.Laws.OwnMore
import Derived.Deep.OwnRows
import Derived.Tactics
import Derived.Lib.ConvBytes
import Derived.Laws.Slices
import Derived.WalkKit
import Derived.KernelRfl
import Derived.RowKit3
import Derived.Deep.LoopGhost
import Derived.Deep.QuietTactic
import Derived.BigQuiet
import Derived.WideLaws
import Derived.Deep.DeepCutAuto
import Derived.Deep.CutBlock
import Derived.Deep.RegionHeld3
import Derived.Laws.Rows
import Derived.Lib.AppendStr
import Derived.ArgAppend
import Derived.Laws.IdiomCopy
import Derived.OrdersHeld
import Derived.Laws.BitsLemmas
import Derived.RowKit
import Derived.Test.YtfkebmdfcpnaeaaWWords
import Derived.Test.YtfkebmdfcpnaeaaWLast
import Derived.Test.YtfkebmdfcpnaeaaWTab
import Derived.Test.YtfkebmdfcpnaeaaWFour
import Derived.Test.YtfkebmdfcpnaeaaWQPut
import Derived.Test.YtfkebmdfcpnaeaaWApart
import Derived.Test.YtfkebmdfcpnaeaaWArr
import Derived.Test.YtfkebmdfcpnaeaaWZeros
import Derived.Test.YtfkebmdfcpnaeaaWFoot
import Derived.Test.YtfkebmdfcpnaeaaWKept
import Derived.Test.YtfkebmdfcpnaeaaWShare
import Derived.Test.YtfkebmdfcpnaeaaWN
import Derived.Test.YtfkebmdfcpnaeaaWFootNe
import Derived.Test.YtfkebmdfcpnaeaaWAt
import Derived.Test.YtfkebmdfcpnaeaaWEqStruct
import Derived.Test.YtfkebmdfcpnaeaaWRepsOne
import Derived.Test.YtfkebmdfcpnaeaaWInv
import Derived.Test.YtfkebmdfcpnaeaaWInvWords
import Derived.Test.YtfkebmdfcpnaeaaWGuard
import Derived.Test.YtfkebmdfcpnaeaaWNEv
import Derived.Test.YtfkebmdfcpnaeaaWMore
namespace Go.Proofs.Ytfkebmdfcpnaeaa.Hp
open Go.RowKit Go.Proofs.YtfkebmdfcpnaeaaW.PrintWords Go.Proofs.YtfkebmdfcpnaeaaW.PrintLast Go.Proofs.YtfkebmdfcpnaeaaW.PrintMore
attribute [local go_sem] max2_int min2_int max_two min_two max_three min_three max_four min_four   -- for this text's walks alone
set_option linter.unusedVariables false
set_option linter.unusedSimpArgs false



def errW : Option Int → Value
  | none => .nilIface
  | some c => .iface 0 (.int .i64 c)
theorem errW_none : errW none = .nilIface := rfl
theorem errW_some (c : Int) : errW (some c) = .iface 0 (.int .i64 c) := rfl

-- the values' own types

end Go.Proofs.Ytfkebmdfcpnaeaa.Hp
