/- A text written by our program hprint.py (walks of the program, and the row of a law whose plain law is proved beside it). Lean checks it. -/
import Derived.Test.YtmfpmnfbcgchjaaProg
import Derived.Below
import Derived.Deep.Draws
import Derived.Deep.AppendLies
import Derived.Maps.AppendAt
import Derived.OwnWalk
import Derived.Laws.BytesArg
import Derived.Laws.MakeOwn
import Derived.Laws.OwnMore
import Derived.Deep.OwnRows
import Derived.Tactics
import Derived.Lib.ConvBytes
import Derived.Laws.Slices
import Derived.WalkKit
import Derived.KernelRfl
import Derived.RowKit3
import Derived.Deep.LoopGhost
import Derived.Deep.QuietTactic
import Derived.BigQuiet
import Derived.WideLaws
import Derived.Deep.DeepCutAuto
import Derived.Deep.CutBlock
import Derived.Deep.RegionHeld3
import Derived.Laws.Rows
import Derived.Lib.AppendStr
import Derived.ArgAppend
import Derived.Laws.IdiomCopy
import Derived.OrdersHeld
import Derived.Laws.BitsLemmas
import Derived.RowKit
import Derived.WalkSpells
import Derived.Test.YtmfpmnfbcgchjaaWWords
import Derived.Test.YtmfpmnfbcgchjaaWLast
import Derived.Test.YtmfpmnfbcgchjaaWTab
import Derived.Test.YtmfpmnfbcgchjaaWFour
import Derived.Test.YtmfpmnfbcgchjaaWQPut
import Derived.Test.YtmfpmnfbcgchjaaWApart
import Derived.Test.YtmfpmnfbcgchjaaWArr
import Derived.Test.YtmfpmnfbcgchjaaWZeros
import Derived.Test.YtmfpmnfbcgchjaaWFoot
import Derived.Test.YtmfpmnfbcgchjaaWKept
import Derived.Test.YtmfpmnfbcgchjaaWShare
import Derived.Test.YtmfpmnfbcgchjaaWN
import Derived.Test.YtmfpmnfbcgchjaaWFootNe
import Derived.Test.YtmfpmnfbcgchjaaWAt
import Derived.Test.YtmfpmnfbcgchjaaWEqStruct
import Derived.Test.YtmfpmnfbcgchjaaWRepsOne
import Derived.Test.YtmfpmnfbcgchjaaWInv
import Derived.Test.YtmfpmnfbcgchjaaWInvWords
import Derived.Test.YtmfpmnfbcgchjaaWGuard
import Derived.Test.YtmfpmnfbcgchjaaWNEv
import Derived.Test.YtmfpmnfbcgchjaaWMore
namespace Go.Proofs.Ytmfpmnfbcgchjaa.Hp
open Go.RowKit Go.Proofs.YtmfpmnfbcgchjaaW.PrintWords Go.Proofs.YtmfpmnfbcgchjaaW.PrintLast Go.Proofs.YtmfpmnfbcgchjaaW.PrintMore
attribute [local go_sem] max2_int min2_int max_two min_two max_three min_three max_four min_four   -- for this text's walks alone
set_option linter.unusedVariables false
set_option linter.unusedSimpArgs false



def errW : Option Int → Value
  | none => .nilIface
  | some c => .iface 0 (.int .i64 c)
theorem errW_none : errW none = .nilIface := rfl
theorem errW_some (c : Int) : errW (some c) = .iface 0 (.int .i64 c) := rfl

-- the values' own types

end Go.Proofs.Ytmfpmnfbcgchjaa.Hp
