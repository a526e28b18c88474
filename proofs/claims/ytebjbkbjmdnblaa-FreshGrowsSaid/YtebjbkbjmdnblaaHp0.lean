/- A text written by our program hprint.py (walks of the program, and the row of a law whose plain law is proved beside it). Lean checks it. -/
import Derived.Test.YtebjbkbjmdnblaaProg
import Derived.Below
import Derived.Deep.Draws
import Derived.Deep.AppendLies
import Derived.Maps.AppendAt
import Derived.OwnWalk
import Derived.Laws.BytesArg
import Derived.Laws.MakeOwn
import Derived.Laws.OwnMore
import Derived.Deep.OwnRows
import Derived.Tactics
import Derived.Lib.ConvBytes
import Derived.Laws.Slices
import Derived.WalkKit
import Derived.KernelRfl
import Derived.RowKit3
import Derived.Deep.LoopGhost
import Derived.Deep.QuietTactic
import Derived.BigQuiet
import Derived.WideLaws
import Derived.Deep.DeepCutAuto
import Derived.Deep.CutBlock
import Derived.Deep.RegionHeld3
import Derived.Laws.Rows
import Derived.Lib.AppendStr
import Derived.ArgAppend
import Derived.Laws.IdiomCopy
import Derived.OrdersHeld
import Derived.Laws.BitsLemmas
import Derived.RowKit
import Derived.WalkSpells
import Derived.Test.YtebjbkbjmdnblaaWWords
import Derived.Test.YtebjbkbjmdnblaaWLast
import Derived.Test.YtebjbkbjmdnblaaWTab
import Derived.Test.YtebjbkbjmdnblaaWFour
import Derived.Test.YtebjbkbjmdnblaaWQPut
import Derived.Test.YtebjbkbjmdnblaaWApart
import Derived.Test.YtebjbkbjmdnblaaWArr
import Derived.Test.YtebjbkbjmdnblaaWZeros
import Derived.Test.YtebjbkbjmdnblaaWFoot
import Derived.Test.YtebjbkbjmdnblaaWKept
import Derived.Test.YtebjbkbjmdnblaaWShare
import Derived.Test.YtebjbkbjmdnblaaWN
import Derived.Test.YtebjbkbjmdnblaaWFootNe
import Derived.Test.YtebjbkbjmdnblaaWAt
import Derived.Test.YtebjbkbjmdnblaaWEqStruct
import Derived.Test.YtebjbkbjmdnblaaWRepsOne
import Derived.Test.YtebjbkbjmdnblaaWInv
import Derived.Test.YtebjbkbjmdnblaaWInvWords
import Derived.Test.YtebjbkbjmdnblaaWGuard
import Derived.Test.YtebjbkbjmdnblaaWNEv
import Derived.Test.YtebjbkbjmdnblaaWMore
namespace Go.Proofs.Ytebjbkbjmdnblaa.Hp
open Go.RowKit Go.Proofs.YtebjbkbjmdnblaaW.PrintWords Go.Proofs.YtebjbkbjmdnblaaW.PrintLast Go.Proofs.YtebjbkbjmdnblaaW.PrintMore
attribute [local go_sem] max2_int min2_int max_two min_two max_three min_three max_four min_four   -- for this text's walks alone
set_option linter.unusedVariables false
set_option linter.unusedSimpArgs false



def errW : Option Int → Value
  | none => .nilIface
  | some c => .iface 0 (.int .i64 c)
theorem errW_none : errW none = .nilIface := rfl
theorem errW_some (c : Int) : errW (some c) = .iface 0 (.int .i64 c) := rfl

-- the values' own types

end Go.Proofs.Ytebjbkbjmdnblaa.Hp
