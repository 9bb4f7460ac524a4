-- Printed by a program of this session (printx.sh over print.py) out of the translation's own print. Not trusted: Lean checks it.
import Derived.Test.YtngbbglnbdmldaaProg
import Derived.Below
import Derived.Deep.Draws
import Derived.Deep.AppendLies
import Derived.Maps.AppendAt
import Derived.OwnWalk
import Derived.Laws.BytesArg
import Derived.Laws.MakeOwn
import Derived.Laws.OwnMore
import Derived.Deep.OwnRows
import Derived.Tactics
import Derived.Lib.ConvBytes
import Derived.Laws.Slices
import Derived.WalkKit
import Derived.KernelRfl
import Derived.RowKit3
import Derived.Deep.LoopGhost
import Derived.Deep.QuietTactic
import Derived.BigQuiet
import Derived.WideLaws
import Derived.Deep.DeepCutAuto
import Derived.Deep.CutBlock
import Derived.Deep.RegionHeld3
import Derived.Laws.Rows
import Derived.Lib.AppendStr
import Derived.ArgAppend
import Derived.Laws.IdiomCopy
import Derived.OrdersHeld
import Derived.Laws.BitsLemmas
import Derived.RowKit
import Derived.Laws.Cover1
import Derived.Test.YtngbbglnbdmldaaWWords
import Derived.Test.YtngbbglnbdmldaaWLast
import Derived.Test.YtngbbglnbdmldaaWTab
import Derived.Test.YtngbbglnbdmldaaWFour
import Derived.Test.YtngbbglnbdmldaaWQPut
import Derived.Test.YtngbbglnbdmldaaWApart
import Derived.Test.YtngbbglnbdmldaaWArr
import Derived.Test.YtngbbglnbdmldaaWZeros
import Derived.Test.YtngbbglnbdmldaaWFoot
import Derived.Test.YtngbbglnbdmldaaWKept
import Derived.Test.YtngbbglnbdmldaaWShare
import Derived.Test.YtngbbglnbdmldaaWN
import Derived.Test.YtngbbglnbdmldaaWFootNe
import Derived.Test.YtngbbglnbdmldaaWAt
import Derived.Test.YtngbbglnbdmldaaWEqStruct
import Derived.Test.YtngbbglnbdmldaaWRepsOne
import Derived.Test.YtngbbglnbdmldaaWInv
import Derived.Test.YtngbbglnbdmldaaWInvWords
import Derived.Test.YtngbbglnbdmldaaWGuard
import Derived.Test.YtngbbglnbdmldaaWNEv
import Derived.Test.YtngbbglnbdmldaaWMore
import Derived.Test.YtngbbglnbdmldaaDyn
import Derived.Test.YtngbbglnbdmldaaLib
namespace Go.Proofs.Ytngbbglnbdmldaa.PFnExactKeyParts
open Go.RowKit Go.Proofs.YtngbbglnbdmldaaW.PrintWords Go.Proofs.YtngbbglnbdmldaaW.PrintLast Go.Proofs.YtngbbglnbdmldaaW.PrintMore
attribute [local go_sem] max2_int min2_int max_two min_two max_three min_three max_four min_four   -- for this text's walks alone
set_option linter.unusedVariables false
set_option linter.unusedSimpArgs false



def errW : Option Int → Value
  | none => .nilIface
  | some c => .iface 0 (.int .i64 c)
theorem errW_none : errW none = .nilIface := rfl
theorem errW_some (c : Int) : errW (some c) = .iface 0 (.int .i64 c) := rfl

-- the values' own types

end Go.Proofs.Ytngbbglnbdmldaa.PFnExactKeyParts
