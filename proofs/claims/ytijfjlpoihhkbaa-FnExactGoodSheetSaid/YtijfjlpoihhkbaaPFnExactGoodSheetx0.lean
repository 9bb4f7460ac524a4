-- Printed by a program of this session (printx.sh over print.py) out of the translation's own print. Not trusted: Lean checks it.
import Derived.Test.YtijfjlpoihhkbaaProg
import Derived.Below
import Derived.Deep.Draws
import Derived.Deep.AppendLies
import Derived.Maps.AppendAt
import Derived.OwnWalk
import Derived.Laws.BytesArg
import Derived.Laws.MakeOwn
import Derived.Laws.OwnMore
import Derived.Deep.OwnRows
import Derived.Tactics
import Derived.Lib.ConvBytes
import Derived.Laws.Slices
import Derived.WalkKit
import Derived.KernelRfl
import Derived.RowKit3
import Derived.Deep.LoopGhost
import Derived.Deep.QuietTactic
import Derived.BigQuiet
import Derived.WideLaws
import Derived.Deep.DeepCutAuto
import Derived.Deep.CutBlock
import Derived.Deep.RegionHeld3
import Derived.Laws.Rows
import Derived.Lib.AppendStr
import Derived.ArgAppend
import Derived.Laws.IdiomCopy
import Derived.OrdersHeld
import Derived.Laws.BitsLemmas
import Derived.RowKit
import Derived.Test.YtijfjlpoihhkbaaWWords
import Derived.Test.YtijfjlpoihhkbaaWLast
import Derived.Test.YtijfjlpoihhkbaaWTab
import Derived.Test.YtijfjlpoihhkbaaWFour
import Derived.Test.YtijfjlpoihhkbaaWQPut
import Derived.Test.YtijfjlpoihhkbaaWApart
import Derived.Test.YtijfjlpoihhkbaaWArr
import Derived.Test.YtijfjlpoihhkbaaWZeros
import Derived.Test.YtijfjlpoihhkbaaWFoot
import Derived.Test.YtijfjlpoihhkbaaWKept
import Derived.Test.YtijfjlpoihhkbaaWShare
import Derived.Test.YtijfjlpoihhkbaaWN
import Derived.Test.YtijfjlpoihhkbaaWFootNe
import Derived.Test.YtijfjlpoihhkbaaWAt
import Derived.Test.YtijfjlpoihhkbaaWEqStruct
import Derived.Test.YtijfjlpoihhkbaaWRepsOne
import Derived.Test.YtijfjlpoihhkbaaWInv
import Derived.Test.YtijfjlpoihhkbaaWInvWords
import Derived.Test.YtijfjlpoihhkbaaWGuard
import Derived.Test.YtijfjlpoihhkbaaWNEv
import Derived.Test.YtijfjlpoihhkbaaWMore
import Derived.Test.YtijfjlpoihhkbaaDyn
namespace Go.Proofs.Ytijfjlpoihhkbaa.PFnExactGoodSheet
open Go.RowKit Go.Proofs.YtijfjlpoihhkbaaW.PrintWords Go.Proofs.YtijfjlpoihhkbaaW.PrintLast Go.Proofs.YtijfjlpoihhkbaaW.PrintMore
attribute [local go_sem] max2_int min2_int max_two min_two max_three min_three max_four min_four   -- for this text's walks alone
set_option linter.unusedVariables false
set_option linter.unusedSimpArgs false



def errW : Option Int → Value
  | none => .nilIface
  | some c => .iface 0 (.int .i64 c)
theorem errW_none : errW none = .nilIface := rfl
theorem errW_some (c : Int) : errW (some c) = .iface 0 (.int .i64 c) := rfl

theorem info3 : (Try.prog.info? 3).map (fun i => (i.zero, i.size, i.bytes)) = some (some (.int .i64 0), 1, 8) := by kernel_rfl
-- the values' own types

end Go.Proofs.Ytijfjlpoihhkbaa.PFnExactGoodSheet
