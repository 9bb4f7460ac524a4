-- Printed by a program of this session (printx.sh over print.py) out of the translation's own print. Not trusted: Lean checks it.
import Derived.Test.YtfghbecipdjcdaaProg
import Derived.Below
import Derived.Deep.Draws
import Derived.Deep.AppendLies
import Derived.Maps.AppendAt
import Derived.OwnWalk
import Derived.Laws.BytesArg
import Derived.Laws.MakeOwn
import Derived.Laws.OwnMore
import Derived.Deep.OwnRows
import Derived.Tactics
import Derived.Lib.ConvBytes
import Derived.Laws.Slices
import Derived.WalkKit
import Derived.KernelRfl
import Derived.RowKit3
import Derived.Deep.LoopGhost
import Derived.Deep.QuietTactic
import Derived.BigQuiet
import Derived.WideLaws
import Derived.Deep.DeepCutAuto
import Derived.Deep.CutBlock
import Derived.Deep.RegionHeld3
import Derived.Laws.Rows
import Derived.Lib.AppendStr
import Derived.ArgAppend
import Derived.Laws.IdiomCopy
import Derived.OrdersHeld
import Derived.Laws.BitsLemmas
import Derived.RowKit
import Derived.Test.YtfghbecipdjcdaaWWords
import Derived.Test.YtfghbecipdjcdaaWLast
import Derived.Test.YtfghbecipdjcdaaWTab
import Derived.Test.YtfghbecipdjcdaaWFour
import Derived.Test.YtfghbecipdjcdaaWQPut
import Derived.Test.YtfghbecipdjcdaaWApart
import Derived.Test.YtfghbecipdjcdaaWArr
import Derived.Test.YtfghbecipdjcdaaWZeros
import Derived.Test.YtfghbecipdjcdaaWFoot
import Derived.Test.YtfghbecipdjcdaaWKept
import Derived.Test.YtfghbecipdjcdaaWShare
import Derived.Test.YtfghbecipdjcdaaWN
import Derived.Test.YtfghbecipdjcdaaWFootNe
import Derived.Test.YtfghbecipdjcdaaWAt
import Derived.Test.YtfghbecipdjcdaaWEqStruct
import Derived.Test.YtfghbecipdjcdaaWRepsOne
import Derived.Test.YtfghbecipdjcdaaWInv
import Derived.Test.YtfghbecipdjcdaaWInvWords
import Derived.Test.YtfghbecipdjcdaaWGuard
import Derived.Test.YtfghbecipdjcdaaWNEv
import Derived.Test.YtfghbecipdjcdaaWMore
import Derived.Test.YtfghbecipdjcdaaDyn
namespace Go.Proofs.Ytfghbecipdjcdaa.PFnExactSheetSum
open Go.RowKit Go.Proofs.YtfghbecipdjcdaaW.PrintWords Go.Proofs.YtfghbecipdjcdaaW.PrintLast Go.Proofs.YtfghbecipdjcdaaW.PrintMore
attribute [local go_sem] max2_int min2_int max_two min_two max_three min_three max_four min_four   -- for this text's walks alone
set_option linter.unusedVariables false
set_option linter.unusedSimpArgs false



def errW : Option Int → Value
  | none => .nilIface
  | some c => .iface 0 (.int .i64 c)
theorem errW_none : errW none = .nilIface := rfl
theorem errW_some (c : Int) : errW (some c) = .iface 0 (.int .i64 c) := rfl

theorem info3 : (Try.prog.info? 3).map (fun i => (i.zero, i.size, i.bytes)) = some (some (.int .i64 0), 1, 8) := by kernel_rfl
-- the values' own types

end Go.Proofs.Ytfghbecipdjcdaa.PFnExactSheetSum
