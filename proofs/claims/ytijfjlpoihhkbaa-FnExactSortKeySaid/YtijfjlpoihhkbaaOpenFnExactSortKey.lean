/- What the law FnExactSortKey is called with, told as lists and numbers: each type of its parameters opened. No condition. -/
import Derived.Test.YtijfjlpoihhkbaaPFnExactSortKeyx0
import Derived.Test.YtijfjlpoihhkbaaOpens
import Derived.KernelRfl
namespace Go.Proofs.Ytijfjlpoihhkbaa.OFnExactSortKey
open Go.RowKit Go.Proofs.Ytijfjlpoihhkbaa.PFnExactSortKey Go.Proofs.YtijfjlpoihhkbaaW.PrintWords Go.Proofs.YtijfjlpoihhkbaaO



end Go.Proofs.Ytijfjlpoihhkbaa.OFnExactSortKey
