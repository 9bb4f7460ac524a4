/- What the law FnExactSheetSum is called with, told as lists and numbers: each type of its parameters opened. No condition. -/
import Derived.Test.YtfghbecipdjcdaaPFnExactSheetSumx0
import Derived.Test.YtfghbecipdjcdaaOpens
import Derived.KernelRfl
namespace Go.Proofs.Ytfghbecipdjcdaa.OFnExactSheetSum
open Go.RowKit Go.Proofs.Ytfghbecipdjcdaa.PFnExactSheetSum Go.Proofs.YtfghbecipdjcdaaW.PrintWords Go.Proofs.YtfghbecipdjcdaaO



end Go.Proofs.Ytfghbecipdjcdaa.OFnExactSheetSum
