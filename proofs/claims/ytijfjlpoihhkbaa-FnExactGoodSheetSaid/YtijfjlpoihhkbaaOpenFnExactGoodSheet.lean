/- What the law FnExactGoodSheet is called with, told as lists and numbers: each type of its parameters opened. No condition. -/
import Derived.Test.YtijfjlpoihhkbaaPFnExactGoodSheetx0
import Derived.Test.YtijfjlpoihhkbaaOpens
import Derived.KernelRfl
namespace Go.Proofs.Ytijfjlpoihhkbaa.OFnExactGoodSheet
open Go.RowKit Go.Proofs.Ytijfjlpoihhkbaa.PFnExactGoodSheet Go.Proofs.YtijfjlpoihhkbaaW.PrintWords Go.Proofs.YtijfjlpoihhkbaaO



end Go.Proofs.Ytijfjlpoihhkbaa.OFnExactGoodSheet
