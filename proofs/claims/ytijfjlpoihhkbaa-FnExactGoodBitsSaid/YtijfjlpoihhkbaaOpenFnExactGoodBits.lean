/- What the law FnExactGoodBits is called with, told as lists and numbers: each type of its parameters opened. No condition. -/
import Derived.Test.YtijfjlpoihhkbaaPFnExactGoodBitsx0
import Derived.Test.YtijfjlpoihhkbaaOpens
import Derived.KernelRfl
namespace Go.Proofs.Ytijfjlpoihhkbaa.OFnExactGoodBits
open Go.RowKit Go.Proofs.Ytijfjlpoihhkbaa.PFnExactGoodBits Go.Proofs.YtijfjlpoihhkbaaW.PrintWords Go.Proofs.YtijfjlpoihhkbaaO



end Go.Proofs.Ytijfjlpoihhkbaa.OFnExactGoodBits
