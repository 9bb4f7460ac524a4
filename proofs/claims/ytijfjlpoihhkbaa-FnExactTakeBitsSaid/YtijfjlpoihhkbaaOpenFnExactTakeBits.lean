/- What the law FnExactTakeBits is called with, told as lists and numbers: each type of its parameters opened. No condition. -/
import Derived.Test.YtijfjlpoihhkbaaPFnExactTakeBitsx0
import Derived.Test.YtijfjlpoihhkbaaOpens
import Derived.KernelRfl
namespace Go.Proofs.Ytijfjlpoihhkbaa.OFnExactTakeBits
open Go.RowKit Go.Proofs.Ytijfjlpoihhkbaa.PFnExactTakeBits Go.Proofs.YtijfjlpoihhkbaaW.PrintWords Go.Proofs.YtijfjlpoihhkbaaO



end Go.Proofs.Ytijfjlpoihhkbaa.OFnExactTakeBits
