/- What the law FnExactNextHost is called with, told as lists and numbers: each type of its parameters opened. No condition. -/
import Derived.Test.YtijfjlpoihhkbaaPFnExactNextHostx0
import Derived.Test.YtijfjlpoihhkbaaOpens
import Derived.KernelRfl
namespace Go.Proofs.Ytijfjlpoihhkbaa.OFnExactNextHost
open Go.RowKit Go.Proofs.Ytijfjlpoihhkbaa.PFnExactNextHost Go.Proofs.YtijfjlpoihhkbaaW.PrintWords Go.Proofs.YtijfjlpoihhkbaaO



end Go.Proofs.Ytijfjlpoihhkbaa.OFnExactNextHost
