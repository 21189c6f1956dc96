import Derived.Test.YtpgpajlkgclkaaaPXx0
import Derived.Test.YtpgpajlkgclkaaaTrods
import Derived.Test.YtpgpajlkgclkaaaProg
import Derived.KernelRfl
namespace Go.Proofs.Ytpgpajlkgclkaaa.PX
open Go.RowKit Go.Proofs.YtpgpajlkgclkaaaW.PrintWords Go.Proofs.Ytpgpajlkgclkaaa.Trods
end Go.Proofs.Ytpgpajlkgclkaaa.PX
