import Derived.Test.YthelgojccmchjaaPXx0
import Derived.Test.YthelgojccmchjaaBkeyplain
import Derived.Test.YthelgojccmchjaaBword
namespace Go.Proofs.Ythelgojccmchjaa.B
open Go Go.RowKit Go.Proofs.YthelgojccmchjaaW.PrintWords Go.Proofs.YthelgojccmchjaaW.PrintLast Go.Proofs.YthelgojccmchjaaW.PrintMore Go.Proofs.Ythelgojccmchjaa.PX Go.Proofs.Ythelgojccmchjaa.B
def isCellB (r b : ByteArray) (t v : Int) (g : Bool) : Bool := isKeyB r b t && (isWordB v && (!g || v == 0))
end Go.Proofs.Ythelgojccmchjaa.B
