import Derived.Test.YthelgojccmchjaaPXx0
import Derived.Test.YthelgojccmchjaaBnameplain
namespace Go.Proofs.Ythelgojccmchjaa.B
open Go Go.RowKit Go.Proofs.YthelgojccmchjaaW.PrintWords Go.Proofs.YthelgojccmchjaaW.PrintLast Go.Proofs.YthelgojccmchjaaW.PrintMore Go.Proofs.Ythelgojccmchjaa.PX Go.Proofs.Ythelgojccmchjaa.B
def isTimeB (t : Int) : Bool := decide (0 ≤ t) && decide (t ≤ 1000000)
def isKeyB (r b : ByteArray) (t : Int) : Bool := isNameB r && (isNameB b && isTimeB t)
end Go.Proofs.Ythelgojccmchjaa.B
