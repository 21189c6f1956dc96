import Derived.Test.YthelgojccmchjaaPXx2
import Derived.Test.YthelgojccmchjaaTy
namespace Go.Proofs.Ythelgojccmchjaa.PX
open Go.RowKit Go.Proofs.YthelgojccmchjaaW.PrintWords
/-- THE PURE STATEMENT of FnExactConstants. -/
def FnExactConstants_Pure : Prop := laws_FnExactConstants.f = some true
end Go.Proofs.Ythelgojccmchjaa.PX
