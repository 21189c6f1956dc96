import Derived.Test.YthelgojccmchjaaPXx0
import Derived.Test.YthelgojccmchjaaStFnExactConstants
namespace Go.Proofs.Ythelgojccmchjaa.Pure
open Go Go.RowKit Go.Proofs.YthelgojccmchjaaW.PrintWords Go.Proofs.YthelgojccmchjaaW.PrintLast Go.Proofs.Ythelgojccmchjaa.PX
theorem FnExactConstants : FnExactConstants_Pure := rfl
end Go.Proofs.Ythelgojccmchjaa.Pure
