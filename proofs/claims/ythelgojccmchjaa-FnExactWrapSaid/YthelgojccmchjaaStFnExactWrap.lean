import Derived.Test.YthelgojccmchjaaPXx2
import Derived.Test.YthelgojccmchjaaTy
namespace Go.Proofs.Ythelgojccmchjaa.PX
open Go.RowKit Go.Proofs.YthelgojccmchjaaW.PrintWords
/-- THE PURE STATEMENT of FnExactWrap. -/
def FnExactWrap_Pure : Prop := ∀ (a0 : Int), (Lit.int .i64 a0).wf = true → laws_FnExactWrap.f a0 = some true
end Go.Proofs.Ythelgojccmchjaa.PX
