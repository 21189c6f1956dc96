import Derived.Test.YthelgojccmchjaaPXx2
import Derived.Test.YthelgojccmchjaaTy
namespace Go.Proofs.Ythelgojccmchjaa.PX
open Go.RowKit Go.Proofs.YthelgojccmchjaaW.PrintWords
/-- THE PURE STATEMENT of FnExactNameOk. -/
def FnExactNameOk_Pure : Prop := ∀ (a0 : ByteArray), a0.size ≤ 9223372036854775807 → ∃ k, laws_FnExactNameOk.f k a0 = some true
end Go.Proofs.Ythelgojccmchjaa.PX
