import Derived.Test.YthelgojccmchjaaPXx3
import Derived.Test.YthelgojccmchjaaTy
namespace Go.Proofs.Ythelgojccmchjaa.PX
open Go.RowKit Go.Proofs.YthelgojccmchjaaW.PrintWords
/-- THE PURE STATEMENT of FnExactBinsOk. -/
def FnExactBinsOk_Pure : Prop := ∀ (l0 : List (S65)), (l0.length ≤ 9223372036854775807 ∧ ∀ x0 ∈ l0, ok_S65 x0) → ∃ k, laws_FnExactBinsOk.f k l0 = some true
end Go.Proofs.Ythelgojccmchjaa.PX
