import Derived.Test.YthelgojccmchjaaPXx5
import Derived.Test.YthelgojccmchjaaTy
namespace Go.Proofs.Ythelgojccmchjaa.PX
open Go.RowKit Go.Proofs.YthelgojccmchjaaW.PrintWords
/-- THE PURE STATEMENT of FnExactValueIn. -/
def FnExactValueIn_Pure : Prop := ∀ (l0 : List (S65)) (a1 : ByteArray), (l0.length ≤ 9223372036854775807 ∧ ∀ x0 ∈ l0, ok_S65 x0) → a1.size ≤ 9223372036854775807 → ∃ k, laws_FnExactValueIn.f k l0 a1 = some true
end Go.Proofs.Ythelgojccmchjaa.PX
