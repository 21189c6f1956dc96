import Derived.Test.YtgmfaendhnjekaaPXx14
import Derived.Test.YtgmfaendhnjekaaTy
namespace Go.Proofs.Ytgmfaendhnjekaa.PX
open Go.RowKit Go.Proofs.YtgmfaendhnjekaaW.PrintWords
/-- THE PURE STATEMENT of FnExactBarnOk. -/
def FnExactBarnOk_Pure : Prop := ∀ (l0_0 : List (S50)) (l0_1 : List (List (S50))), (l0_0.length ≤ 9223372036854775807 ∧ ∀ x0 ∈ l0_0, ok_S50 x0) → (l0_1.length ≤ 9223372036854775807 ∧ ∀ x0 ∈ l0_1, (x0.length ≤ 9223372036854775807 ∧ ∀ x1 ∈ x0, ok_S50 x1)) → ∃ k, laws_FnExactBarnOk.f k l0_0 l0_1 = some true
end Go.Proofs.Ytgmfaendhnjekaa.PX
