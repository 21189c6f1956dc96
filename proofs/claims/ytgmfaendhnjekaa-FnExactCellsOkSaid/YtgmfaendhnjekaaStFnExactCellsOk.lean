import Derived.Test.YtgmfaendhnjekaaPXx7
import Derived.Test.YtgmfaendhnjekaaTy
namespace Go.Proofs.Ytgmfaendhnjekaa.PX
open Go.RowKit Go.Proofs.YtgmfaendhnjekaaW.PrintWords
/-- THE PURE STATEMENT of FnExactCellsOk. -/
def FnExactCellsOk_Pure : Prop := ∀ (l0 : List (S50)), (l0.length ≤ 9223372036854775807 ∧ ∀ x0 ∈ l0, ok_S50 x0) → ∃ k, laws_FnExactCellsOk.f k l0 = some true
end Go.Proofs.Ytgmfaendhnjekaa.PX
