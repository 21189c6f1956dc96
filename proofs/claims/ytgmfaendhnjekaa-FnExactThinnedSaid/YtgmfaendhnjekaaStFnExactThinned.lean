import Derived.Test.YtgmfaendhnjekaaPXx14
import Derived.Test.YtgmfaendhnjekaaTy
namespace Go.Proofs.Ytgmfaendhnjekaa.PX
open Go.RowKit Go.Proofs.YtgmfaendhnjekaaW.PrintWords
/-- THE PURE STATEMENT of FnExactThinned. -/
def FnExactThinned_Pure : Prop := ∀ (l0 : List (S50)) (a1 : Int) (a2 : Int), (l0.length ≤ 9223372036854775807 ∧ ∀ x0 ∈ l0, ok_S50 x0) → (Lit.int .i64 a1).wf = true → (Lit.int .i64 a2).wf = true → ∃ k, laws_FnExactThinned.f k l0 a1 a2 = some true
end Go.Proofs.Ytgmfaendhnjekaa.PX
