import Derived.Test.YtgmfaendhnjekaaPXx9
import Derived.Test.YtgmfaendhnjekaaTy
namespace Go.Proofs.Ytgmfaendhnjekaa.PX
open Go.RowKit Go.Proofs.YtgmfaendhnjekaaW.PrintWords
/-- THE PURE STATEMENT of FnExactFind. -/
def FnExactFind_Pure : Prop := ∀ (l0 : List (S50)) (a1 : ByteArray) (a2 : ByteArray) (a3 : Int), (l0.length ≤ 9223372036854775807 ∧ ∀ x0 ∈ l0, ok_S50 x0) → a1.size ≤ 9223372036854775807 → a2.size ≤ 9223372036854775807 → (Lit.int .i64 a3).wf = true → ∃ k, laws_FnExactFind.f k l0 a1 a2 a3 = some true
end Go.Proofs.Ytgmfaendhnjekaa.PX
