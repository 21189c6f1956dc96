import Derived.Test.YthelgojccmchjaaPXx6
import Derived.Test.YthelgojccmchjaaTy
namespace Go.Proofs.Ythelgojccmchjaa.PX
open Go.RowKit Go.Proofs.YthelgojccmchjaaW.PrintWords
/-- THE PURE STATEMENT of FnExactOpOk. -/
def FnExactOpOk_Pure : Prop := ∀ (a0_0 : Int) (a0_1 : Int) (a0_2 : ByteArray), (Lit.int .i64 a0_0).wf = true → (Lit.int .i64 a0_1).wf = true → a0_2.size ≤ 9223372036854775807 → ∃ k, laws_FnExactOpOk.f k a0_0 a0_1 a0_2 = some true
end Go.Proofs.Ythelgojccmchjaa.PX
