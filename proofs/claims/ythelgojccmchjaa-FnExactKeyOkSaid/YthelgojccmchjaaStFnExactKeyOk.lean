import Derived.Test.YthelgojccmchjaaPXx3
import Derived.Test.YthelgojccmchjaaTy
namespace Go.Proofs.Ythelgojccmchjaa.PX
open Go.RowKit Go.Proofs.YthelgojccmchjaaW.PrintWords
/-- THE PURE STATEMENT of FnExactKeyOk. -/
def FnExactKeyOk_Pure : Prop := ∀ (a0_0 : ByteArray) (a0_1 : ByteArray) (a0_2 : Int), a0_0.size ≤ 9223372036854775807 → a0_1.size ≤ 9223372036854775807 → (Lit.int .i64 a0_2).wf = true → ∃ k, laws_FnExactKeyOk.f k a0_0 a0_1 a0_2 = some true
end Go.Proofs.Ythelgojccmchjaa.PX
