import Derived.Test.YthelgojccmchjaaPXx9
import Derived.Test.YthelgojccmchjaaTy
namespace Go.Proofs.Ythelgojccmchjaa.PX
open Go.RowKit Go.Proofs.YthelgojccmchjaaW.PrintWords
/-- THE PURE STATEMENT of FnExactKeyLess. -/
def FnExactKeyLess_Pure : Prop := ∀ (a0_0 : ByteArray) (a0_1 : ByteArray) (a0_2 : Int) (a1_0 : ByteArray) (a1_1 : ByteArray) (a1_2 : Int), a0_0.size ≤ 9223372036854775807 → a0_1.size ≤ 9223372036854775807 → (Lit.int .i64 a0_2).wf = true → a1_0.size ≤ 9223372036854775807 → a1_1.size ≤ 9223372036854775807 → (Lit.int .i64 a1_2).wf = true → ∃ k, laws_FnExactKeyLess.f k a0_0 a0_1 a0_2 a1_0 a1_1 a1_2 = some true
end Go.Proofs.Ythelgojccmchjaa.PX
