import Derived.Test.YthelgojccmchjaaPXx7
import Derived.Test.YthelgojccmchjaaTy
namespace Go.Proofs.Ythelgojccmchjaa.PX
open Go.RowKit Go.Proofs.YthelgojccmchjaaW.PrintWords
/-- THE PURE STATEMENT of FnExactDid. -/
def FnExactDid_Pure : Prop := ∀ (a0 : Int) (a1 : Int) (a2 : Int), (Lit.int .i64 a0).wf = true → (Lit.int .i64 a1).wf = true → (Lit.int .i64 a2).wf = true → ∃ k, laws_FnExactDid.f k a0 a1 a2 = some true
end Go.Proofs.Ythelgojccmchjaa.PX
