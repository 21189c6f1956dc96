import Derived.Test.YtpgpajlkgclkaaaPXx3
import Derived.Test.YtpgpajlkgclkaaaTy
namespace Go.Proofs.Ytpgpajlkgclkaaa.PX
open Go.RowKit Go.Proofs.YtpgpajlkgclkaaaW.PrintWords
/-- THE PURE STATEMENT of FnWords. -/
def FnWords_Pure : Prop := ∀ (l0 : List Int), (l0.length ≤ 9223372036854775807 ∧ ∀ x0 ∈ l0, (Lit.int .u8 x0).wf = true) → ∃ k, laws_FnWords.f k l0 = some true
end Go.Proofs.Ytpgpajlkgclkaaa.PX
