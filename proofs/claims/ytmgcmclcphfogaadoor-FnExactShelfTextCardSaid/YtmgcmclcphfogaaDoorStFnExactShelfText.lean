import Derived.Test.YtmgcmclcphfogaaDoorPXx10
import Derived.Test.YtmgcmclcphfogaaDoorTy
namespace Go.Proofs.YtmgcmclcphfogaaDoor.PX
open Go.RowKit Go.Proofs.YtmgcmclcphfogaaDoorW.PrintWords
/-- THE PURE STATEMENT of FnExactShelfText. -/
def FnExactShelfText_Pure : Prop := ∀ (l0 : List (S30)), (l0.length ≤ 9223372036854775807 ∧ ∀ x0 ∈ l0, ok_S30 x0) → ∃ k, laws_FnExactShelfText.f k l0 = some true
end Go.Proofs.YtmgcmclcphfogaaDoor.PX
