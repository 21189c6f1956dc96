import Derived.Test.YtmgcmclcphfogaaDoorPXx16
import Derived.Test.YtmgcmclcphfogaaDoorTy
namespace Go.Proofs.YtmgcmclcphfogaaDoor.PX
open Go.RowKit Go.Proofs.YtmgcmclcphfogaaDoorW.PrintWords
/-- THE PURE STATEMENT of FnExactAppended. -/
def FnExactAppended_Pure : Prop := ∀ (a0 : ByteArray) (a1 : ByteArray), a0.size ≤ 9223372036854775807 → a1.size ≤ 9223372036854775807 → ∃ k, laws_FnExactAppended.f k a0 a1 = some true
end Go.Proofs.YtmgcmclcphfogaaDoor.PX
