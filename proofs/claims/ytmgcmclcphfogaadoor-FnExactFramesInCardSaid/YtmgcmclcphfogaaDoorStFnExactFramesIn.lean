import Derived.Test.YtmgcmclcphfogaaDoorPXx18
import Derived.Test.YtmgcmclcphfogaaDoorTy
namespace Go.Proofs.YtmgcmclcphfogaaDoor.PX
open Go.RowKit Go.Proofs.YtmgcmclcphfogaaDoorW.PrintWords
/-- THE PURE STATEMENT of FnExactFramesIn. -/
def FnExactFramesIn_Pure : Prop := ∀ (a0 : ByteArray), a0.size ≤ 9223372036854775807 → ∃ k, laws_FnExactFramesIn.f k a0 = some true
end Go.Proofs.YtmgcmclcphfogaaDoor.PX
