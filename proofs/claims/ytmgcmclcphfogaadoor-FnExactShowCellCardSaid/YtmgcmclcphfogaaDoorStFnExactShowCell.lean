import Derived.Test.YtmgcmclcphfogaaDoorPXx7
import Derived.Test.YtmgcmclcphfogaaDoorTy
namespace Go.Proofs.YtmgcmclcphfogaaDoor.PX
open Go.RowKit Go.Proofs.YtmgcmclcphfogaaDoorW.PrintWords
/-- THE PURE STATEMENT of FnExactShowCell. -/
def FnExactShowCell_Pure : Prop := ∀ (a0_0 : ByteArray) (a0_1 : ByteArray) (a0_2 : Int) (a0_3 : Int) (a0_4 : Bool), a0_0.size ≤ 9223372036854775807 → a0_1.size ≤ 9223372036854775807 → (Lit.int .i64 a0_2).wf = true → (Lit.int .i64 a0_3).wf = true → ∃ k, laws_FnExactShowCell.f k a0_0 a0_1 a0_2 a0_3 a0_4 = some true
end Go.Proofs.YtmgcmclcphfogaaDoor.PX
