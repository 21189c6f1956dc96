import Derived.Test.YtmgcmclcphfogaaDoorPXx4
import Derived.Test.YtmgcmclcphfogaaDoorTy
namespace Go.Proofs.YtmgcmclcphfogaaDoor.PX
open Go.RowKit Go.Proofs.YtmgcmclcphfogaaDoorW.PrintWords
/-- THE PURE STATEMENT of FnExactKeyText. -/
def FnExactKeyText_Pure : Prop := ∀ (a0_0 : ByteArray) (a0_1 : ByteArray) (a0_2 : Int), a0_0.size ≤ 9223372036854775807 → a0_1.size ≤ 9223372036854775807 → (Lit.int .i64 a0_2).wf = true → ∃ k, laws_FnExactKeyText.f k a0_0 a0_1 a0_2 = some true
end Go.Proofs.YtmgcmclcphfogaaDoor.PX
