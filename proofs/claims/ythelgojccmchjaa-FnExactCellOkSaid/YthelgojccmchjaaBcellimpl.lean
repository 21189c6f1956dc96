import Derived.Test.YthelgojccmchjaaPXx0
import Derived.Test.YthelgojccmchjaaPXx3
import Derived.Test.YthelgojccmchjaaBkeyimpl
import Derived.Test.YthelgojccmchjaaBcellplain
namespace Go.Proofs.Ythelgojccmchjaa.B
open Go Go.RowKit Go.Proofs.YthelgojccmchjaaW.PrintWords Go.Proofs.YthelgojccmchjaaW.PrintLast Go.Proofs.YthelgojccmchjaaW.PrintMore Go.Proofs.Ythelgojccmchjaa.PX Go.Proofs.Ythelgojccmchjaa.B
theorem impl_isCell_eq (r b : ByteArray) (t v : Int) (g : Bool) (hr : r.size ≤ 9223372036854775807) (hb : b.size ≤ 9223372036854775807) : LG fun k => impl_isCell.f k r b t v g = some (isCellB r b t v g) := by
  refine (impl_isKey_eq r b t hr hb).mono fun k h => ?_
  unfold impl_isCell.f isCellB
  simp only [h, impl_isWord_eq, Option.bind_some]
  cases isKeyB r b t <;> cases isWordB v <;> cases g <;> simp
end Go.Proofs.Ythelgojccmchjaa.B
