import Derived.Test.YthelgojccmchjaaPXx0
import Derived.Test.YthelgojccmchjaaPXx3
import Derived.Test.YthelgojccmchjaaBnameimpl
import Derived.Test.YthelgojccmchjaaBkeyplain
import Derived.Test.YthelgojccmchjaaBwithin
namespace Go.Proofs.Ythelgojccmchjaa.B
open Go Go.RowKit Go.Proofs.YthelgojccmchjaaW.PrintWords Go.Proofs.YthelgojccmchjaaW.PrintLast Go.Proofs.YthelgojccmchjaaW.PrintMore Go.Proofs.Ythelgojccmchjaa.PX Go.Proofs.Ythelgojccmchjaa.B
theorem isTime_eq (t : Int) : impl_isTime.f t = some (isTimeB t) := by
  unfold impl_isTime.f
  rw [within_eq]
  rfl
theorem impl_isKey_eq (r b : ByteArray) (t : Int) (hr : r.size ≤ 9223372036854775807) (hb : b.size ≤ 9223372036854775807) : LG fun k => impl_isKey.f k r b t = some (isKeyB r b t) := by
  refine ((impl_isName_eq r hr).and (impl_isName_eq b hb)).mono fun k ⟨h1, h2⟩ => ?_
  unfold impl_isKey.f isKeyB
  simp only [h1, h2, isTime_eq, Option.bind_some]
  cases isNameB r <;> cases isNameB b <;> simp
end Go.Proofs.Ythelgojccmchjaa.B
