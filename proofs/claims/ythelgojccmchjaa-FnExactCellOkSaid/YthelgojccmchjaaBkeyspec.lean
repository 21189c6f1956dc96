import Derived.Test.YthelgojccmchjaaPXx0
import Derived.Test.YthelgojccmchjaaPXx3
import Derived.Test.YthelgojccmchjaaBnamespec
import Derived.Test.YthelgojccmchjaaBkeyplain
namespace Go.Proofs.Ythelgojccmchjaa.B
open Go Go.RowKit Go.Proofs.YthelgojccmchjaaW.PrintWords Go.Proofs.YthelgojccmchjaaW.PrintLast Go.Proofs.YthelgojccmchjaaW.PrintMore Go.Proofs.Ythelgojccmchjaa.PX Go.Proofs.Ythelgojccmchjaa.B
theorem l2Time_eq (t : Int) : spec_l2Time.f t = some (isTimeB t) := by
  unfold spec_l2Time.f
  rw [l1In_eq]
  rfl
theorem spec_KeyOk_eq (r b : ByteArray) (t : Int) (hr : r.size ≤ 9223372036854775807) (hb : b.size ≤ 9223372036854775807) : LG fun k => spec_KeyOk.f k r b t = some (isKeyB r b t) := by
  refine ((spec_NameOk_eq r hr).and (spec_NameOk_eq b hb)).mono fun k ⟨h1, h2⟩ => ?_
  unfold spec_KeyOk.f isKeyB
  simp only [h1, h2, l2Time_eq, Option.bind_some]
  cases isNameB r <;> cases isNameB b <;> simp
end Go.Proofs.Ythelgojccmchjaa.B
