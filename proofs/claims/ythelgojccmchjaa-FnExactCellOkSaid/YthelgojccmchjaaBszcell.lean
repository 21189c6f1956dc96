import Derived.Test.YthelgojccmchjaaPXx0
import Derived.Test.YthelgojccmchjaaPXx3
import Derived.Test.YthelgojccmchjaaBszkey
namespace Go.Proofs.Ythelgojccmchjaa.B
open Go Go.RowKit Go.Proofs.YthelgojccmchjaaW.PrintWords Go.Proofs.YthelgojccmchjaaW.PrintLast Go.Proofs.YthelgojccmchjaaW.PrintMore Go.Proofs.Ythelgojccmchjaa.PX Go.Proofs.Ythelgojccmchjaa.B
theorem szCell_some (r b : ByteArray) (t v : Int) (g : Bool) (left : Int) : ∃ q, laws_szCell.f r b t v g left = some q := by
  obtain ⟨q, hq⟩ := szKey_some r b t left
  unfold laws_szCell.f
  rw [hq]
  simp only [Option.bind_some]
  split <;> exact ⟨_, rfl⟩
end Go.Proofs.Ythelgojccmchjaa.B
