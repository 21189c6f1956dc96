import Derived.Test.YthelgojccmchjaaPXx0
import Derived.Test.YthelgojccmchjaaPXx3
import Derived.Test.YthelgojccmchjaaStFnExactCellOk
import Derived.Test.YthelgojccmchjaaBcellspec
import Derived.Test.YthelgojccmchjaaBcellimpl
import Derived.Test.YthelgojccmchjaaBszcell
namespace Go.Proofs.Ythelgojccmchjaa.Pure
open Go Go.RowKit Go.Proofs.YthelgojccmchjaaW.PrintWords Go.Proofs.YthelgojccmchjaaW.PrintLast Go.Proofs.YthelgojccmchjaaW.PrintMore Go.Proofs.Ythelgojccmchjaa.PX Go.Proofs.Ythelgojccmchjaa.B
theorem FnExactCellOk : FnExactCellOk_Pure := by
  intro r b t v g hr hb _ _
  obtain ⟨k, h1, h2⟩ := ((spec_CellOk_eq r b t v g hr hb).and (impl_isCell_eq r b t v g hr hb)).rounds
  refine ⟨k, ?_⟩
  obtain ⟨q, hq⟩ := szCell_some r b t v g 1048576
  unfold laws_FnExactCellOk.f impl_CellOk.f laws_toCell.f laws_toKey.f
  simp only [hq, h1, h2, Option.bind_some]
  split <;> simp
end Go.Proofs.Ythelgojccmchjaa.Pure
