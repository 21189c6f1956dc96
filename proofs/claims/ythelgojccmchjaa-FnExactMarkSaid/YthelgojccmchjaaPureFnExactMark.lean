import Derived.Test.YthelgojccmchjaaPXx0
import Derived.Test.YthelgojccmchjaaPXx2
import Derived.Test.YthelgojccmchjaaStFnExactMark
import Derived.Test.YthelgojccmchjaaBmark
namespace Go.Proofs.Ythelgojccmchjaa.Pure
open Go Go.RowKit Go.Proofs.YthelgojccmchjaaW.PrintWords Go.Proofs.YthelgojccmchjaaW.PrintLast Go.Proofs.YthelgojccmchjaaW.PrintMore Go.Proofs.Ythelgojccmchjaa.PX Go.Proofs.Ythelgojccmchjaa.B
theorem FnExactMark : FnExactMark_Pure := by
  intro s hs
  obtain ⟨k, h1, h2⟩ := ((spec_Mark_eq s hs).and (impl_mark_eq s hs)).rounds
  refine ⟨k, ?_⟩
  unfold laws_FnExactMark.f impl_Mark.f
  rw [h1, h2]
  simp
end Go.Proofs.Ythelgojccmchjaa.Pure
