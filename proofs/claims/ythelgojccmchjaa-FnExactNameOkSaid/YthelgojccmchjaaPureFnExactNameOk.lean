import Derived.Test.YthelgojccmchjaaPXx0
import Derived.Test.YthelgojccmchjaaPXx2
import Derived.Test.YthelgojccmchjaaStFnExactNameOk
import Derived.Test.YthelgojccmchjaaBnamespec
import Derived.Test.YthelgojccmchjaaBnameimpl
namespace Go.Proofs.Ythelgojccmchjaa.Pure
open Go Go.RowKit Go.Proofs.YthelgojccmchjaaW.PrintWords Go.Proofs.YthelgojccmchjaaW.PrintLast Go.Proofs.YthelgojccmchjaaW.PrintMore Go.Proofs.Ythelgojccmchjaa.PX Go.Proofs.Ythelgojccmchjaa.B
theorem FnExactNameOk : FnExactNameOk_Pure := by
  intro s hs
  obtain ⟨k, h1, h2⟩ := ((spec_NameOk_eq s hs).and (impl_isName_eq s hs)).rounds
  refine ⟨k, ?_⟩
  unfold laws_FnExactNameOk.f impl_NameOk.f
  rw [h1, h2]
  simp
end Go.Proofs.Ythelgojccmchjaa.Pure
