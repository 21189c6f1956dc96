import Derived.Test.YthelgojccmchjaaPXx0
import Derived.Test.YthelgojccmchjaaPXx2
import Derived.Test.YthelgojccmchjaaStFnExactWrap
import Derived.Test.YthelgojccmchjaaBwrapspec
namespace Go.Proofs.Ythelgojccmchjaa.Pure
open Go Go.RowKit Go.Proofs.YthelgojccmchjaaW.PrintWords Go.Proofs.YthelgojccmchjaaW.PrintLast Go.Proofs.YthelgojccmchjaaW.PrintMore Go.Proofs.Ythelgojccmchjaa.PX Go.Proofs.Ythelgojccmchjaa.B
theorem FnExactWrap : FnExactWrap_Pure := by
  intro n _
  unfold laws_FnExactWrap.f impl_Wrap.f
  rw [spec_Wrap_eq n, impl_wrap_eq]
  simp
end Go.Proofs.Ythelgojccmchjaa.Pure
