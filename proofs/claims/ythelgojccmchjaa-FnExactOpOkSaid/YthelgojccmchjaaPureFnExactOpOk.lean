import Derived.Test.YthelgojccmchjaaPXx0
import Derived.Test.YthelgojccmchjaaPXx5
import Derived.Test.YthelgojccmchjaaPXx6
import Derived.Test.YthelgojccmchjaaStFnExactOpOk
import Derived.Test.YthelgojccmchjaaBopspec
import Derived.Test.YthelgojccmchjaaBopimpl
namespace Go.Proofs.Ythelgojccmchjaa.Pure
open Go Go.RowKit Go.Proofs.YthelgojccmchjaaW.PrintWords Go.Proofs.YthelgojccmchjaaW.PrintLast Go.Proofs.YthelgojccmchjaaW.PrintMore Go.Proofs.Ythelgojccmchjaa.PX Go.Proofs.Ythelgojccmchjaa.B
theorem FnExactOpOk : FnExactOpOk_Pure := by
  intro k n s _ _ hs
  obtain ⟨j, h1, h2⟩ := ((spec_OpOk_eq k n s hs).and (impl_isOp_eq k n s hs)).rounds
  refine ⟨j, ?_⟩
  unfold laws_FnExactOpOk.f impl_OpOk.f laws_szOp.f laws_toOp.f
  simp only [h1, h2, Option.bind_some]
  repeat' split
  all_goals simp_all
end Go.Proofs.Ythelgojccmchjaa.Pure
