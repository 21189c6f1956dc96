import Derived.Test.YthelgojccmchjaaPXx0
import Derived.Test.YthelgojccmchjaaPXx7
import Derived.Test.YthelgojccmchjaaStFnExactDid
import Derived.Test.YthelgojccmchjaaBdid
namespace Go.Proofs.Ythelgojccmchjaa.Pure
open Go Go.RowKit Go.Proofs.YthelgojccmchjaaW.PrintWords Go.Proofs.YthelgojccmchjaaW.PrintLast Go.Proofs.YthelgojccmchjaaW.PrintMore Go.Proofs.Ythelgojccmchjaa.PX Go.Proofs.Ythelgojccmchjaa.B
theorem FnExactDid : FnExactDid_Pure := by
  intro op a b _ _ _
  obtain ⟨k, h⟩ := (spec_Did_eq op a b).rounds
  refine ⟨k, ?_⟩
  unfold laws_FnExactDid.f
  rw [h, impl_Did_eq]
  simp
end Go.Proofs.Ythelgojccmchjaa.Pure
