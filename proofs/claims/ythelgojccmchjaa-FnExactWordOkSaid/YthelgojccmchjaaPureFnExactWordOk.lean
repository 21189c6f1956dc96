import Derived.Test.YthelgojccmchjaaPXx0
import Derived.Test.YthelgojccmchjaaPXx2
import Derived.Test.YthelgojccmchjaaStFnExactWordOk
import Derived.Test.YthelgojccmchjaaBword
namespace Go.Proofs.Ythelgojccmchjaa.Pure
open Go Go.RowKit Go.Proofs.YthelgojccmchjaaW.PrintWords Go.Proofs.YthelgojccmchjaaW.PrintLast Go.Proofs.YthelgojccmchjaaW.PrintMore Go.Proofs.Ythelgojccmchjaa.PX Go.Proofs.Ythelgojccmchjaa.B
theorem FnExactWordOk : FnExactWordOk_Pure := by
  intro n _
  unfold laws_FnExactWordOk.f spec_WordOk.f impl_WordOk.f
  rw [l1Word_eq, impl_isWord_eq]
  simp
end Go.Proofs.Ythelgojccmchjaa.Pure
