import Derived.Test.YthelgojccmchjaaPXx0
import Derived.Test.YthelgojccmchjaaPXx3
import Derived.Test.YthelgojccmchjaaStFnExactKeyOk
import Derived.Test.YthelgojccmchjaaBkeyspec
import Derived.Test.YthelgojccmchjaaBkeyimpl
namespace Go.Proofs.Ythelgojccmchjaa.Pure
open Go Go.RowKit Go.Proofs.YthelgojccmchjaaW.PrintWords Go.Proofs.YthelgojccmchjaaW.PrintLast Go.Proofs.YthelgojccmchjaaW.PrintMore Go.Proofs.Ythelgojccmchjaa.PX Go.Proofs.Ythelgojccmchjaa.B
theorem FnExactKeyOk : FnExactKeyOk_Pure := by
  intro r b t hr hb _
  obtain ⟨k, h1, h2⟩ := ((spec_KeyOk_eq r b t hr hb).and (impl_isKey_eq r b t hr hb)).rounds
  refine ⟨k, ?_⟩
  unfold laws_FnExactKeyOk.f impl_KeyOk.f laws_szKey.f laws_toKey.f
  simp only [h1, h2, Option.bind_some]
  repeat' split
  all_goals simp_all
end Go.Proofs.Ythelgojccmchjaa.Pure
