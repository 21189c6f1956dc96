import Derived.Test.YthelgojccmchjabPXx4
import Derived.Test.YthelgojccmchjabTy
namespace Go.Proofs.Ythelgojccmchjab.PX
open Go.RowKit Go.Proofs.YthelgojccmchjabW.PrintWords
/-- THE PURE STATEMENT of FnExactSame. -/
def FnExactSame_Pure : Prop := ∀ (a0_0 : Int) (l0_1 : List (S38)) (a0_2 : Int) (a1_0 : Int) (l1_1 : List (S38)) (a1_2 : Int), (Lit.int .i64 a0_0).wf = true → (l0_1.length ≤ 9223372036854775807 ∧ ∀ x0 ∈ l0_1, ok_S38 x0) → (Lit.int .i64 a0_2).wf = true → (Lit.int .i64 a1_0).wf = true → (l1_1.length ≤ 9223372036854775807 ∧ ∀ x0 ∈ l1_1, ok_S38 x0) → (Lit.int .i64 a1_2).wf = true → ∃ k, laws_FnExactSame.f k a0_0 l0_1 a0_2 a1_0 l1_1 a1_2 = some true
end Go.Proofs.Ythelgojccmchjab.PX
