import Derived.Test.YthelgojccmchjabPXx0
import Derived.Test.YthelgojccmchjabTrods
import Derived.Test.YthelgojccmchjabProg
import Derived.KernelRfl
namespace Go.Proofs.Ythelgojccmchjab.PX
open Go.RowKit Go.Proofs.YthelgojccmchjabW.PrintWords Go.Proofs.Ythelgojccmchjab.Trods
/-- What is told of a value of struct type 38 that came in. -/
def ok_S38 (x : S38) : Prop := x.f0.size ≤ 9223372036854775807 ∧ (Lit.int .i64 x.f1).wf = true
theorem tells_S38 {H : Type} {enc : TypeId × Value → H} {W : World} : Tells enc Try.prog W 38 k38 ok_S38 :=
  tells_iso (g := fun a => ⟨a.1, a.2⟩) (fun _ => rfl) (tells_struct2 Try.underlying38 rfl (by kernel_rfl) (by kernel_rfl) (by kernel_rfl) (by kernel_rfl) (tells_string Try.underlying9) (tells_int Try.underlying2)) (fun a h => by unfold ok_S38; exact h)
end Go.Proofs.Ythelgojccmchjab.PX
