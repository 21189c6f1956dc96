import Derived.Test.YthelgojccmchjaaPXx0
import Derived.Test.YthelgojccmchjaaTrods
import Derived.Test.YthelgojccmchjaaProg
import Derived.KernelRfl
namespace Go.Proofs.Ythelgojccmchjaa.PX
open Go.RowKit Go.Proofs.YthelgojccmchjaaW.PrintWords Go.Proofs.Ythelgojccmchjaa.Trods
/-- What is told of a value of struct type 65 that came in. -/
def ok_S65 (x : S65) : Prop := x.f0.size ≤ 9223372036854775807 ∧ (Lit.int .i64 x.f1).wf = true
theorem tells_S65 {H : Type} {enc : TypeId × Value → H} {W : World} : Tells enc Try.prog W 65 k65 ok_S65 :=
  tells_iso (g := fun a => ⟨a.1, a.2⟩) (fun _ => rfl) (tells_struct2 Try.underlying65 rfl (by kernel_rfl) (by kernel_rfl) (by kernel_rfl) (by kernel_rfl) (tells_string Try.underlying9) (tells_int Try.underlying2)) (fun a h => by unfold ok_S65; exact h)
end Go.Proofs.Ythelgojccmchjaa.PX
