import Derived.Test.YtgmfaendhnjekaaPXx0
import Derived.Test.YtgmfaendhnjekaaTrods
import Derived.Test.YtgmfaendhnjekaaProg
import Derived.KernelRfl
namespace Go.Proofs.Ytgmfaendhnjekaa.PX
open Go.RowKit Go.Proofs.YtgmfaendhnjekaaW.PrintWords Go.Proofs.Ytgmfaendhnjekaa.Trods
/-- What is told of a value of struct type 48 that came in. -/
def ok_S48 (x : S48) : Prop := x.f0.size ≤ 9223372036854775807 ∧ x.f1.size ≤ 9223372036854775807 ∧ (Lit.int .i64 x.f2).wf = true
theorem tells_S48 {H : Type} {enc : TypeId × Value → H} {W : World} : Tells enc Try.prog W 48 k48 ok_S48 :=
  tells_iso (g := fun a => ⟨a.1, a.2.1, a.2.2⟩) (fun _ => rfl) (tells_struct3 Try.underlying48 rfl (by kernel_rfl) (by kernel_rfl) (by kernel_rfl) (by kernel_rfl) (by kernel_rfl) (by kernel_rfl) (tells_string Try.underlying9) (tells_string Try.underlying9) (tells_int Try.underlying2)) (fun a h => by unfold ok_S48; exact h)
/-- What is told of a value of struct type 50 that came in. -/
def ok_S50 (x : S50) : Prop := ok_S48 x.f0 ∧ (Lit.int .i64 x.f1).wf = true ∧ True
theorem tells_S50 {H : Type} {enc : TypeId × Value → H} {W : World} : Tells enc Try.prog W 50 k50 ok_S50 :=
  tells_iso (g := fun a => ⟨a.1, a.2.1, a.2.2⟩) (fun _ => rfl) (tells_struct3 Try.underlying50 rfl (by kernel_rfl) (by kernel_rfl) (by kernel_rfl) (by kernel_rfl) (by kernel_rfl) (by kernel_rfl) tells_S48 (tells_int Try.underlying2) (tells_bool Try.underlying4)) (fun a h => by unfold ok_S50; exact h)
end Go.Proofs.Ytgmfaendhnjekaa.PX
