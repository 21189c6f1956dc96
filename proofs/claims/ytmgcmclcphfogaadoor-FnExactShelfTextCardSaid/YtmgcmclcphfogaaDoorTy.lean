import Derived.Test.YtmgcmclcphfogaaDoorPXx0
import Derived.Test.YtmgcmclcphfogaaDoorTrods
import Derived.Test.YtmgcmclcphfogaaDoorProg
import Derived.KernelRfl
namespace Go.Proofs.YtmgcmclcphfogaaDoor.PX
open Go.RowKit Go.Proofs.YtmgcmclcphfogaaDoorW.PrintWords Go.Proofs.YtmgcmclcphfogaaDoor.Trods
/-- What is told of a value of struct type 23 that came in. -/
def ok_S23 (x : S23) : Prop := x.f0.size ≤ 9223372036854775807 ∧ x.f1.size ≤ 9223372036854775807 ∧ (Lit.int .i64 x.f2).wf = true
theorem tells_S23 {H : Type} {enc : TypeId × Value → H} {W : World} : Tells enc Tryd.prog W 23 k23 ok_S23 :=
  tells_iso (g := fun a => ⟨a.1, a.2.1, a.2.2⟩) (fun _ => rfl) (tells_struct3 Tryd.underlying23 rfl (by kernel_rfl) (by kernel_rfl) (by kernel_rfl) (by kernel_rfl) (by kernel_rfl) (by kernel_rfl) (tells_string Tryd.underlying9) (tells_string Tryd.underlying9) (tells_int Tryd.underlying2)) (fun a h => by unfold ok_S23; exact h)
/-- What is told of a value of struct type 30 that came in. -/
def ok_S30 (x : S30) : Prop := ok_S23 x.f0 ∧ (Lit.int .i64 x.f1).wf = true ∧ True
theorem tells_S30 {H : Type} {enc : TypeId × Value → H} {W : World} : Tells enc Tryd.prog W 30 k30 ok_S30 :=
  tells_iso (g := fun a => ⟨a.1, a.2.1, a.2.2⟩) (fun _ => rfl) (tells_struct3 Tryd.underlying30 rfl (by kernel_rfl) (by kernel_rfl) (by kernel_rfl) (by kernel_rfl) (by kernel_rfl) (by kernel_rfl) tells_S23 (tells_int Tryd.underlying2) (tells_bool Tryd.underlying4)) (fun a h => by unfold ok_S30; exact h)
end Go.Proofs.YtmgcmclcphfogaaDoor.PX
