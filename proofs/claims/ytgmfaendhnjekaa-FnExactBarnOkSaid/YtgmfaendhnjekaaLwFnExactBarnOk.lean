/- The law FnExactBarnOk of the given program: called with whatever arguments can be read, its Go code returns true, and each argument reads behind the call as it read before. No condition. -/
import Derived.Test.YtgmfaendhnjekaaRows
import Derived.Test.YtgmfaendhnjekaaPXx14
import Derived.Test.YtgmfaendhnjekaaStFnExactBarnOk
import Derived.Test.YtgmfaendhnjekaaPureFnExactBarnOk
import Derived.Test.YtgmfaendhnjekaaTrods
import Derived.Test.YtgmfaendhnjekaaTy
import Derived.WalkKit
import Derived.ProofKit
import Derived.OpenShut
import Derived.ShutString
import Derived.ChangeOld
import Derived.Below
import Derived.SizedLaws
import Derived.WideShapes
import Derived.Carry
namespace Go.Proofs.Ytgmfaendhnjekaa.fnExactBarnOk
open Go.ChangeShapes Go.WideShapes Go.ChangeAt Go.RowKit Go.Proofs.YtgmfaendhnjekaaW.PrintWords Go.Proofs.Ytgmfaendhnjekaa.Trods Go.Proofs.Ytgmfaendhnjekaa.PX
open Go.ChangeMaps (open_string shut_string)
set_option linter.unusedVariables false
theorem own : ownKnob Try.prog.godebug = none := by kernel_rfl
theorem laidOut : laidOutB Try.prog = true := by kernel_rfl
set_option maxRecDepth 100000 in
theorem lifted (os : Os) (started : os.Started) (H : Type) (enc : TypeId × Value → H) :
    ReturnsInHanded {} Try.checked os 5 .any (Rows.fnExactBarnOkSpec.pre6 enc Try.prog Try.f5 Rows.fnExactBarnOkRow.domain false) (Rows.fnExactBarnOkSpec.post enc Try.prog Try.f5 false true false false) := by
  refine returnsInHanded_of_change_sized (C := Try.checked) own started (by kernel_rfl) Try.func5
    (ChangeSpec.witness6 (enc := enc) (C := Try.checked) false ⟨#[], #[.agg #[.slice none 0 0, .slice none 0 0]], []⟩ 8 (by kernel_rfl) (by kernel_rfl) (by kernel_rfl) (by kernel_rfl)) ?_
  intro W base args ds gs before hval0 hW hcnd hsz0 _
  have hval : ∀ (j : Nat) t v, Try.f5.params[j]? = some t → args[j]? = some v → Value.okWide Try.prog W .any base t v := hval0
  have hW' := hW
  obtain ⟨p, q, hA0, hV, rfl, hfz, hnd⟩ := hW
  have hA : DataW.TrodAll enc Try.prog W 0 (fun _ => true) true Try.f5.params.toList args.toList ds p := hA0
  rw [Try.params5] at hA hval
  obtain ⟨v0, vs0, d0, ds0, p0, q0, hargs, rfl, rfl, h0, r0⟩ := trodAll_cons hA
  obtain ⟨rfl, rfl, rfl⟩ := trodAll_nil r0
  obtain rfl : args = #[v0] := by cases args; simp_all
  obtain ⟨rfl, rfl⟩ := trodVars_none hV
  have k0 := h0
  have lt0 : ∀ x ∈ p0, x.block < W.heap.size := by obtain ⟨m, hm⟩ := k0; exact DataW.trod_lt m _ _ _ hm
  obtain ⟨cs0, rfl, hsz0⟩ := okWide_struct Try.underlying39 (hval 0 39 v0 rfl rfl)
  obtain ⟨⟨l0_0, l0_1⟩, hK0, w0⟩ := tells_agg (tells_struct2 Try.underlying39 rfl (by kernel_rfl) (by kernel_rfl) (by kernel_rfl) (by kernel_rfl) (tells_slice (e' := 50) Try.underlying22 (by kernel_rfl) tells_S50) (tells_slice (e' := 22) Try.underlying37 (by kernel_rfl) (tells_slice (e' := 50) Try.underlying22 (by kernel_rfl) tells_S50))) h0
  obtain ⟨w0_0, w0_1⟩ := w0
  have hE0 : ∃ A0_0 c0_0 A0_1 c0_1, cs0.toList = [.slice A0_0 l0_0.length c0_0, .slice A0_1 l0_1.length c0_1] ∧ l0_0.length ≤ c0_0 ∧ Kd.C k50 W A0_0 l0_0.length l0_0 ∧ l0_1.length ≤ c0_1 ∧ Kd.C (Kd.slice 50 k50) W A0_1 l0_1.length l0_1 := by
    obtain ⟨_, _, e0, ⟨A0_0, c0_0, rfl, hc0_0, hr0_0⟩, ⟨A0_1, c0_1, rfl, hc0_1, hr0_1⟩⟩ := hK0
    exact ⟨A0_0, c0_0, A0_1, c0_1, by simpa using e0, hc0_0, hr0_0, hc0_1, hr0_1⟩
  obtain ⟨A0_0, c0_0, A0_1, c0_1, e0, hc0_0, hr0_0, hc0_1, hr0_1⟩ := hE0
  obtain rfl : cs0 = #[.slice A0_0 l0_0.length c0_0, .slice A0_1 l0_1.length c0_1] := Array.ext' (by simpa using e0)
  obtain ⟨k, h⟩ := Pure.FnExactBarnOk l0_0 l0_1 w0_0 w0_1
  refine (PX.laws_FnExactBarnOk.calls k A0_0 c0_0 l0_0 A0_1 c0_1 l0_1 true W hr0_0 hc0_0 hr0_1 hc0_1 h).mono ?_
  rintro e W' ⟨rfl, bel0⟩
  have bel := bel0
  exact ⟨_, rfl, _, _, _, [], _, [], hW', trodAll_mk1 (shut_bool Try.underlying4 _), (trodAll_cons_mk (Below.trod laidOut (by kernel_rfl) (of_decide_eq_true (by kernel_rfl)) k0 bel lt0) trodAll_mk0), rfl, bel.frame _, fun h => by cases h⟩
theorem over : Rows.fnExactBarnOkRow.holds Try.pinned (OpenSpec.ofChange Rows.fnExactBarnOkSpec) :=
  OpenClaim.holds_of_wide 5 Try.f5 rfl rfl rfl rfl rfl rfl rfl ⟨rfl, rfl, rfl, rfl, rfl⟩ rfl rfl rfl rfl rfl (by kernel_rfl) Try.func5 (by kernel_rfl)
    (of_decide_eq_true (by kernel_rfl)) (by unfold Func.isWrapper; first | (rw [if_pos (by decide +kernel)]; kernel_rfl) | (rw [if_neg (by decide +kernel)]; exact ⟨rfl, rfl⟩))
    (fun os started H enc _ => lifted os started H enc)
theorem proved : Rows.FnExactBarnOkSaid := over
#print axioms proved
end Go.Proofs.Ytgmfaendhnjekaa.fnExactBarnOk
namespace Go.Proofs.Ytgmfaendhnjekaa
/-- The row, under a short name, for the claim. -/
theorem fnExactBarnOk_holds : Rows.FnExactBarnOkSaid := fnExactBarnOk.proved
end Go.Proofs.Ytgmfaendhnjekaa
