/- The law FnExactCellOk of the given program: called with whatever arguments can be read, its Go code returns true, and each argument reads behind the call as it read before. No condition. -/
import Derived.Test.YthelgojccmchjaaRows
import Derived.Test.YthelgojccmchjaaPXx3
import Derived.Test.YthelgojccmchjaaStFnExactCellOk
import Derived.Test.YthelgojccmchjaaPureFnExactCellOk
import Derived.Test.YthelgojccmchjaaTrods
import Derived.Test.YthelgojccmchjaaTy
import Derived.WalkKit
import Derived.ProofKit
import Derived.OpenShut
import Derived.ShutString
import Derived.ChangeOld
import Derived.Below
import Derived.SizedLaws
import Derived.WideShapes
import Derived.Carry
namespace Go.Proofs.Ythelgojccmchjaa.fnExactCellOk
open Go.ChangeShapes Go.WideShapes Go.ChangeAt Go.RowKit Go.Proofs.YthelgojccmchjaaW.PrintWords Go.Proofs.Ythelgojccmchjaa.Trods Go.Proofs.Ythelgojccmchjaa.PX
open Go.ChangeMaps (open_string shut_string)
set_option linter.unusedVariables false
theorem own : ownKnob Try.prog.godebug = none := by kernel_rfl
theorem laidOut : laidOutB Try.prog = true := by kernel_rfl
set_option maxRecDepth 100000 in
theorem lifted (os : Os) (started : os.Started) (H : Type) (enc : TypeId × Value → H) :
    ReturnsInHanded {} Try.checked os 9 .any (Rows.fnExactCellOkSpec.pre6 enc Try.prog Try.f9 Rows.fnExactCellOkRow.domain false) (Rows.fnExactCellOkSpec.post enc Try.prog Try.f9 false true false false) := by
  refine returnsInHanded_of_change_sized (C := Try.checked) own started (by kernel_rfl) Try.func9
    (ChangeSpec.witness6 (enc := enc) (C := Try.checked) false ⟨#[], #[.agg #[.string ByteArray.empty, .string ByteArray.empty, .int .i64 0, .int .i64 0, .bool false]], []⟩ 8 (by kernel_rfl) (by kernel_rfl) (by kernel_rfl) (by kernel_rfl)) ?_
  intro W base args ds gs before hval0 hW hcnd hsz0 _
  have hval : ∀ (j : Nat) t v, Try.f9.params[j]? = some t → args[j]? = some v → Value.okWide Try.prog W .any base t v := hval0
  have hW' := hW
  obtain ⟨p, q, hA0, hV, rfl, hfz, hnd⟩ := hW
  have hA : DataW.TrodAll enc Try.prog W 0 (fun _ => true) true Try.f9.params.toList args.toList ds p := hA0
  rw [Try.params9] at hA hval
  obtain ⟨v0, vs0, d0, ds0, p0, q0, hargs, rfl, rfl, h0, r0⟩ := trodAll_cons hA
  obtain ⟨rfl, rfl, rfl⟩ := trodAll_nil r0
  obtain rfl : args = #[v0] := by cases args; simp_all
  obtain ⟨rfl, rfl⟩ := trodVars_none hV
  have k0 := h0
  have lt0 : ∀ x ∈ p0, x.block < W.heap.size := by obtain ⟨m, hm⟩ := k0; exact DataW.trod_lt m _ _ _ hm
  obtain ⟨cs0, rfl, hsz0⟩ := okWide_struct Try.underlying35 (hval 0 35 v0 rfl rfl)
  obtain ⟨⟨⟨a0_0, a0_1, a0_2⟩, a0_3, a0_4⟩, hK0, w0⟩ := tells_agg (tells_struct3 Try.underlying35 rfl (by kernel_rfl) (by kernel_rfl) (by kernel_rfl) (by kernel_rfl) (by kernel_rfl) (by kernel_rfl) (tells_struct3 Try.underlying28 rfl (by kernel_rfl) (by kernel_rfl) (by kernel_rfl) (by kernel_rfl) (by kernel_rfl) (by kernel_rfl) (tells_string Try.underlying9) (tells_string Try.underlying9) (tells_int Try.underlying2)) (tells_int Try.underlying2) (tells_bool Try.underlying4)) h0
  obtain ⟨⟨w0_0, w0_1, w0_2⟩, w0_3, _⟩ := w0
  have hE0 : ∃ _u : Unit, cs0.toList = [.string a0_0, .string a0_1, .int .i64 a0_2, .int .i64 a0_3, .bool a0_4] := by
    obtain ⟨_, _, e0, ⟨_, _, rfl, rfl, ⟨_, _, rfl, rfl, rfl⟩⟩, ⟨_, _, rfl, rfl, rfl⟩⟩ := hK0
    exact ⟨(), by simpa using e0⟩
  obtain ⟨_, e0⟩ := hE0
  obtain rfl : cs0 = #[.string a0_0, .string a0_1, .int .i64 a0_2, .int .i64 a0_3, .bool a0_4] := Array.ext' (by simpa using e0)
  obtain ⟨k, h⟩ := Pure.FnExactCellOk a0_0 a0_1 a0_2 a0_3 a0_4 w0_0 w0_1 w0_2 w0_3
  refine (PX.laws_FnExactCellOk.calls k a0_0 a0_1 a0_2 a0_3 a0_4 true W  h).mono ?_
  rintro e W' ⟨rfl, bel0⟩
  have bel := bel0
  exact ⟨_, rfl, _, _, _, [], _, [], hW', trodAll_mk1 (shut_bool Try.underlying4 _), (trodAll_cons_mk (Below.trod laidOut (by kernel_rfl) (of_decide_eq_true (by kernel_rfl)) k0 bel lt0) trodAll_mk0), rfl, bel.frame _, fun h => by cases h⟩
theorem over : Rows.fnExactCellOkRow.holds Try.pinned (OpenSpec.ofChange Rows.fnExactCellOkSpec) :=
  OpenClaim.holds_of_wide 9 Try.f9 rfl rfl rfl rfl rfl rfl rfl ⟨rfl, rfl, rfl, rfl, rfl⟩ rfl rfl rfl rfl rfl (by kernel_rfl) Try.func9 (by kernel_rfl)
    (of_decide_eq_true (by kernel_rfl)) (by unfold Func.isWrapper; first | (rw [if_pos (by decide +kernel)]; kernel_rfl) | (rw [if_neg (by decide +kernel)]; exact ⟨rfl, rfl⟩))
    (fun os started H enc _ => lifted os started H enc)
theorem proved : Rows.FnExactCellOkSaid := over
#print axioms proved
end Go.Proofs.Ythelgojccmchjaa.fnExactCellOk
namespace Go.Proofs.Ythelgojccmchjaa
/-- The row, under a short name, for the claim. -/
theorem fnExactCellOk_holds : Rows.FnExactCellOkSaid := fnExactCellOk.proved
end Go.Proofs.Ythelgojccmchjaa
