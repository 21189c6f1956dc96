/- The law FnExactSame of the given program: called with whatever arguments can be read, its Go code returns true, and each argument reads behind the call as it read before. No condition. -/
import Derived.Test.YthelgojccmchjabRows
import Derived.Test.YthelgojccmchjabPXx4
import Derived.Test.YthelgojccmchjabStFnExactSame
import Derived.Test.YthelgojccmchjabPureFnExactSame
import Derived.Test.YthelgojccmchjabTrods
import Derived.Test.YthelgojccmchjabTy
import Derived.WalkKit
import Derived.ProofKit
import Derived.OpenShut
import Derived.ShutString
import Derived.ChangeOld
import Derived.Below
import Derived.SizedLaws
import Derived.WideShapes
import Derived.Carry
namespace Go.Proofs.Ythelgojccmchjab.fnExactSame
open Go.ChangeShapes Go.WideShapes Go.ChangeAt Go.RowKit Go.Proofs.YthelgojccmchjabW.PrintWords Go.Proofs.Ythelgojccmchjab.Trods Go.Proofs.Ythelgojccmchjab.PX
open Go.ChangeMaps (open_string shut_string)
set_option linter.unusedVariables false
theorem own : ownKnob Try.prog.godebug = none := by kernel_rfl
theorem laidOut : laidOutB Try.prog = true := by kernel_rfl
set_option maxRecDepth 100000 in
theorem lifted (os : Os) (started : os.Started) (H : Type) (enc : TypeId × Value → H) :
    ReturnsInHanded {} Try.checked os 3 .any (Rows.fnExactSameSpec.pre6 enc Try.prog Try.f3 Rows.fnExactSameRow.domain false) (Rows.fnExactSameSpec.post enc Try.prog Try.f3 false true false false) := by
  refine returnsInHanded_of_change_sized (C := Try.checked) own started (by kernel_rfl) Try.func3
    (ChangeSpec.witness6 (enc := enc) (C := Try.checked) false ⟨#[], #[.agg #[.int .i64 0, .slice none 0 0, .int .i64 0], .agg #[.int .i64 0, .slice none 0 0, .int .i64 0]], []⟩ 8 (by kernel_rfl) (by kernel_rfl) (by kernel_rfl) (by kernel_rfl)) ?_
  intro W base args ds gs before hval0 hW hcnd hsz0 _
  have hval : ∀ (j : Nat) t v, Try.f3.params[j]? = some t → args[j]? = some v → Value.okWide Try.prog W .any base t v := hval0
  have hW' := hW
  obtain ⟨p, q, hA0, hV, rfl, hfz, hnd⟩ := hW
  have hA : DataW.TrodAll enc Try.prog W 0 (fun _ => true) true Try.f3.params.toList args.toList ds p := hA0
  rw [Try.params3] at hA hval
  obtain ⟨v0, vs0, d0, ds0, p0, q0, hargs, rfl, rfl, h0, r0⟩ := trodAll_cons hA
  obtain ⟨v1, vs1, d1, ds1, p1, q1, rfl, rfl, rfl, h1, r1⟩ := trodAll_cons r0
  obtain ⟨rfl, rfl, rfl⟩ := trodAll_nil r1
  obtain rfl : args = #[v0, v1] := by cases args; simp_all
  obtain ⟨rfl, rfl⟩ := trodVars_none hV
  have k0 := h0
  have lt0 : ∀ x ∈ p0, x.block < W.heap.size := by obtain ⟨m, hm⟩ := k0; exact DataW.trod_lt m _ _ _ hm
  obtain ⟨cs0, rfl, hsz0⟩ := okWide_struct Try.underlying24 (hval 0 24 v0 rfl rfl)
  obtain ⟨⟨a0_0, l0_1, a0_2⟩, hK0, w0⟩ := tells_agg (tells_struct3 Try.underlying24 rfl (by kernel_rfl) (by kernel_rfl) (by kernel_rfl) (by kernel_rfl) (by kernel_rfl) (by kernel_rfl) (tells_int Try.underlying2) (tells_slice (e' := 38) Try.underlying22 (by kernel_rfl) tells_S38) (tells_int Try.underlying2)) h0
  obtain ⟨w0_0, w0_1, w0_2⟩ := w0
  have hE0 : ∃ A0_1 c0_1, cs0.toList = [.int .i64 a0_0, .slice A0_1 l0_1.length c0_1, .int .i64 a0_2] ∧ l0_1.length ≤ c0_1 ∧ Kd.C k38 W A0_1 l0_1.length l0_1 := by
    obtain ⟨_, _, e0, rfl, ⟨_, _, rfl, ⟨A0_1, c0_1, rfl, hc0_1, hr0_1⟩, rfl⟩⟩ := hK0
    exact ⟨A0_1, c0_1, by simpa using e0, hc0_1, hr0_1⟩
  obtain ⟨A0_1, c0_1, e0, hc0_1, hr0_1⟩ := hE0
  obtain rfl : cs0 = #[.int .i64 a0_0, .slice A0_1 l0_1.length c0_1, .int .i64 a0_2] := Array.ext' (by simpa using e0)
  have k1 := h1
  have lt1 : ∀ x ∈ p1, x.block < W.heap.size := by obtain ⟨m, hm⟩ := k1; exact DataW.trod_lt m _ _ _ hm
  obtain ⟨cs1, rfl, hsz1⟩ := okWide_struct Try.underlying24 (hval 1 24 v1 rfl rfl)
  obtain ⟨⟨a1_0, l1_1, a1_2⟩, hK1, w1⟩ := tells_agg (tells_struct3 Try.underlying24 rfl (by kernel_rfl) (by kernel_rfl) (by kernel_rfl) (by kernel_rfl) (by kernel_rfl) (by kernel_rfl) (tells_int Try.underlying2) (tells_slice (e' := 38) Try.underlying22 (by kernel_rfl) tells_S38) (tells_int Try.underlying2)) h1
  obtain ⟨w1_0, w1_1, w1_2⟩ := w1
  have hE1 : ∃ A1_1 c1_1, cs1.toList = [.int .i64 a1_0, .slice A1_1 l1_1.length c1_1, .int .i64 a1_2] ∧ l1_1.length ≤ c1_1 ∧ Kd.C k38 W A1_1 l1_1.length l1_1 := by
    obtain ⟨_, _, e1, rfl, ⟨_, _, rfl, ⟨A1_1, c1_1, rfl, hc1_1, hr1_1⟩, rfl⟩⟩ := hK1
    exact ⟨A1_1, c1_1, by simpa using e1, hc1_1, hr1_1⟩
  obtain ⟨A1_1, c1_1, e1, hc1_1, hr1_1⟩ := hE1
  obtain rfl : cs1 = #[.int .i64 a1_0, .slice A1_1 l1_1.length c1_1, .int .i64 a1_2] := Array.ext' (by simpa using e1)
  obtain ⟨k, h⟩ := Pure.FnExactSame a0_0 l0_1 a0_2 a1_0 l1_1 a1_2 w0_0 w0_1 w0_2 w1_0 w1_1 w1_2
  refine (PX.laws_FnExactSame.calls k a0_0 A0_1 c0_1 l0_1 a0_2 a1_0 A1_1 c1_1 l1_1 a1_2 true W hr0_1 hc0_1 hr1_1 hc1_1 h).mono ?_
  rintro e W' ⟨rfl, bel0⟩
  have bel := bel0
  exact ⟨_, rfl, _, _, _, [], _, [], hW', trodAll_mk1 (shut_bool Try.underlying4 _), (trodAll_cons_mk (Below.trod laidOut (by kernel_rfl) (of_decide_eq_true (by kernel_rfl)) k0 bel lt0) (trodAll_cons_mk (Below.trod laidOut (by kernel_rfl) (of_decide_eq_true (by kernel_rfl)) k1 bel lt1) trodAll_mk0)), rfl, bel.frame _, fun h => by cases h⟩
theorem over : Rows.fnExactSameRow.holds Try.pinned (OpenSpec.ofChange Rows.fnExactSameSpec) :=
  OpenClaim.holds_of_wide 3 Try.f3 rfl rfl rfl rfl rfl rfl rfl ⟨rfl, rfl, rfl, rfl, rfl⟩ rfl rfl rfl rfl rfl (by kernel_rfl) Try.func3 (by kernel_rfl)
    (of_decide_eq_true (by kernel_rfl)) (by unfold Func.isWrapper; first | (rw [if_pos (by decide +kernel)]; kernel_rfl) | (rw [if_neg (by decide +kernel)]; exact ⟨rfl, rfl⟩))
    (fun os started H enc _ => lifted os started H enc)
theorem proved : Rows.FnExactSameSaid := over
#print axioms proved
end Go.Proofs.Ythelgojccmchjab.fnExactSame
namespace Go.Proofs.Ythelgojccmchjab
/-- The row, under a short name, for the claim. -/
theorem fnExactSame_holds : Rows.FnExactSameSaid := fnExactSame.proved
end Go.Proofs.Ythelgojccmchjab
