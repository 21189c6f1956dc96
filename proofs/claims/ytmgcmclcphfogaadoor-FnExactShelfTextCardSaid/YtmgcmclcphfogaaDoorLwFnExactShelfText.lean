/- The law FnExactShelfText of the given program: called with whatever arguments can be read, its Go code returns true, and each argument reads behind the call as it read before. No condition. -/
import Derived.Test.YtmgcmclcphfogaaDoorRows
import Derived.Test.YtmgcmclcphfogaaDoorPXx10
import Derived.Test.YtmgcmclcphfogaaDoorStFnExactShelfText
import Derived.Test.YtmgcmclcphfogaaDoorPureFnExactShelfText
import Derived.Test.YtmgcmclcphfogaaDoorTrods
import Derived.Test.YtmgcmclcphfogaaDoorTy
import Derived.Test.YtmgcmclcphfogaaDoorLaidW
import Derived.Test.YtmgcmclcphfogaaDoorTie
import Derived.Test.YtmgcmclcphfogaaDoorCards
import Derived.WalkKit
import Derived.ProofKit
import Derived.OpenShut
import Derived.ShutString
import Derived.ChangeOld
import Derived.Below
import Derived.SizedLaws
import Derived.WideShapes
import Derived.Carry
namespace Go.Proofs.YtmgcmclcphfogaaDoor.fnExactShelfText
open Go.ChangeShapes Go.WideShapes Go.ChangeAt Go.RowKit Go.Proofs.YtmgcmclcphfogaaDoorW.PrintWords Go.Proofs.YtmgcmclcphfogaaDoor.Trods Go.Proofs.YtmgcmclcphfogaaDoor.PX
open Go.ChangeMaps (open_string shut_string)
set_option linter.unusedVariables false
theorem own : ownKnob Tryd.prog.godebug = none := by kernel_rfl
theorem laidOut : laidOutB Tryd.prog = true := by kernel_rfl
theorem laidx {W : World} (hL0 : laidMetH Tryd.prog Rows.fnExactShelfTextRow.laid W) (hsh : W.ShapedOpen Tryd.prog) : LaidX true false false false W := by
  rw [MakeChecks.laidMetH_plain _ _ _ (by kernel_rfl)] at hL0
  have hL : laidMet Tryd.prog Rows.fnExactShelfTextRow.laid W := hL0
  unfold Rows.fnExactShelfTextRow at hL
  exact { tab := fun _ => tabOf hL.tail.tail, errS := (fun h => by cases h), errR := (fun h => by cases h), ops := (fun h => by cases h), max := (fun h => by cases h) }
set_option maxRecDepth 100000 in
theorem lifted (os : Os) (started : os.Started) (H : Type) (enc : TypeId × Value → H) :
    ReturnsInHanded {} Tryd.checked os 10 .any (fun w args => (Rows.fnExactShelfTextSpec.pre enc Tryd.prog Tryd.f10 [] false w args ∧ laidMetH Tryd.prog Rows.fnExactShelfTextRow.laid w) ∧ sizedMet enc Tryd.prog Tryd.f10 (OpenSpec.ofChange Rows.fnExactShelfTextSpec) false w args) (Rows.fnExactShelfTextSpec.post enc Tryd.prog Tryd.f10 false true false false) := by
  refine returnsInHanded_of_row (C := Tryd.checked) (s := OpenSpec.ofChange Rows.fnExactShelfTextSpec) (F := fun _ _ _ => 0) (laid := Rows.fnExactShelfTextRow.laid) (conds := []) own started (by kernel_rfl) Tryd.func10
    (ChangeSpec.witness_shaped (enc := enc) (C := Tryd.checked) (os := os) (X := fun w _ => laidMetH Tryd.prog Rows.fnExactShelfTextRow.laid w) false (World.laidAll Tryd.prog os Rows.fnExactShelfTextRow.laid) #[.slice none 0 0] 8 (World.laidAll_os _ _ _) (World.shaped_of_ZipB (by kernel_rfl) (by kernel_rfl)) (by kernel_rfl) (by kernel_rfl) (by kernel_rfl) (by rw [MakeChecks.laidMetH_plain _ _ _ (by kernel_rfl)]; exact laidMet_laidAll _ (by kernel_rfl) (by kernel_rfl))) ?_
  intro W base args ds gs before hval0 hW hcnd _ hsz0 hL0 hsh _
  have hLX := laidx hL0 hsh
  have hval : ∀ (j : Nat) t v, Tryd.f10.params[j]? = some t → args[j]? = some v → Value.okWide Tryd.prog W .any base t v := hval0
  have hW' := hW
  obtain ⟨p, q, hA0, hV, rfl, hfz, hnd⟩ := hW
  have hA : DataW.TrodAll enc Tryd.prog W 0 (fun _ => true) true Tryd.f10.params.toList args.toList ds p := hA0
  rw [Tryd.params10] at hA hval
  obtain ⟨v0, vs0, d0, ds0, p0, q0, hargs, rfl, rfl, h0, r0⟩ := trodAll_cons hA
  obtain ⟨rfl, rfl, rfl⟩ := trodAll_nil r0
  obtain rfl : args = #[v0] := by cases args; simp_all
  obtain ⟨rfl, rfl⟩ := trodVars_none hV
  have k0 := h0
  have lt0 : ∀ x ∈ p0, x.block < W.heap.size := by obtain ⟨m, hm⟩ := k0; exact DataW.trod_lt m _ _ _ hm
  obtain ⟨A0, len0, c0, rfl⟩ := okWide_slice Tryd.underlying56 (hval 0 56 v0 rfl rfl)
  obtain ⟨l0, rfl, hc0, hr0, w0⟩ := tells_row (tells_slice (e' := 30) Tryd.underlying56 (by kernel_rfl) tells_S30) h0
  obtain ⟨k, h⟩ := Pure.FnExactShelfText l0 w0
  refine (PX.laws_FnExactShelfText.calls k A0 c0 l0 true W hLX hr0 hc0 h).mono ?_
  rintro e W' ⟨rfl, bel0⟩
  have bel := bel0
  exact ⟨_, rfl, _, _, _, [], _, [], hW', trodAll_mk1 (shut_bool Tryd.underlying4 _), (trodAll_cons_mk (Below.trod laidOut (by kernel_rfl) (of_decide_eq_true (by kernel_rfl)) k0 bel lt0) trodAll_mk0), rfl, bel.frame _, fun h => by cases h⟩
theorem over : Rows.fnExactShelfTextRow.holds Tryd.pinned (OpenSpec.ofChange Rows.fnExactShelfTextSpec) :=
  OpenClaim.holds_of_wide 10 Tryd.f10 rfl rfl rfl rfl rfl rfl rfl ⟨rfl, rfl, rfl, rfl, rfl⟩ rfl rfl rfl rfl rfl (by kernel_rfl) Tryd.func10 (by kernel_rfl)
    (of_decide_eq_true (by kernel_rfl)) (by unfold Func.isWrapper; first | (rw [if_pos (by decide +kernel)]; kernel_rfl) | (rw [if_neg (by decide +kernel)]; exact ⟨rfl, rfl⟩))
    (fun os started H enc _ => lifted os started H enc)
theorem proved : Rows.FnExactShelfTextSaid := over
theorem carded : Rows.FnExactShelfTextCardSaid :=
  Claim7.holds_tied_plain_at .later [] [.data, .data, .data] true (true, "4330248566579a0b23861dd66051e4ff235e85ae72fd2a5becb5bfa3fe13bb50") true
    proved (fun _ h => by cases h) (by kernel_rfl) (fun _ h => by cases h) fnExactShelfText_row_tie rfl ⟨rfl, rfl⟩ (by kernel_rfl) rfl
    (fun f fn hf hfn => by
      obtain rfl : f = 10 := Option.some.inj ((show Tryd.prog.funcNamed "loop.example/g00526/laws.FnExactShelfText" = some 10 by kernel_rfl).symm.trans hf) |>.symm
      obtain rfl : fn = Tryd.f10 := (Option.some.inj (Tryd.func10.symm.trans hfn)).symm
      exact ⟨by kernel_rfl, fun j t ht => by
        rw [Tryd.params10] at ht
        have hm : t ∈ [56] := by simpa using Array.mem_of_getElem? ht
        have hall : ([56].all fun u => !Tryd.prog.wantsStandIn u) = true := by kernel_rfl
        exact (show Tryd.prog.wantsStandIn t = false by simpa using List.all_eq_true.1 hall t hm)⟩)
    (by kernel_rfl)
#print axioms carded
end Go.Proofs.YtmgcmclcphfogaaDoor.fnExactShelfText
namespace Go.Proofs.YtmgcmclcphfogaaDoor
/-- The row, under a short name, for the claim. -/
theorem fnExactShelfText_holds : Rows.FnExactShelfTextCardSaid := fnExactShelfText.carded
end Go.Proofs.YtmgcmclcphfogaaDoor
