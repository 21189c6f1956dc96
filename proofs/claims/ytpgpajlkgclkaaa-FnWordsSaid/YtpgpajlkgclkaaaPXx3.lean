-- written by printx.py (this session's program) over the kit's print.py, out of the translation.
import Derived.Test.YtpgpajlkgclkaaaPXx0
import Derived.Test.YtpgpajlkgclkaaaPXx1
import Derived.Test.YtpgpajlkgclkaaaPXx2
namespace Go.Proofs.Ytpgpajlkgclkaaa.PX
open Go.RowKit Go.Proofs.YtpgpajlkgclkaaaW.PrintWords Go.Proofs.YtpgpajlkgclkaaaW.PrintLast Go.Proofs.YtpgpajlkgclkaaaW.PrintMore
attribute [local go_sem] max2_int min2_int max_two min_two max_three min_three max_four min_four   -- for this text's walks alone
set_option linter.unusedVariables false
set_option linter.unusedSimpArgs false

/-! ### laws_FnWords: function 3 -/
mutual
def laws_FnWords.j0 : Nat → Int → Int → Int → Int → Bool → Int → Int → Bool → Option (Bool)
  | 0, _, _, _, _, _, _, _, _ => none
  | k + 1, x3, x4, x5, x6, x7, x8, x9, x66 => if x66 = true then (some false) else ((impl_WordOk.f x9).bind fun t228 => (if t228 = true then (if (Int.tmod (wrap64 (x9 - x8)) 4294967296) = 0 then ((impl_WordOk.f x8).bind fun t229 => (if t229 = true then (if x9 = x8 then ((impl_Wrap.f x9).bind fun t230 => (laws_FnWords.j1 k x3 x4 x5 x6 x7 (t230 != x9))) else (laws_FnWords.j1 k x3 x4 x5 x6 x7 true)) else ((impl_Wrap.f x9).bind fun t231 => (laws_FnWords.j1 k x3 x4 x5 x6 x7 (t231 != x9))))) else (laws_FnWords.j1 k x3 x4 x5 x6 x7 true)) else (laws_FnWords.j1 k x3 x4 x5 x6 x7 true)))
def laws_FnWords.j1 : Nat → Int → Int → Int → Int → Bool → Bool → Option (Bool)
  | 0, _, _, _, _, _, _ => none
  | k + 1, x3, x4, x5, x6, x7, x91 => if x91 = true then (some false) else (if x7 = true then (if x3 = 1 then ((impl_Did.f 2 x6 x5).bind fun bt234 => (some (bt234.1 == x4))) else (if x3 = 3 then ((impl_Did.f 3 x5 x4).bind fun bt236 => (some (bt236.1 == x6))) else (if x3 = 4 then ((impl_Did.f 3 x6 x5).bind fun bt238 => ((impl_Did.f 2 x4 bt238.1).bind fun bt240 => (if x4 = (-2147483648) then (if x5 = (-1) then (some true) else (if bt240.1 < x5 then (if bt240.1 > (wrap64 (-x5)) then (some true) else (if bt240.1 < (wrap64 (-x5)) then (some (decide (bt240.1 > x5))) else (some false))) else (if bt240.1 < (wrap64 (-x5)) then (some (decide (bt240.1 > x5))) else (some false)))) else (if bt240.1 < x5 then (if bt240.1 > (wrap64 (-x5)) then (some true) else (if bt240.1 < (wrap64 (-x5)) then (some (decide (bt240.1 > x5))) else (some false))) else (if bt240.1 < (wrap64 (-x5)) then (some (decide (bt240.1 > x5))) else (some false)))))) else ((impl_WordOk.f x6).bind fun t242 => (if t242 = true then (if x3 < 5 then (some true) else (if x6 = 0 then (some true) else (some (x6 == 1)))) else (some false)))))) else (if x6 = 0 then (if x3 < 1 then (some true) else (if x3 > 7 then (some true) else ((impl_WordOk.f x4).bind fun t232 => (if t232 = true then ((impl_WordOk.f x5).bind fun t233 => (if t233 = true then (if x3 = 4 then (some (x5 == 0)) else (some false)) else (some true))) else (some true))))) else (some false)))
end
def laws_FnWords.f (k : Nat) (l0 : List Int) : Option (Bool) := (laws_big.f l0).bind fun t215 => (if t215 = true then (some true) else ((spec_DrawDid.f k l0).bind fun bt216 => ((impl_Did.f bt216.1 bt216.2.1 bt216.2.2).bind fun bt219 => ((spec_DrawWrap.f k l0).bind fun t221 => ((impl_Wrap.f t221).bind fun t222 => ((spec_Did.f k bt216.1 bt216.2.1 bt216.2.2).bind fun bt223 => (if (bt219.2 != bt223.2) = true then (laws_FnWords.j0 k bt216.1 bt216.2.1 bt216.2.2 bt219.1 bt219.2 t221 t222 true) else (if bt219.1 = bt223.1 then ((spec_Wrap.f t221).bind fun t225 => (if t222 = t225 then ((impl_WordOk.f t221).bind fun t226 => ((spec_WordOk.f t221).bind fun t227 => (laws_FnWords.j0 k bt216.1 bt216.2.1 bt216.2.2 bt219.1 bt219.2 t221 t222 (t226 != t227)))) else (laws_FnWords.j0 k bt216.1 bt216.2.1 bt216.2.2 bt219.1 bt219.2 t221 t222 true))) else (laws_FnWords.j0 k bt216.1 bt216.2.1 bt216.2.2 bt219.1 bt219.2 t221 t222 true)))))))))
theorem laws_FnWords.mono_l : ∀ k, (∀ y0 y1 y2 y3 y4 y5 y6 y7, LeO (laws_FnWords.j0 k y0 y1 y2 y3 y4 y5 y6 y7) (laws_FnWords.j0 (k + 1) y0 y1 y2 y3 y4 y5 y6 y7)) ∧ (∀ y0 y1 y2 y3 y4 y5, LeO (laws_FnWords.j1 k y0 y1 y2 y3 y4 y5) (laws_FnWords.j1 (k + 1) y0 y1 y2 y3 y4 y5))
  | 0 => ⟨fun _ _ _ _ _ _ _ _ r h => by simp [laws_FnWords.j0] at h, fun _ _ _ _ _ _ r h => by simp [laws_FnWords.j1] at h⟩
  | k + 1 => by
    obtain ⟨ih0, ih1⟩ := laws_FnWords.mono_l k
    refine ⟨?_, ?_⟩
    · intro y0 y1 y2 y3 y4 y5 y6 y7
      unfold laws_FnWords.j0
      repeat' first
      | (with_reducible exact ih0 _ _ _ _ _ _ _ _)
      | (with_reducible exact ih1 _ _ _ _ _ _)
      | (with_reducible exact spec_Did.mono _ _ _ _)
      | (with_reducible exact spec_DrawDid.mono _ _)
      | (with_reducible exact spec_DrawWrap.mono _ _)
      | (with_reducible exact LeO.refl _)
      | (with_reducible exact LeO.none _)
      | (with_reducible refine LeO.ite ?_ ?_)
      | (with_reducible refine LeO.bind ?_ (fun _ => ?_))
      | exact ih0 _ _ _ _ _ _ _ _
      | exact ih1 _ _ _ _ _ _
      | exact spec_Did.mono _ _ _ _
      | exact spec_DrawDid.mono _ _
      | exact spec_DrawWrap.mono _ _
      | exact LeO.none _
      | refine LeO.ite ?_ ?_
      | refine LeO.bind ?_ (fun _ => ?_)
    · intro y0 y1 y2 y3 y4 y5
      unfold laws_FnWords.j1
      repeat' first
      | (with_reducible exact ih0 _ _ _ _ _ _ _ _)
      | (with_reducible exact ih1 _ _ _ _ _ _)
      | (with_reducible exact spec_Did.mono _ _ _ _)
      | (with_reducible exact spec_DrawDid.mono _ _)
      | (with_reducible exact spec_DrawWrap.mono _ _)
      | (with_reducible exact LeO.refl _)
      | (with_reducible exact LeO.none _)
      | (with_reducible refine LeO.ite ?_ ?_)
      | (with_reducible refine LeO.bind ?_ (fun _ => ?_))
      | exact ih0 _ _ _ _ _ _ _ _
      | exact ih1 _ _ _ _ _ _
      | exact spec_Did.mono _ _ _ _
      | exact spec_DrawDid.mono _ _
      | exact spec_DrawWrap.mono _ _
      | exact LeO.none _
      | refine LeO.ite ?_ ?_
      | refine LeO.bind ?_ (fun _ => ?_)
theorem laws_FnWords.mono : ∀ a0 k, LeO (laws_FnWords.f k a0) (laws_FnWords.f (k + 1) a0) := by
  intro a0 k
  obtain ⟨ih0, ih1⟩ := laws_FnWords.mono_l k
  unfold laws_FnWords.f
  repeat' first
      | (with_reducible exact ih0 _ _ _ _ _ _ _ _)
      | (with_reducible exact ih1 _ _ _ _ _ _)
      | (with_reducible exact spec_Did.mono _ _ _ _)
      | (with_reducible exact spec_DrawDid.mono _ _)
      | (with_reducible exact spec_DrawWrap.mono _ _)
      | (with_reducible exact LeO.refl _)
      | (with_reducible exact LeO.none _)
      | (with_reducible refine LeO.ite ?_ ?_)
      | (with_reducible refine LeO.bind ?_ (fun _ => ?_))
      | exact ih0 _ _ _ _ _ _ _ _
      | exact ih1 _ _ _ _ _ _
      | exact spec_Did.mono _ _ _ _
      | exact spec_DrawDid.mono _ _
      | exact spec_DrawWrap.mono _ _
      | exact LeO.none _
      | refine LeO.ite ?_ ?_
      | refine LeO.bind ?_ (fun _ => ?_)
set_option maxHeartbeats 8000000 in
set_option maxRecDepth 100000 in
theorem laws_FnWords.calls (k : Nat) (A0 : Option Addr) (c0 : Nat) (l0 : List Int) (r : Bool) (w : World) (hr0 : Kd.C (Kd.int .u8) w A0 l0.length l0) (hc0 : l0.length ≤ c0) (h : laws_FnWords.f k l0 = some r) :
    Calls Try.prog 3 #[.slice A0 l0.length c0] w fun e w' => e = .returned (.bool r) ∧ Below w.heap.size w w' := by
  have HR0 := Aside0.mk hr0
  have HC0 := Aside0.mk hc0
  clear hr0 hc0
  have HB := Aside0.mk (Below.refl w.heap.size w)
  have H : ((laws_big.f l0).bind fun t215 => (if t215 = true then (some true) else ((spec_DrawDid.f k l0).bind fun bt216 => ((impl_Did.f bt216.1 bt216.2.1 bt216.2.2).bind fun bt219 => ((spec_DrawWrap.f k l0).bind fun t221 => ((impl_Wrap.f t221).bind fun t222 => ((spec_Did.f k bt216.1 bt216.2.1 bt216.2.2).bind fun bt223 => (if (bt219.2 != bt223.2) = true then (laws_FnWords.j0 k bt216.1 bt216.2.1 bt216.2.2 bt219.1 bt219.2 t221 t222 true) else (if bt219.1 = bt223.1 then ((spec_Wrap.f t221).bind fun t225 => (if t222 = t225 then ((impl_WordOk.f t221).bind fun t226 => ((spec_WordOk.f t221).bind fun t227 => (laws_FnWords.j0 k bt216.1 bt216.2.1 bt216.2.2 bt219.1 bt219.2 t221 t222 (t226 != t227)))) else (laws_FnWords.j0 k bt216.1 bt216.2.1 bt216.2.2 bt219.1 bt219.2 t221 t222 true))) else (laws_FnWords.j0 k bt216.1 bt216.2.1 bt216.2.2 bt219.1 bt219.2 t221 t222 true)))))))))) = some r := h
  clear h
  replace H := Option.bind_eq_some_iff.mp H
  obtain ⟨t215, A20, H⟩ := H
  replace H : (if t215 = true then (some true) else ((spec_DrawDid.f k l0).bind fun bt216 => ((impl_Did.f bt216.1 bt216.2.1 bt216.2.2).bind fun bt219 => ((spec_DrawWrap.f k l0).bind fun t221 => ((impl_Wrap.f t221).bind fun t222 => ((spec_Did.f k bt216.1 bt216.2.1 bt216.2.2).bind fun bt223 => (if (bt219.2 != bt223.2) = true then (laws_FnWords.j0 k bt216.1 bt216.2.1 bt216.2.2 bt219.1 bt219.2 t221 t222 true) else (if bt219.1 = bt223.1 then ((spec_Wrap.f t221).bind fun t225 => (if t222 = t225 then ((impl_WordOk.f t221).bind fun t226 => ((spec_WordOk.f t221).bind fun t227 => (laws_FnWords.j0 k bt216.1 bt216.2.1 bt216.2.2 bt219.1 bt219.2 t221 t222 (t226 != t227)))) else (laws_FnWords.j0 k bt216.1 bt216.2.1 bt216.2.2 bt219.1 bt219.2 t221 t222 true))) else (laws_FnWords.j0 k bt216.1 bt216.2.1 bt216.2.2 bt219.1 bt219.2 t221 t222 true))))))))) = some r := H
  have A2 := Aside0.mk A20
  clear A20
  by_cases c3 : t215 = true
  · subst c3
    have H1 : (some true) = some r := by rw [if_pos rfl] at H; exact H
    clear H
    have H := H1
    clear H1
    obtain rfl := Option.some.inj H
    go_enter Try.func3, Try.ntmps3
    go_wp2_with (first | ((with_reducible refine gate_callee (f := 4) rfl ?_); refine goesL_ (some 21) rfl rfl Try.func4 (by kernel_rfl) rfl #[.slice A0 l0.length c0] rfl (by (try simp only [List.map_toArray, List.map_cons, List.map_nil]); first | done | rfl | (simp only [List.length_drop, List.length_take]; rfl)) ?_; (with_reducible refine (laws_big.calls _ _ l0 true _ ?side1 ?side2 A2.out).mono ?_); (case side1 => repeat (first | exact HR0.out | (with_reducible refine Kd.C_alloc ?_ _) | (with_reducible refine Kd.C_drewN ?_ _) | (with_reducible refine Kd.C_drew ?_))); (case side2 => exact HC0.out); rintro e w' ⟨rfl, ⟨nd, rfl⟩⟩; refine ⟨_, rfl, ?_⟩))
    go_ret
    exact ⟨by first | rfl | (simp [errW_none, errW_some] <;> rfl) | (simp [*, errW_none, errW_some] <;> rfl), by repeat (first | (with_reducible first | exact HB.out | apply below_alloc | apply pw_below_drewN | apply below_drew1) | exact HB.out)⟩
  · replace c3 := Bool.eq_false_iff.mpr c3
    subst c3
    have H1 : ((spec_DrawDid.f k l0).bind fun bt216 => ((impl_Did.f bt216.1 bt216.2.1 bt216.2.2).bind fun bt219 => ((spec_DrawWrap.f k l0).bind fun t221 => ((impl_Wrap.f t221).bind fun t222 => ((spec_Did.f k bt216.1 bt216.2.1 bt216.2.2).bind fun bt223 => (if (bt219.2 != bt223.2) = true then (laws_FnWords.j0 k bt216.1 bt216.2.1 bt216.2.2 bt219.1 bt219.2 t221 t222 true) else (if bt219.1 = bt223.1 then ((spec_Wrap.f t221).bind fun t225 => (if t222 = t225 then ((impl_WordOk.f t221).bind fun t226 => ((spec_WordOk.f t221).bind fun t227 => (laws_FnWords.j0 k bt216.1 bt216.2.1 bt216.2.2 bt219.1 bt219.2 t221 t222 (t226 != t227)))) else (laws_FnWords.j0 k bt216.1 bt216.2.1 bt216.2.2 bt219.1 bt219.2 t221 t222 true))) else (laws_FnWords.j0 k bt216.1 bt216.2.1 bt216.2.2 bt219.1 bt219.2 t221 t222 true)))))))) = some r := by rw [if_neg (show ¬ (false = true) by decide)] at H; exact H
    clear H
    have H := H1
    clear H1
    replace H := Option.bind_eq_some_iff.mp H
    obtain ⟨⟨t216, t217, t218⟩, A40, H⟩ := H
    replace H : ((impl_Did.f t216 t217 t218).bind fun bt219 => ((spec_DrawWrap.f k l0).bind fun t221 => ((impl_Wrap.f t221).bind fun t222 => ((spec_Did.f k t216 t217 t218).bind fun bt223 => (if (bt219.2 != bt223.2) = true then (laws_FnWords.j0 k t216 t217 t218 bt219.1 bt219.2 t221 t222 true) else (if bt219.1 = bt223.1 then ((spec_Wrap.f t221).bind fun t225 => (if t222 = t225 then ((impl_WordOk.f t221).bind fun t226 => ((spec_WordOk.f t221).bind fun t227 => (laws_FnWords.j0 k t216 t217 t218 bt219.1 bt219.2 t221 t222 (t226 != t227)))) else (laws_FnWords.j0 k t216 t217 t218 bt219.1 bt219.2 t221 t222 true))) else (laws_FnWords.j0 k t216 t217 t218 bt219.1 bt219.2 t221 t222 true))))))) = some r := H
    have A4 := Aside0.mk A40
    clear A40
    replace H := Option.bind_eq_some_iff.mp H
    obtain ⟨⟨t219, t220⟩, A50, H⟩ := H
    replace H : ((spec_DrawWrap.f k l0).bind fun t221 => ((impl_Wrap.f t221).bind fun t222 => ((spec_Did.f k t216 t217 t218).bind fun bt223 => (if (t220 != bt223.2) = true then (laws_FnWords.j0 k t216 t217 t218 t219 t220 t221 t222 true) else (if t219 = bt223.1 then ((spec_Wrap.f t221).bind fun t225 => (if t222 = t225 then ((impl_WordOk.f t221).bind fun t226 => ((spec_WordOk.f t221).bind fun t227 => (laws_FnWords.j0 k t216 t217 t218 t219 t220 t221 t222 (t226 != t227)))) else (laws_FnWords.j0 k t216 t217 t218 t219 t220 t221 t222 true))) else (laws_FnWords.j0 k t216 t217 t218 t219 t220 t221 t222 true)))))) = some r := H
    have A5 := Aside0.mk A50
    clear A50
    replace H := Option.bind_eq_some_iff.mp H
    obtain ⟨t221, A60, H⟩ := H
    replace H : ((impl_Wrap.f t221).bind fun t222 => ((spec_Did.f k t216 t217 t218).bind fun bt223 => (if (t220 != bt223.2) = true then (laws_FnWords.j0 k t216 t217 t218 t219 t220 t221 t222 true) else (if t219 = bt223.1 then ((spec_Wrap.f t221).bind fun t225 => (if t222 = t225 then ((impl_WordOk.f t221).bind fun t226 => ((spec_WordOk.f t221).bind fun t227 => (laws_FnWords.j0 k t216 t217 t218 t219 t220 t221 t222 (t226 != t227)))) else (laws_FnWords.j0 k t216 t217 t218 t219 t220 t221 t222 true))) else (laws_FnWords.j0 k t216 t217 t218 t219 t220 t221 t222 true))))) = some r := H
    have A6 := Aside0.mk A60
    clear A60
    replace H := Option.bind_eq_some_iff.mp H
    obtain ⟨t222, A70, H⟩ := H
    replace H : ((spec_Did.f k t216 t217 t218).bind fun bt223 => (if (t220 != bt223.2) = true then (laws_FnWords.j0 k t216 t217 t218 t219 t220 t221 t222 true) else (if t219 = bt223.1 then ((spec_Wrap.f t221).bind fun t225 => (if t222 = t225 then ((impl_WordOk.f t221).bind fun t226 => ((spec_WordOk.f t221).bind fun t227 => (laws_FnWords.j0 k t216 t217 t218 t219 t220 t221 t222 (t226 != t227)))) else (laws_FnWords.j0 k t216 t217 t218 t219 t220 t221 t222 true))) else (laws_FnWords.j0 k t216 t217 t218 t219 t220 t221 t222 true)))) = some r := H
    have A7 := Aside0.mk A70
    clear A70
    replace H := Option.bind_eq_some_iff.mp H
    obtain ⟨⟨t223, t224⟩, A80, H⟩ := H
    replace H : (if (t220 != t224) = true then (laws_FnWords.j0 k t216 t217 t218 t219 t220 t221 t222 true) else (if t219 = t223 then ((spec_Wrap.f t221).bind fun t225 => (if t222 = t225 then ((impl_WordOk.f t221).bind fun t226 => ((spec_WordOk.f t221).bind fun t227 => (laws_FnWords.j0 k t216 t217 t218 t219 t220 t221 t222 (t226 != t227)))) else (laws_FnWords.j0 k t216 t217 t218 t219 t220 t221 t222 true))) else (laws_FnWords.j0 k t216 t217 t218 t219 t220 t221 t222 true))) = some r := H
    have A8 := Aside0.mk A80
    clear A80
    have HC9 := Aside0.mk H
    clear H
    go_enter Try.func3, Try.ntmps3
    go_upto_region 8 with (first | ((with_reducible refine gate_callee (f := 4) rfl ?_); refine goesL_ (some 21) rfl rfl Try.func4 (by kernel_rfl) rfl #[.slice A0 l0.length c0] rfl (by (try simp only [List.map_toArray, List.map_cons, List.map_nil]); first | done | rfl | (simp only [List.length_drop, List.length_take]; rfl)) ?_; (with_reducible refine (laws_big.calls _ _ l0 false _ ?side1 ?side2 A2.out).mono ?_); (case side1 => repeat (first | exact HR0.out | (with_reducible refine Kd.C_alloc ?_ _) | (with_reducible refine Kd.C_drewN ?_ _) | (with_reducible refine Kd.C_drew ?_))); (case side2 => exact HC0.out); rintro e w' ⟨rfl, ⟨nd, rfl⟩⟩; refine ⟨_, rfl, ?_⟩) | ((with_reducible refine gate_callee (f := 5) rfl ?_); refine goesL_ (some 24) rfl rfl Try.func5 (by kernel_rfl) rfl #[.slice A0 l0.length c0] rfl (by (try simp only [List.map_toArray, List.map_cons, List.map_nil]); first | done | rfl | (simp only [List.length_drop, List.length_take]; rfl)) ?_; (with_reducible refine (spec_DrawDid.calls k _ _ l0 t216 t217 t218 _ ?side1 ?side2 A4.out).mono ?_); (case side1 => repeat (first | exact HR0.out | (with_reducible refine Kd.C_alloc ?_ _) | (with_reducible refine Kd.C_drewN ?_ _) | (with_reducible refine Kd.C_drew ?_))); (case side2 => exact HC0.out); rintro e w10 ⟨rfl, hb⟩; refine ⟨_, rfl, ?_⟩; have n0_ := Aside0.mk (below_step (by repeat (first | (with_reducible first | exact HB.out | apply below_alloc | apply pw_below_drewN | apply below_drew1) | exact HB.out)) hb); clear HB; have HB := n0_; clear n0_; (try clear hb); (try clear hb2); (try clear hk); (try clear hi)) | ((with_reducible refine gate_callee (f := 6) rfl ?_); refine goesL_ (some 32) rfl rfl Try.func6 (by kernel_rfl) rfl #[.int .i64 t216, .int .i64 t217, .int .i64 t218] rfl (by (try simp only [List.map_toArray, List.map_cons, List.map_nil]); first | done | rfl | (simp only [List.length_drop, List.length_take]; rfl)) ?_; (with_reducible refine (impl_Did.calls t216 t217 t218 t219 t220 _ A5.out).mono ?_); rintro e w' ⟨rfl, ⟨nd, rfl⟩⟩; refine ⟨_, rfl, ?_⟩) | ((with_reducible refine gate_callee (f := 7) rfl ?_); refine goesL_ (some 36) rfl rfl Try.func7 (by kernel_rfl) rfl #[.slice A0 l0.length c0] rfl (by (try simp only [List.map_toArray, List.map_cons, List.map_nil]); first | done | rfl | (simp only [List.length_drop, List.length_take]; rfl)) ?_; (with_reducible refine (spec_DrawWrap.calls k _ _ l0 t221 _ ?side1 ?side2 A6.out).mono ?_); (case side1 => repeat (first | exact (Kd.C_below HR0.out (by repeat (first | (with_reducible first | exact HB.out | apply below_alloc | apply pw_below_drewN | apply below_drew1) | exact HB.out))) | (with_reducible refine Kd.C_alloc ?_ _) | (with_reducible refine Kd.C_drewN ?_ _) | (with_reducible refine Kd.C_drew ?_))); (case side2 => exact HC0.out); rintro e w11 ⟨rfl, hb⟩; refine ⟨_, rfl, ?_⟩; have n0_ := Aside0.mk (below_step (by repeat (first | (with_reducible first | exact HB.out | apply below_alloc | apply pw_below_drewN | apply below_drew1) | exact HB.out)) hb); clear HB; have HB := n0_; clear n0_; (try clear hb); (try clear hb2); (try clear hk); (try clear hi)) | ((with_reducible refine gate_callee (f := 8) rfl ?_); refine goesL_ (some 38) rfl rfl Try.func8 (by kernel_rfl) rfl #[.int .i64 t221] rfl (by (try simp only [List.map_toArray, List.map_cons, List.map_nil]); first | done | rfl | (simp only [List.length_drop, List.length_take]; rfl)) ?_; (with_reducible refine (impl_Wrap.calls t221 t222 _ A7.out).mono ?_); rintro e w' ⟨rfl, ⟨nd, rfl⟩⟩; refine ⟨_, rfl, ?_⟩) | ((with_reducible refine gate_callee (f := 9) rfl ?_); refine goesL_ (some 43) rfl rfl Try.func9 (by kernel_rfl) rfl #[.int .i64 t216, .int .i64 t217, .int .i64 t218] rfl (by (try simp only [List.map_toArray, List.map_cons, List.map_nil]); first | done | rfl | (simp only [List.length_drop, List.length_take]; rfl)) ?_; (with_reducible refine (spec_Did.calls k t216 t217 t218 t223 t224 _ A8.out).mono ?_); rintro e w' ⟨rfl, ⟨nd, rfl⟩⟩; refine ⟨_, rfl, ?_⟩))
    (try simp only [Act.put, List.setIfInBounds_toArray, List.set_cons_zero, List.set_cons_succ])
    go_cut [66] (fun v66 wc => ∃ (kq : Nat) (x66_8 : Bool), v66 = .bool x66_8 ∧ Aside0 (laws_FnWords.j0 kq t216 t217 t218 t219 t220 t221 t222 x66_8 = some r) ∧ Aside0 (kq ≤ k) ∧ Aside0 (Below w.heap.size w wc))
    case first =>
      have H := HC9.out
      clear HC9
      by_cases c12 : (t220 != t224) = true
      · rw [if_pos c12] at H
        have c12b0 : (t220 != t224) = true := c12
        (try (have c12b1 : decide (t220 = t224) = false := by simpa using c12))
        (try (have c12b2 : (t220 == t224) = false := by simpa using c12))
        (try (have c12b3 : ¬ (t220 = t224) := by simpa using c12))
        clear c12
        (first | rw [c12b0] | (simp only [i64_w, i32_w]; rw [c12b0]) | skip)
        have H' := Aside0.mk H
        clear H
        go_wp2
        go_meet
        case rel => exact ⟨_, (true), (by first | rfl | (simp; done) | (simp [*]; done)), H', ⟨by first | omega | exact Nat.le_refl _⟩, ⟨by repeat (first | (with_reducible first | exact HB.out | apply below_alloc | apply pw_below_drewN | apply below_drew1) | exact HB.out)⟩⟩
      · rw [if_neg c12] at H
        have c12b0 : (t220 != t224) = false := by simpa using c12
        (try (have c12b1 : decide (t220 = t224) = true := by simpa using c12))
        (try (have c12b2 : (t220 == t224) = true := by simpa using c12))
        clear c12
        (first | rw [c12b0] | (simp only [i64_w, i32_w]; rw [c12b0]) | skip)
        by_cases c13 : t219 = t223
        · rw [if_pos c13] at H
          have c13b0 : (t219 == t223) = true := beq_iff_eq.mpr c13
          have c13b1 : (t219 != t223) = false := bne_eq_false_iff_eq.mpr c13
          clear c13
          replace H := Option.bind_eq_some_iff.mp H
          obtain ⟨t225, A140, H⟩ := H
          replace H : (if t222 = t225 then ((impl_WordOk.f t221).bind fun t226 => ((spec_WordOk.f t221).bind fun t227 => (laws_FnWords.j0 k t216 t217 t218 t219 t220 t221 t222 (t226 != t227)))) else (laws_FnWords.j0 k t216 t217 t218 t219 t220 t221 t222 true)) = some r := H
          have A14 := Aside0.mk A140
          clear A140
          by_cases c15 : t222 = t225
          · rw [if_pos c15] at H
            have c15b0 : (t222 == t225) = true := beq_iff_eq.mpr c15
            have c15b1 : (t222 != t225) = false := bne_eq_false_iff_eq.mpr c15
            clear c15
            replace H := Option.bind_eq_some_iff.mp H
            obtain ⟨t226, A160, H⟩ := H
            replace H : ((spec_WordOk.f t221).bind fun t227 => (laws_FnWords.j0 k t216 t217 t218 t219 t220 t221 t222 (t226 != t227))) = some r := H
            have A16 := Aside0.mk A160
            clear A160
            replace H := Option.bind_eq_some_iff.mp H
            obtain ⟨t227, A170, H⟩ := H
            replace H : (laws_FnWords.j0 k t216 t217 t218 t219 t220 t221 t222 (t226 != t227)) = some r := H
            have A17 := Aside0.mk A170
            clear A170
            have H' := Aside0.mk H
            clear H
            go_wp2_with (first | (go_at_call 10; (with_reducible refine (spec_Wrap.calls t221 t225 _ A14.out).mono ?_); rintro e w' ⟨rfl, ⟨nd, rfl⟩⟩) | (go_at_call 11; (with_reducible refine (impl_WordOk.calls t221 t226 _ A16.out).mono ?_); rintro e w' ⟨rfl, ⟨nd, rfl⟩⟩) | (go_at_call 12; (with_reducible refine (spec_WordOk.calls t221 t227 _ A17.out).mono ?_); rintro e w' ⟨rfl, ⟨nd, rfl⟩⟩))
            go_meet
            case rel => exact ⟨_, ((t226 != t227)), (by first | rfl | (simp; done) | (simp [*]; done)), H', ⟨by first | omega | exact Nat.le_refl _⟩, ⟨by repeat (first | (with_reducible first | exact HB.out | apply below_alloc | apply pw_below_drewN | apply below_drew1) | exact HB.out)⟩⟩
          · rw [if_neg c15] at H
            have c15b0 : (t222 == t225) = false := beq_eq_false_iff_ne.mpr c15
            have c15b1 : (t222 != t225) = true := bne_iff_ne.mpr c15
            have H' := Aside0.mk H
            clear H
            go_wp2_with (first | (go_at_call 10; (with_reducible refine (spec_Wrap.calls t221 t225 _ A14.out).mono ?_); rintro e w' ⟨rfl, ⟨nd, rfl⟩⟩))
            go_meet
            case rel => exact ⟨_, (true), (by first | rfl | (simp; done) | (simp [*]; done)), H', ⟨by first | omega | exact Nat.le_refl _⟩, ⟨by repeat (first | (with_reducible first | exact HB.out | apply below_alloc | apply pw_below_drewN | apply below_drew1) | exact HB.out)⟩⟩
        · rw [if_neg c13] at H
          have c13b0 : (t219 == t223) = false := beq_eq_false_iff_ne.mpr c13
          have c13b1 : (t219 != t223) = true := bne_iff_ne.mpr c13
          have H' := Aside0.mk H
          clear H
          go_wp2
          go_meet
          case rel => exact ⟨_, (true), (by first | rfl | (simp; done) | (simp [*]; done)), H', ⟨by first | omega | exact Nat.le_refl _⟩, ⟨by repeat (first | (with_reducible first | exact HB.out | apply below_alloc | apply pw_below_drewN | apply below_drew1) | exact HB.out)⟩⟩
    case rest =>
      clear HC9
      try clear c1
      try clear p2
      try clear c3
      try clear c4
      try clear c5
      try clear c6
      try clear c7
      try clear c8
      try clear c9
      try clear c12
      try clear c12b0
      try clear c12b1
      try clear c12b2
      try clear c13
      try clear c13b0
      try clear c13b1
      try clear c15
      try clear c15b0
      try clear c15b1
      obtain ⟨kq, x66_8, rfl, HA, HJ8, HB⟩ := hcut
      cases kq with
      | zero => exact absurd HA.out (by simp [laws_FnWords.j0])
      | succ kj8 =>
        have H := HA.out
        clear HA
        simp only [laws_FnWords.j0] at H
        by_cases c18 : x66_8 = true
        · subst c18
          have H1 : (some false) = some r := by rw [if_pos rfl] at H; exact H
          clear H
          have H := H1
          clear H1
          obtain rfl := Option.some.inj H
          go_wp2
          go_ret
          exact ⟨by first | rfl | (simp [errW_none, errW_some] <;> rfl) | (simp [*, errW_none, errW_some] <;> rfl), by repeat (first | (with_reducible first | exact HB.out | apply below_alloc | apply pw_below_drewN | apply below_drew1) | exact HB.out)⟩
        · replace c18 := Bool.eq_false_iff.mpr c18
          subst c18
          have H1 : ((impl_WordOk.f t222).bind fun t228 => (if t228 = true then (if (Int.tmod (wrap64 (t222 - t221)) 4294967296) = 0 then ((impl_WordOk.f t221).bind fun t229 => (if t229 = true then (if t222 = t221 then ((impl_Wrap.f t222).bind fun t230 => (laws_FnWords.j1 kj8 t216 t217 t218 t219 t220 (t230 != t222))) else (laws_FnWords.j1 kj8 t216 t217 t218 t219 t220 true)) else ((impl_Wrap.f t222).bind fun t231 => (laws_FnWords.j1 kj8 t216 t217 t218 t219 t220 (t231 != t222))))) else (laws_FnWords.j1 kj8 t216 t217 t218 t219 t220 true)) else (laws_FnWords.j1 kj8 t216 t217 t218 t219 t220 true))) = some r := by rw [if_neg (show ¬ (false = true) by decide)] at H; exact H
          clear H
          have H := H1
          clear H1
          have HC19 := Aside0.mk H
          clear H
          go_upto_region 10 with (fail)
          go_cut [91] (fun v91 wc => ∃ (kq : Nat) (x91_18 : Bool), v91 = .bool x91_18 ∧ Aside0 (laws_FnWords.j1 kq t216 t217 t218 t219 t220 x91_18 = some r) ∧ Aside0 (kq ≤ kj8) ∧ Aside0 (Below w.heap.size w wc))
          case first =>
            have H := HC19.out
            clear HC19
            replace H := Option.bind_eq_some_iff.mp H
            obtain ⟨t228, A200, H⟩ := H
            replace H : (if t228 = true then (if (Int.tmod (wrap64 (t222 - t221)) 4294967296) = 0 then ((impl_WordOk.f t221).bind fun t229 => (if t229 = true then (if t222 = t221 then ((impl_Wrap.f t222).bind fun t230 => (laws_FnWords.j1 kj8 t216 t217 t218 t219 t220 (t230 != t222))) else (laws_FnWords.j1 kj8 t216 t217 t218 t219 t220 true)) else ((impl_Wrap.f t222).bind fun t231 => (laws_FnWords.j1 kj8 t216 t217 t218 t219 t220 (t231 != t222))))) else (laws_FnWords.j1 kj8 t216 t217 t218 t219 t220 true)) else (laws_FnWords.j1 kj8 t216 t217 t218 t219 t220 true)) = some r := H
            have A20 := Aside0.mk A200
            clear A200
            by_cases c21 : t228 = true
            · subst c21
              have H1 : (if (Int.tmod (wrap64 (t222 - t221)) 4294967296) = 0 then ((impl_WordOk.f t221).bind fun t229 => (if t229 = true then (if t222 = t221 then ((impl_Wrap.f t222).bind fun t230 => (laws_FnWords.j1 kj8 t216 t217 t218 t219 t220 (t230 != t222))) else (laws_FnWords.j1 kj8 t216 t217 t218 t219 t220 true)) else ((impl_Wrap.f t222).bind fun t231 => (laws_FnWords.j1 kj8 t216 t217 t218 t219 t220 (t231 != t222))))) else (laws_FnWords.j1 kj8 t216 t217 t218 t219 t220 true)) = some r := by rw [if_pos rfl] at H; exact H
              clear H
              have H := H1
              clear H1
              by_cases c22 : (Int.tmod (wrap64 (t222 - t221)) 4294967296) = 0
              · rw [if_pos c22] at H
                have c22b0 : ((Int.tmod (wrap64 (t222 - t221)) 4294967296) == 0) = true := beq_iff_eq.mpr c22
                have c22b1 : ((Int.tmod (wrap64 (t222 - t221)) 4294967296) != 0) = false := bne_eq_false_iff_eq.mpr c22
                clear c22
                (first | rw [c22b0] | (simp only [i64_w, i32_w]; rw [c22b0]) | skip)
                replace H := Option.bind_eq_some_iff.mp H
                obtain ⟨t229, A230, H⟩ := H
                replace H : (if t229 = true then (if t222 = t221 then ((impl_Wrap.f t222).bind fun t230 => (laws_FnWords.j1 kj8 t216 t217 t218 t219 t220 (t230 != t222))) else (laws_FnWords.j1 kj8 t216 t217 t218 t219 t220 true)) else ((impl_Wrap.f t222).bind fun t231 => (laws_FnWords.j1 kj8 t216 t217 t218 t219 t220 (t231 != t222)))) = some r := H
                have A23 := Aside0.mk A230
                clear A230
                by_cases c24 : t229 = true
                · subst c24
                  have H1 : (if t222 = t221 then ((impl_Wrap.f t222).bind fun t230 => (laws_FnWords.j1 kj8 t216 t217 t218 t219 t220 (t230 != t222))) else (laws_FnWords.j1 kj8 t216 t217 t218 t219 t220 true)) = some r := by rw [if_pos rfl] at H; exact H
                  clear H
                  have H := H1
                  clear H1
                  by_cases c25 : t222 = t221
                  · rw [if_pos c25] at H
                    have c25b0 : (t222 == t221) = true := beq_iff_eq.mpr c25
                    have c25b1 : (t222 != t221) = false := bne_eq_false_iff_eq.mpr c25
                    clear c25
                    replace H := Option.bind_eq_some_iff.mp H
                    obtain ⟨t230, A260, H⟩ := H
                    replace H : (laws_FnWords.j1 kj8 t216 t217 t218 t219 t220 (t230 != t222)) = some r := H
                    have A26 := Aside0.mk A260
                    clear A260
                    have H' := Aside0.mk H
                    clear H
                    go_wp2_with (first | ((with_reducible refine gate_callee (f := 11) rfl ?_); refine goesL_ (some 68) rfl rfl Try.func11 (by kernel_rfl) rfl #[.int .i64 t222] rfl (by (try simp only [List.map_toArray, List.map_cons, List.map_nil]); first | done | rfl | (simp only [List.length_drop, List.length_take]; rfl)) ?_; (with_reducible refine (impl_WordOk.calls t222 true _ A20.out).mono ?_); rintro e w' ⟨rfl, ⟨nd, rfl⟩⟩; refine ⟨_, rfl, ?_⟩) | (go_at_call 11; (with_reducible refine (impl_WordOk.calls t221 true _ A23.out).mono ?_); rintro e w' ⟨rfl, ⟨nd, rfl⟩⟩) | (go_at_call 8; (with_reducible refine (impl_Wrap.calls t222 t230 _ A26.out).mono ?_); rintro e w' ⟨rfl, ⟨nd, rfl⟩⟩))
                    go_meet
                    case rel => exact ⟨_, ((t230 != t222)), (by first | rfl | (simp; done) | (simp [*]; done)), H', ⟨by have := HJ8.out; first | omega | exact Nat.le_refl _⟩, ⟨by repeat (first | (with_reducible first | exact HB.out | apply below_alloc | apply pw_below_drewN | apply below_drew1) | exact HB.out)⟩⟩
                  · rw [if_neg c25] at H
                    have c25b0 : (t222 == t221) = false := beq_eq_false_iff_ne.mpr c25
                    have c25b1 : (t222 != t221) = true := bne_iff_ne.mpr c25
                    have H' := Aside0.mk H
                    clear H
                    go_wp2_with (first | ((with_reducible refine gate_callee (f := 11) rfl ?_); refine goesL_ (some 68) rfl rfl Try.func11 (by kernel_rfl) rfl #[.int .i64 t222] rfl (by (try simp only [List.map_toArray, List.map_cons, List.map_nil]); first | done | rfl | (simp only [List.length_drop, List.length_take]; rfl)) ?_; (with_reducible refine (impl_WordOk.calls t222 true _ A20.out).mono ?_); rintro e w' ⟨rfl, ⟨nd, rfl⟩⟩; refine ⟨_, rfl, ?_⟩) | (go_at_call 11; (with_reducible refine (impl_WordOk.calls t221 true _ A23.out).mono ?_); rintro e w' ⟨rfl, ⟨nd, rfl⟩⟩))
                    go_meet
                    case rel => exact ⟨_, (true), (by first | rfl | (simp; done) | (simp [*]; done)), H', ⟨by have := HJ8.out; first | omega | exact Nat.le_refl _⟩, ⟨by repeat (first | (with_reducible first | exact HB.out | apply below_alloc | apply pw_below_drewN | apply below_drew1) | exact HB.out)⟩⟩
                · replace c24 := Bool.eq_false_iff.mpr c24
                  subst c24
                  have H1 : ((impl_Wrap.f t222).bind fun t231 => (laws_FnWords.j1 kj8 t216 t217 t218 t219 t220 (t231 != t222))) = some r := by rw [if_neg (show ¬ (false = true) by decide)] at H; exact H
                  clear H
                  have H := H1
                  clear H1
                  replace H := Option.bind_eq_some_iff.mp H
                  obtain ⟨t231, A270, H⟩ := H
                  replace H : (laws_FnWords.j1 kj8 t216 t217 t218 t219 t220 (t231 != t222)) = some r := H
                  have A27 := Aside0.mk A270
                  clear A270
                  have H' := Aside0.mk H
                  clear H
                  go_wp2_with (first | ((with_reducible refine gate_callee (f := 11) rfl ?_); refine goesL_ (some 68) rfl rfl Try.func11 (by kernel_rfl) rfl #[.int .i64 t222] rfl (by (try simp only [List.map_toArray, List.map_cons, List.map_nil]); first | done | rfl | (simp only [List.length_drop, List.length_take]; rfl)) ?_; (with_reducible refine (impl_WordOk.calls t222 true _ A20.out).mono ?_); rintro e w' ⟨rfl, ⟨nd, rfl⟩⟩; refine ⟨_, rfl, ?_⟩) | (go_at_call 11; (with_reducible refine (impl_WordOk.calls t221 false _ A23.out).mono ?_); rintro e w' ⟨rfl, ⟨nd, rfl⟩⟩) | (go_at_call 8; (with_reducible refine (impl_Wrap.calls t222 t231 _ A27.out).mono ?_); rintro e w' ⟨rfl, ⟨nd, rfl⟩⟩))
                  go_meet
                  case rel => exact ⟨_, ((t231 != t222)), (by first | rfl | (simp; done) | (simp [*]; done)), H', ⟨by have := HJ8.out; first | omega | exact Nat.le_refl _⟩, ⟨by repeat (first | (with_reducible first | exact HB.out | apply below_alloc | apply pw_below_drewN | apply below_drew1) | exact HB.out)⟩⟩
              · rw [if_neg c22] at H
                have c22b0 : ((Int.tmod (wrap64 (t222 - t221)) 4294967296) == 0) = false := beq_eq_false_iff_ne.mpr c22
                have c22b1 : ((Int.tmod (wrap64 (t222 - t221)) 4294967296) != 0) = true := bne_iff_ne.mpr c22
                (first | rw [c22b0] | (simp only [i64_w, i32_w]; rw [c22b0]) | skip)
                have H' := Aside0.mk H
                clear H
                go_wp2_with (first | ((with_reducible refine gate_callee (f := 11) rfl ?_); refine goesL_ (some 68) rfl rfl Try.func11 (by kernel_rfl) rfl #[.int .i64 t222] rfl (by (try simp only [List.map_toArray, List.map_cons, List.map_nil]); first | done | rfl | (simp only [List.length_drop, List.length_take]; rfl)) ?_; (with_reducible refine (impl_WordOk.calls t222 true _ A20.out).mono ?_); rintro e w' ⟨rfl, ⟨nd, rfl⟩⟩; refine ⟨_, rfl, ?_⟩))
                go_meet
                case rel => exact ⟨_, (true), (by first | rfl | (simp; done) | (simp [*]; done)), H', ⟨by have := HJ8.out; first | omega | exact Nat.le_refl _⟩, ⟨by repeat (first | (with_reducible first | exact HB.out | apply below_alloc | apply pw_below_drewN | apply below_drew1) | exact HB.out)⟩⟩
            · replace c21 := Bool.eq_false_iff.mpr c21
              subst c21
              have H1 : (laws_FnWords.j1 kj8 t216 t217 t218 t219 t220 true) = some r := by rw [if_neg (show ¬ (false = true) by decide)] at H; exact H
              clear H
              have H := H1
              clear H1
              have H' := Aside0.mk H
              clear H
              go_wp2_with (first | ((with_reducible refine gate_callee (f := 11) rfl ?_); refine goesL_ (some 68) rfl rfl Try.func11 (by kernel_rfl) rfl #[.int .i64 t222] rfl (by (try simp only [List.map_toArray, List.map_cons, List.map_nil]); first | done | rfl | (simp only [List.length_drop, List.length_take]; rfl)) ?_; (with_reducible refine (impl_WordOk.calls t222 false _ A20.out).mono ?_); rintro e w' ⟨rfl, ⟨nd, rfl⟩⟩; refine ⟨_, rfl, ?_⟩))
              go_meet
              case rel => exact ⟨_, (true), (by first | rfl | (simp; done) | (simp [*]; done)), H', ⟨by have := HJ8.out; first | omega | exact Nat.le_refl _⟩, ⟨by repeat (first | (with_reducible first | exact HB.out | apply below_alloc | apply pw_below_drewN | apply below_drew1) | exact HB.out)⟩⟩
          case rest =>
            clear HC19
            try clear c1
            try clear c2
            try clear p2
            try clear c3
            try clear c4
            try clear c5
            try clear c6
            try clear p6
            try clear c7
            try clear c8
            try clear c9
            try clear c11
            try clear c12
            try clear c12b0
            try clear c12b1
            try clear c12b2
            try clear c13
            try clear c13b0
            try clear c13b1
            try clear c15
            try clear c15b0
            try clear c15b1
            try clear c18
            try clear c21
            try clear c22
            try clear c22b0
            try clear c22b1
            try clear c24
            try clear c25
            try clear c25b0
            try clear c25b1
            try clear p2
            obtain ⟨kq, x91_18, rfl, HA, HJ18, HB⟩ := hcut
            cases kq with
            | zero => exact absurd HA.out (by simp [laws_FnWords.j1])
            | succ kj18 =>
              have H := HA.out
              clear HA
              simp only [laws_FnWords.j1] at H
              by_cases c28 : x91_18 = true
              · subst c28
                have H1 : (some false) = some r := by rw [if_pos rfl] at H; exact H
                clear H
                have H := H1
                clear H1
                obtain rfl := Option.some.inj H
                go_wp2
                go_ret
                exact ⟨by first | rfl | (simp [errW_none, errW_some] <;> rfl) | (simp [*, errW_none, errW_some] <;> rfl), by repeat (first | (with_reducible first | exact HB.out | apply below_alloc | apply pw_below_drewN | apply below_drew1) | exact HB.out)⟩
              · replace c28 := Bool.eq_false_iff.mpr c28
                subst c28
                have H1 : (if t220 = true then (if t216 = 1 then ((impl_Did.f 2 t219 t218).bind fun bt234 => (some (bt234.1 == t217))) else (if t216 = 3 then ((impl_Did.f 3 t218 t217).bind fun bt236 => (some (bt236.1 == t219))) else (if t216 = 4 then ((impl_Did.f 3 t219 t218).bind fun bt238 => ((impl_Did.f 2 t217 bt238.1).bind fun bt240 => (if t217 = (-2147483648) then (if t218 = (-1) then (some true) else (if bt240.1 < t218 then (if bt240.1 > (wrap64 (-t218)) then (some true) else (if bt240.1 < (wrap64 (-t218)) then (some (decide (bt240.1 > t218))) else (some false))) else (if bt240.1 < (wrap64 (-t218)) then (some (decide (bt240.1 > t218))) else (some false)))) else (if bt240.1 < t218 then (if bt240.1 > (wrap64 (-t218)) then (some true) else (if bt240.1 < (wrap64 (-t218)) then (some (decide (bt240.1 > t218))) else (some false))) else (if bt240.1 < (wrap64 (-t218)) then (some (decide (bt240.1 > t218))) else (some false)))))) else ((impl_WordOk.f t219).bind fun t242 => (if t242 = true then (if t216 < 5 then (some true) else (if t219 = 0 then (some true) else (some (t219 == 1)))) else (some false)))))) else (if t219 = 0 then (if t216 < 1 then (some true) else (if t216 > 7 then (some true) else ((impl_WordOk.f t217).bind fun t232 => (if t232 = true then ((impl_WordOk.f t218).bind fun t233 => (if t233 = true then (if t216 = 4 then (some (t218 == 0)) else (some false)) else (some true))) else (some true))))) else (some false))) = some r := by rw [if_neg (show ¬ (false = true) by decide)] at H; exact H
                clear H
                have H := H1
                clear H1
                by_cases c29 : t220 = true
                · subst c29
                  have H1 : (if t216 = 1 then ((impl_Did.f 2 t219 t218).bind fun bt234 => (some (bt234.1 == t217))) else (if t216 = 3 then ((impl_Did.f 3 t218 t217).bind fun bt236 => (some (bt236.1 == t219))) else (if t216 = 4 then ((impl_Did.f 3 t219 t218).bind fun bt238 => ((impl_Did.f 2 t217 bt238.1).bind fun bt240 => (if t217 = (-2147483648) then (if t218 = (-1) then (some true) else (if bt240.1 < t218 then (if bt240.1 > (wrap64 (-t218)) then (some true) else (if bt240.1 < (wrap64 (-t218)) then (some (decide (bt240.1 > t218))) else (some false))) else (if bt240.1 < (wrap64 (-t218)) then (some (decide (bt240.1 > t218))) else (some false)))) else (if bt240.1 < t218 then (if bt240.1 > (wrap64 (-t218)) then (some true) else (if bt240.1 < (wrap64 (-t218)) then (some (decide (bt240.1 > t218))) else (some false))) else (if bt240.1 < (wrap64 (-t218)) then (some (decide (bt240.1 > t218))) else (some false)))))) else ((impl_WordOk.f t219).bind fun t242 => (if t242 = true then (if t216 < 5 then (some true) else (if t219 = 0 then (some true) else (some (t219 == 1)))) else (some false)))))) = some r := by rw [if_pos rfl] at H; exact H
                  clear H
                  have H := H1
                  clear H1
                  by_cases c30 : t216 = 1
                  · rw [if_pos c30] at H
                    have c30b0 : (t216 == 1) = true := beq_iff_eq.mpr c30
                    have c30b1 : (t216 != 1) = false := bne_eq_false_iff_eq.mpr c30
                    clear c30
                    replace H := Option.bind_eq_some_iff.mp H
                    obtain ⟨⟨t234, t235⟩, A310, H⟩ := H
                    replace H : (some (t234 == t217)) = some r := H
                    have A31 := Aside0.mk A310
                    clear A310
                    obtain rfl := Option.some.inj H
                    go_wp2_with (first | ((with_reducible refine gate_callee (f := 6) rfl ?_); refine goesL_ (some 128) rfl rfl Try.func6 (by kernel_rfl) rfl #[.int .i64 2, .int .i64 t219, .int .i64 t218] rfl (by (try simp only [List.map_toArray, List.map_cons, List.map_nil]); first | done | rfl | (simp only [List.length_drop, List.length_take]; rfl)) ?_; (with_reducible refine (impl_Did.calls 2 t219 t218 t234 t235 _ A31.out).mono ?_); rintro e w' ⟨rfl, ⟨nd, rfl⟩⟩; refine ⟨_, rfl, ?_⟩))
                    go_ret
                    exact ⟨by first | rfl | (simp [errW_none, errW_some] <;> rfl) | (simp [*, errW_none, errW_some] <;> rfl), by repeat (first | (with_reducible first | exact HB.out | apply below_alloc | apply pw_below_drewN | apply below_drew1) | exact HB.out)⟩
                  · rw [if_neg c30] at H
                    have c30b0 : (t216 == 1) = false := beq_eq_false_iff_ne.mpr c30
                    have c30b1 : (t216 != 1) = true := bne_iff_ne.mpr c30
                    by_cases c32 : t216 = 3
                    · rw [if_pos c32] at H
                      have c32b0 : (t216 == 3) = true := beq_iff_eq.mpr c32
                      have c32b1 : (t216 != 3) = false := bne_eq_false_iff_eq.mpr c32
                      clear c32
                      replace H := Option.bind_eq_some_iff.mp H
                      obtain ⟨⟨t236, t237⟩, A330, H⟩ := H
                      replace H : (some (t236 == t219)) = some r := H
                      have A33 := Aside0.mk A330
                      clear A330
                      obtain rfl := Option.some.inj H
                      go_wp2_with (first | ((with_reducible refine gate_callee (f := 6) rfl ?_); refine goesL_ (some 139) rfl rfl Try.func6 (by kernel_rfl) rfl #[.int .i64 3, .int .i64 t218, .int .i64 t217] rfl (by (try simp only [List.map_toArray, List.map_cons, List.map_nil]); first | done | rfl | (simp only [List.length_drop, List.length_take]; rfl)) ?_; (with_reducible refine (impl_Did.calls 3 t218 t217 t236 t237 _ A33.out).mono ?_); rintro e w' ⟨rfl, ⟨nd, rfl⟩⟩; refine ⟨_, rfl, ?_⟩))
                      go_ret
                      exact ⟨by first | rfl | (simp [errW_none, errW_some] <;> rfl) | (simp [*, errW_none, errW_some] <;> rfl), by repeat (first | (with_reducible first | exact HB.out | apply below_alloc | apply pw_below_drewN | apply below_drew1) | exact HB.out)⟩
                    · rw [if_neg c32] at H
                      have c32b0 : (t216 == 3) = false := beq_eq_false_iff_ne.mpr c32
                      have c32b1 : (t216 != 3) = true := bne_iff_ne.mpr c32
                      by_cases c34 : t216 = 4
                      · rw [if_pos c34] at H
                        have c34b0 : (t216 == 4) = true := beq_iff_eq.mpr c34
                        have c34b1 : (t216 != 4) = false := bne_eq_false_iff_eq.mpr c34
                        clear c34
                        replace H := Option.bind_eq_some_iff.mp H
                        obtain ⟨⟨t238, t239⟩, A350, H⟩ := H
                        replace H : ((impl_Did.f 2 t217 t238).bind fun bt240 => (if t217 = (-2147483648) then (if t218 = (-1) then (some true) else (if bt240.1 < t218 then (if bt240.1 > (wrap64 (-t218)) then (some true) else (if bt240.1 < (wrap64 (-t218)) then (some (decide (bt240.1 > t218))) else (some false))) else (if bt240.1 < (wrap64 (-t218)) then (some (decide (bt240.1 > t218))) else (some false)))) else (if bt240.1 < t218 then (if bt240.1 > (wrap64 (-t218)) then (some true) else (if bt240.1 < (wrap64 (-t218)) then (some (decide (bt240.1 > t218))) else (some false))) else (if bt240.1 < (wrap64 (-t218)) then (some (decide (bt240.1 > t218))) else (some false))))) = some r := H
                        have A35 := Aside0.mk A350
                        clear A350
                        replace H := Option.bind_eq_some_iff.mp H
                        obtain ⟨⟨t240, t241⟩, A360, H⟩ := H
                        replace H : (if t217 = (-2147483648) then (if t218 = (-1) then (some true) else (if t240 < t218 then (if t240 > (wrap64 (-t218)) then (some true) else (if t240 < (wrap64 (-t218)) then (some (decide (t240 > t218))) else (some false))) else (if t240 < (wrap64 (-t218)) then (some (decide (t240 > t218))) else (some false)))) else (if t240 < t218 then (if t240 > (wrap64 (-t218)) then (some true) else (if t240 < (wrap64 (-t218)) then (some (decide (t240 > t218))) else (some false))) else (if t240 < (wrap64 (-t218)) then (some (decide (t240 > t218))) else (some false)))) = some r := H
                        have A36 := Aside0.mk A360
                        clear A360
                        by_cases c37 : t217 = (-2147483648)
                        · rw [if_pos c37] at H
                          have c37b0 : (t217 == (-2147483648)) = true := beq_iff_eq.mpr c37
                          have c37b1 : (t217 != (-2147483648)) = false := bne_eq_false_iff_eq.mpr c37
                          clear c37
                          by_cases c38 : t218 = (-1)
                          · rw [if_pos c38] at H
                            have c38b0 : (t218 == (-1)) = true := beq_iff_eq.mpr c38
                            have c38b1 : (t218 != (-1)) = false := bne_eq_false_iff_eq.mpr c38
                            clear c38
                            obtain rfl := Option.some.inj H
                            go_wp2_with (first | ((with_reducible refine gate_callee (f := 6) rfl ?_); refine goesL_ (some 150) rfl rfl Try.func6 (by kernel_rfl) rfl #[.int .i64 3, .int .i64 t219, .int .i64 t218] rfl (by (try simp only [List.map_toArray, List.map_cons, List.map_nil]); first | done | rfl | (simp only [List.length_drop, List.length_take]; rfl)) ?_; (with_reducible refine (impl_Did.calls 3 t219 t218 t238 t239 _ A35.out).mono ?_); rintro e w' ⟨rfl, ⟨nd, rfl⟩⟩; refine ⟨_, rfl, ?_⟩) | ((with_reducible refine gate_callee (f := 6) rfl ?_); refine goesL_ (some 156) rfl rfl Try.func6 (by kernel_rfl) rfl #[.int .i64 2, .int .i64 t217, .int .i64 t238] rfl (by (try simp only [List.map_toArray, List.map_cons, List.map_nil]); first | done | rfl | (simp only [List.length_drop, List.length_take]; rfl)) ?_; (with_reducible refine (impl_Did.calls 2 t217 t238 t240 t241 _ A36.out).mono ?_); rintro e w' ⟨rfl, ⟨nd, rfl⟩⟩; refine ⟨_, rfl, ?_⟩))
                            go_ret
                            exact ⟨by first | rfl | (simp [errW_none, errW_some] <;> rfl) | (simp [*, errW_none, errW_some] <;> rfl), by repeat (first | (with_reducible first | exact HB.out | apply below_alloc | apply pw_below_drewN | apply below_drew1) | exact HB.out)⟩
                          · rw [if_neg c38] at H
                            have c38b0 : (t218 == (-1)) = false := beq_eq_false_iff_ne.mpr c38
                            have c38b1 : (t218 != (-1)) = true := bne_iff_ne.mpr c38
                            by_cases c39 : t240 < t218
                            · rw [if_pos c39] at H
                              have c39b0 : decide (t240 < t218) = true := decide_eq_true c39
                              clear c39
                              by_cases c40 : t240 > (wrap64 (-t218))
                              · rw [if_pos c40] at H
                                have c40b0 : decide ((wrap64 (-t218)) < t240) = true := decide_eq_true c40
                                clear c40
                                obtain rfl := Option.some.inj H
                                go_wp2_with (first | ((with_reducible refine gate_callee (f := 6) rfl ?_); refine goesL_ (some 150) rfl rfl Try.func6 (by kernel_rfl) rfl #[.int .i64 3, .int .i64 t219, .int .i64 t218] rfl (by (try simp only [List.map_toArray, List.map_cons, List.map_nil]); first | done | rfl | (simp only [List.length_drop, List.length_take]; rfl)) ?_; (with_reducible refine (impl_Did.calls 3 t219 t218 t238 t239 _ A35.out).mono ?_); rintro e w' ⟨rfl, ⟨nd, rfl⟩⟩; refine ⟨_, rfl, ?_⟩) | ((with_reducible refine gate_callee (f := 6) rfl ?_); refine goesL_ (some 156) rfl rfl Try.func6 (by kernel_rfl) rfl #[.int .i64 2, .int .i64 t217, .int .i64 t238] rfl (by (try simp only [List.map_toArray, List.map_cons, List.map_nil]); first | done | rfl | (simp only [List.length_drop, List.length_take]; rfl)) ?_; (with_reducible refine (impl_Did.calls 2 t217 t238 t240 t241 _ A36.out).mono ?_); rintro e w' ⟨rfl, ⟨nd, rfl⟩⟩; refine ⟨_, rfl, ?_⟩))
                                go_ret
                                exact ⟨by first | rfl | (simp [errW_none, errW_some] <;> rfl) | (simp [*, errW_none, errW_some] <;> rfl), by repeat (first | (with_reducible first | exact HB.out | apply below_alloc | apply pw_below_drewN | apply below_drew1) | exact HB.out)⟩
                              · rw [if_neg c40] at H
                                have c40b0 : decide ((wrap64 (-t218)) < t240) = false := decide_eq_false c40
                                clear c40
                                by_cases c41 : t240 < (wrap64 (-t218))
                                · rw [if_pos c41] at H
                                  have c41b0 : decide (t240 < (wrap64 (-t218))) = true := decide_eq_true c41
                                  clear c41
                                  obtain rfl := Option.some.inj H
                                  go_wp2_with (first | ((with_reducible refine gate_callee (f := 6) rfl ?_); refine goesL_ (some 150) rfl rfl Try.func6 (by kernel_rfl) rfl #[.int .i64 3, .int .i64 t219, .int .i64 t218] rfl (by (try simp only [List.map_toArray, List.map_cons, List.map_nil]); first | done | rfl | (simp only [List.length_drop, List.length_take]; rfl)) ?_; (with_reducible refine (impl_Did.calls 3 t219 t218 t238 t239 _ A35.out).mono ?_); rintro e w' ⟨rfl, ⟨nd, rfl⟩⟩; refine ⟨_, rfl, ?_⟩) | ((with_reducible refine gate_callee (f := 6) rfl ?_); refine goesL_ (some 156) rfl rfl Try.func6 (by kernel_rfl) rfl #[.int .i64 2, .int .i64 t217, .int .i64 t238] rfl (by (try simp only [List.map_toArray, List.map_cons, List.map_nil]); first | done | rfl | (simp only [List.length_drop, List.length_take]; rfl)) ?_; (with_reducible refine (impl_Did.calls 2 t217 t238 t240 t241 _ A36.out).mono ?_); rintro e w' ⟨rfl, ⟨nd, rfl⟩⟩; refine ⟨_, rfl, ?_⟩))
                                  go_ret
                                  exact ⟨by first | rfl | (simp [errW_none, errW_some] <;> rfl) | (simp [*, errW_none, errW_some] <;> rfl), by repeat (first | (with_reducible first | exact HB.out | apply below_alloc | apply pw_below_drewN | apply below_drew1) | exact HB.out)⟩
                                · rw [if_neg c41] at H
                                  have c41b0 : decide (t240 < (wrap64 (-t218))) = false := decide_eq_false c41
                                  clear c41
                                  obtain rfl := Option.some.inj H
                                  go_wp2_with (first | ((with_reducible refine gate_callee (f := 6) rfl ?_); refine goesL_ (some 150) rfl rfl Try.func6 (by kernel_rfl) rfl #[.int .i64 3, .int .i64 t219, .int .i64 t218] rfl (by (try simp only [List.map_toArray, List.map_cons, List.map_nil]); first | done | rfl | (simp only [List.length_drop, List.length_take]; rfl)) ?_; (with_reducible refine (impl_Did.calls 3 t219 t218 t238 t239 _ A35.out).mono ?_); rintro e w' ⟨rfl, ⟨nd, rfl⟩⟩; refine ⟨_, rfl, ?_⟩) | ((with_reducible refine gate_callee (f := 6) rfl ?_); refine goesL_ (some 156) rfl rfl Try.func6 (by kernel_rfl) rfl #[.int .i64 2, .int .i64 t217, .int .i64 t238] rfl (by (try simp only [List.map_toArray, List.map_cons, List.map_nil]); first | done | rfl | (simp only [List.length_drop, List.length_take]; rfl)) ?_; (with_reducible refine (impl_Did.calls 2 t217 t238 t240 t241 _ A36.out).mono ?_); rintro e w' ⟨rfl, ⟨nd, rfl⟩⟩; refine ⟨_, rfl, ?_⟩))
                                  go_ret
                                  exact ⟨by first | rfl | (simp [errW_none, errW_some] <;> rfl) | (simp [*, errW_none, errW_some] <;> rfl), by repeat (first | (with_reducible first | exact HB.out | apply below_alloc | apply pw_below_drewN | apply below_drew1) | exact HB.out)⟩
                            · rw [if_neg c39] at H
                              have c39b0 : decide (t240 < t218) = false := decide_eq_false c39
                              clear c39
                              by_cases c42 : t240 < (wrap64 (-t218))
                              · rw [if_pos c42] at H
                                have c42b0 : decide (t240 < (wrap64 (-t218))) = true := decide_eq_true c42
                                clear c42
                                obtain rfl := Option.some.inj H
                                go_wp2_with (first | ((with_reducible refine gate_callee (f := 6) rfl ?_); refine goesL_ (some 150) rfl rfl Try.func6 (by kernel_rfl) rfl #[.int .i64 3, .int .i64 t219, .int .i64 t218] rfl (by (try simp only [List.map_toArray, List.map_cons, List.map_nil]); first | done | rfl | (simp only [List.length_drop, List.length_take]; rfl)) ?_; (with_reducible refine (impl_Did.calls 3 t219 t218 t238 t239 _ A35.out).mono ?_); rintro e w' ⟨rfl, ⟨nd, rfl⟩⟩; refine ⟨_, rfl, ?_⟩) | ((with_reducible refine gate_callee (f := 6) rfl ?_); refine goesL_ (some 156) rfl rfl Try.func6 (by kernel_rfl) rfl #[.int .i64 2, .int .i64 t217, .int .i64 t238] rfl (by (try simp only [List.map_toArray, List.map_cons, List.map_nil]); first | done | rfl | (simp only [List.length_drop, List.length_take]; rfl)) ?_; (with_reducible refine (impl_Did.calls 2 t217 t238 t240 t241 _ A36.out).mono ?_); rintro e w' ⟨rfl, ⟨nd, rfl⟩⟩; refine ⟨_, rfl, ?_⟩))
                                go_ret
                                exact ⟨by first | rfl | (simp [errW_none, errW_some] <;> rfl) | (simp [*, errW_none, errW_some] <;> rfl), by repeat (first | (with_reducible first | exact HB.out | apply below_alloc | apply pw_below_drewN | apply below_drew1) | exact HB.out)⟩
                              · rw [if_neg c42] at H
                                have c42b0 : decide (t240 < (wrap64 (-t218))) = false := decide_eq_false c42
                                clear c42
                                obtain rfl := Option.some.inj H
                                go_wp2_with (first | ((with_reducible refine gate_callee (f := 6) rfl ?_); refine goesL_ (some 150) rfl rfl Try.func6 (by kernel_rfl) rfl #[.int .i64 3, .int .i64 t219, .int .i64 t218] rfl (by (try simp only [List.map_toArray, List.map_cons, List.map_nil]); first | done | rfl | (simp only [List.length_drop, List.length_take]; rfl)) ?_; (with_reducible refine (impl_Did.calls 3 t219 t218 t238 t239 _ A35.out).mono ?_); rintro e w' ⟨rfl, ⟨nd, rfl⟩⟩; refine ⟨_, rfl, ?_⟩) | ((with_reducible refine gate_callee (f := 6) rfl ?_); refine goesL_ (some 156) rfl rfl Try.func6 (by kernel_rfl) rfl #[.int .i64 2, .int .i64 t217, .int .i64 t238] rfl (by (try simp only [List.map_toArray, List.map_cons, List.map_nil]); first | done | rfl | (simp only [List.length_drop, List.length_take]; rfl)) ?_; (with_reducible refine (impl_Did.calls 2 t217 t238 t240 t241 _ A36.out).mono ?_); rintro e w' ⟨rfl, ⟨nd, rfl⟩⟩; refine ⟨_, rfl, ?_⟩))
                                go_ret
                                exact ⟨by first | rfl | (simp [errW_none, errW_some] <;> rfl) | (simp [*, errW_none, errW_some] <;> rfl), by repeat (first | (with_reducible first | exact HB.out | apply below_alloc | apply pw_below_drewN | apply below_drew1) | exact HB.out)⟩
                        · rw [if_neg c37] at H
                          have c37b0 : (t217 == (-2147483648)) = false := beq_eq_false_iff_ne.mpr c37
                          have c37b1 : (t217 != (-2147483648)) = true := bne_iff_ne.mpr c37
                          by_cases c43 : t240 < t218
                          · rw [if_pos c43] at H
                            have c43b0 : decide (t240 < t218) = true := decide_eq_true c43
                            clear c43
                            by_cases c44 : t240 > (wrap64 (-t218))
                            · rw [if_pos c44] at H
                              have c44b0 : decide ((wrap64 (-t218)) < t240) = true := decide_eq_true c44
                              clear c44
                              obtain rfl := Option.some.inj H
                              go_wp2_with (first | ((with_reducible refine gate_callee (f := 6) rfl ?_); refine goesL_ (some 150) rfl rfl Try.func6 (by kernel_rfl) rfl #[.int .i64 3, .int .i64 t219, .int .i64 t218] rfl (by (try simp only [List.map_toArray, List.map_cons, List.map_nil]); first | done | rfl | (simp only [List.length_drop, List.length_take]; rfl)) ?_; (with_reducible refine (impl_Did.calls 3 t219 t218 t238 t239 _ A35.out).mono ?_); rintro e w' ⟨rfl, ⟨nd, rfl⟩⟩; refine ⟨_, rfl, ?_⟩) | ((with_reducible refine gate_callee (f := 6) rfl ?_); refine goesL_ (some 156) rfl rfl Try.func6 (by kernel_rfl) rfl #[.int .i64 2, .int .i64 t217, .int .i64 t238] rfl (by (try simp only [List.map_toArray, List.map_cons, List.map_nil]); first | done | rfl | (simp only [List.length_drop, List.length_take]; rfl)) ?_; (with_reducible refine (impl_Did.calls 2 t217 t238 t240 t241 _ A36.out).mono ?_); rintro e w' ⟨rfl, ⟨nd, rfl⟩⟩; refine ⟨_, rfl, ?_⟩))
                              go_ret
                              exact ⟨by first | rfl | (simp [errW_none, errW_some] <;> rfl) | (simp [*, errW_none, errW_some] <;> rfl), by repeat (first | (with_reducible first | exact HB.out | apply below_alloc | apply pw_below_drewN | apply below_drew1) | exact HB.out)⟩
                            · rw [if_neg c44] at H
                              have c44b0 : decide ((wrap64 (-t218)) < t240) = false := decide_eq_false c44
                              clear c44
                              by_cases c45 : t240 < (wrap64 (-t218))
                              · rw [if_pos c45] at H
                                have c45b0 : decide (t240 < (wrap64 (-t218))) = true := decide_eq_true c45
                                clear c45
                                obtain rfl := Option.some.inj H
                                go_wp2_with (first | ((with_reducible refine gate_callee (f := 6) rfl ?_); refine goesL_ (some 150) rfl rfl Try.func6 (by kernel_rfl) rfl #[.int .i64 3, .int .i64 t219, .int .i64 t218] rfl (by (try simp only [List.map_toArray, List.map_cons, List.map_nil]); first | done | rfl | (simp only [List.length_drop, List.length_take]; rfl)) ?_; (with_reducible refine (impl_Did.calls 3 t219 t218 t238 t239 _ A35.out).mono ?_); rintro e w' ⟨rfl, ⟨nd, rfl⟩⟩; refine ⟨_, rfl, ?_⟩) | ((with_reducible refine gate_callee (f := 6) rfl ?_); refine goesL_ (some 156) rfl rfl Try.func6 (by kernel_rfl) rfl #[.int .i64 2, .int .i64 t217, .int .i64 t238] rfl (by (try simp only [List.map_toArray, List.map_cons, List.map_nil]); first | done | rfl | (simp only [List.length_drop, List.length_take]; rfl)) ?_; (with_reducible refine (impl_Did.calls 2 t217 t238 t240 t241 _ A36.out).mono ?_); rintro e w' ⟨rfl, ⟨nd, rfl⟩⟩; refine ⟨_, rfl, ?_⟩))
                                go_ret
                                exact ⟨by first | rfl | (simp [errW_none, errW_some] <;> rfl) | (simp [*, errW_none, errW_some] <;> rfl), by repeat (first | (with_reducible first | exact HB.out | apply below_alloc | apply pw_below_drewN | apply below_drew1) | exact HB.out)⟩
                              · rw [if_neg c45] at H
                                have c45b0 : decide (t240 < (wrap64 (-t218))) = false := decide_eq_false c45
                                clear c45
                                obtain rfl := Option.some.inj H
                                go_wp2_with (first | ((with_reducible refine gate_callee (f := 6) rfl ?_); refine goesL_ (some 150) rfl rfl Try.func6 (by kernel_rfl) rfl #[.int .i64 3, .int .i64 t219, .int .i64 t218] rfl (by (try simp only [List.map_toArray, List.map_cons, List.map_nil]); first | done | rfl | (simp only [List.length_drop, List.length_take]; rfl)) ?_; (with_reducible refine (impl_Did.calls 3 t219 t218 t238 t239 _ A35.out).mono ?_); rintro e w' ⟨rfl, ⟨nd, rfl⟩⟩; refine ⟨_, rfl, ?_⟩) | ((with_reducible refine gate_callee (f := 6) rfl ?_); refine goesL_ (some 156) rfl rfl Try.func6 (by kernel_rfl) rfl #[.int .i64 2, .int .i64 t217, .int .i64 t238] rfl (by (try simp only [List.map_toArray, List.map_cons, List.map_nil]); first | done | rfl | (simp only [List.length_drop, List.length_take]; rfl)) ?_; (with_reducible refine (impl_Did.calls 2 t217 t238 t240 t241 _ A36.out).mono ?_); rintro e w' ⟨rfl, ⟨nd, rfl⟩⟩; refine ⟨_, rfl, ?_⟩))
                                go_ret
                                exact ⟨by first | rfl | (simp [errW_none, errW_some] <;> rfl) | (simp [*, errW_none, errW_some] <;> rfl), by repeat (first | (with_reducible first | exact HB.out | apply below_alloc | apply pw_below_drewN | apply below_drew1) | exact HB.out)⟩
                          · rw [if_neg c43] at H
                            have c43b0 : decide (t240 < t218) = false := decide_eq_false c43
                            clear c43
                            by_cases c46 : t240 < (wrap64 (-t218))
                            · rw [if_pos c46] at H
                              have c46b0 : decide (t240 < (wrap64 (-t218))) = true := decide_eq_true c46
                              clear c46
                              obtain rfl := Option.some.inj H
                              go_wp2_with (first | ((with_reducible refine gate_callee (f := 6) rfl ?_); refine goesL_ (some 150) rfl rfl Try.func6 (by kernel_rfl) rfl #[.int .i64 3, .int .i64 t219, .int .i64 t218] rfl (by (try simp only [List.map_toArray, List.map_cons, List.map_nil]); first | done | rfl | (simp only [List.length_drop, List.length_take]; rfl)) ?_; (with_reducible refine (impl_Did.calls 3 t219 t218 t238 t239 _ A35.out).mono ?_); rintro e w' ⟨rfl, ⟨nd, rfl⟩⟩; refine ⟨_, rfl, ?_⟩) | ((with_reducible refine gate_callee (f := 6) rfl ?_); refine goesL_ (some 156) rfl rfl Try.func6 (by kernel_rfl) rfl #[.int .i64 2, .int .i64 t217, .int .i64 t238] rfl (by (try simp only [List.map_toArray, List.map_cons, List.map_nil]); first | done | rfl | (simp only [List.length_drop, List.length_take]; rfl)) ?_; (with_reducible refine (impl_Did.calls 2 t217 t238 t240 t241 _ A36.out).mono ?_); rintro e w' ⟨rfl, ⟨nd, rfl⟩⟩; refine ⟨_, rfl, ?_⟩))
                              go_ret
                              exact ⟨by first | rfl | (simp [errW_none, errW_some] <;> rfl) | (simp [*, errW_none, errW_some] <;> rfl), by repeat (first | (with_reducible first | exact HB.out | apply below_alloc | apply pw_below_drewN | apply below_drew1) | exact HB.out)⟩
                            · rw [if_neg c46] at H
                              have c46b0 : decide (t240 < (wrap64 (-t218))) = false := decide_eq_false c46
                              clear c46
                              obtain rfl := Option.some.inj H
                              go_wp2_with (first | ((with_reducible refine gate_callee (f := 6) rfl ?_); refine goesL_ (some 150) rfl rfl Try.func6 (by kernel_rfl) rfl #[.int .i64 3, .int .i64 t219, .int .i64 t218] rfl (by (try simp only [List.map_toArray, List.map_cons, List.map_nil]); first | done | rfl | (simp only [List.length_drop, List.length_take]; rfl)) ?_; (with_reducible refine (impl_Did.calls 3 t219 t218 t238 t239 _ A35.out).mono ?_); rintro e w' ⟨rfl, ⟨nd, rfl⟩⟩; refine ⟨_, rfl, ?_⟩) | ((with_reducible refine gate_callee (f := 6) rfl ?_); refine goesL_ (some 156) rfl rfl Try.func6 (by kernel_rfl) rfl #[.int .i64 2, .int .i64 t217, .int .i64 t238] rfl (by (try simp only [List.map_toArray, List.map_cons, List.map_nil]); first | done | rfl | (simp only [List.length_drop, List.length_take]; rfl)) ?_; (with_reducible refine (impl_Did.calls 2 t217 t238 t240 t241 _ A36.out).mono ?_); rintro e w' ⟨rfl, ⟨nd, rfl⟩⟩; refine ⟨_, rfl, ?_⟩))
                              go_ret
                              exact ⟨by first | rfl | (simp [errW_none, errW_some] <;> rfl) | (simp [*, errW_none, errW_some] <;> rfl), by repeat (first | (with_reducible first | exact HB.out | apply below_alloc | apply pw_below_drewN | apply below_drew1) | exact HB.out)⟩
                      · rw [if_neg c34] at H
                        have c34b0 : (t216 == 4) = false := beq_eq_false_iff_ne.mpr c34
                        have c34b1 : (t216 != 4) = true := bne_iff_ne.mpr c34
                        replace H := Option.bind_eq_some_iff.mp H
                        obtain ⟨t242, A470, H⟩ := H
                        replace H : (if t242 = true then (if t216 < 5 then (some true) else (if t219 = 0 then (some true) else (some (t219 == 1)))) else (some false)) = some r := H
                        have A47 := Aside0.mk A470
                        clear A470
                        by_cases c48 : t242 = true
                        · subst c48
                          have H1 : (if t216 < 5 then (some true) else (if t219 = 0 then (some true) else (some (t219 == 1)))) = some r := by rw [if_pos rfl] at H; exact H
                          clear H
                          have H := H1
                          clear H1
                          by_cases c49 : t216 < 5
                          · rw [if_pos c49] at H
                            have c49b0 : decide (t216 < 5) = true := decide_eq_true c49
                            clear c49
                            obtain rfl := Option.some.inj H
                            go_wp2_with (first | ((with_reducible refine gate_callee (f := 11) rfl ?_); refine goesL_ (some 188) rfl rfl Try.func11 (by kernel_rfl) rfl #[.int .i64 t219] rfl (by (try simp only [List.map_toArray, List.map_cons, List.map_nil]); first | done | rfl | (simp only [List.length_drop, List.length_take]; rfl)) ?_; (with_reducible refine (impl_WordOk.calls t219 true _ A47.out).mono ?_); rintro e w' ⟨rfl, ⟨nd, rfl⟩⟩; refine ⟨_, rfl, ?_⟩))
                            go_ret
                            exact ⟨by first | rfl | (simp [errW_none, errW_some] <;> rfl) | (simp [*, errW_none, errW_some] <;> rfl), by repeat (first | (with_reducible first | exact HB.out | apply below_alloc | apply pw_below_drewN | apply below_drew1) | exact HB.out)⟩
                          · rw [if_neg c49] at H
                            have c49b0 : decide (t216 < 5) = false := decide_eq_false c49
                            clear c49
                            by_cases c50 : t219 = 0
                            · rw [if_pos c50] at H
                              have c50b0 : (t219 == 0) = true := beq_iff_eq.mpr c50
                              have c50b1 : (t219 != 0) = false := bne_eq_false_iff_eq.mpr c50
                              clear c50
                              obtain rfl := Option.some.inj H
                              go_wp2_with (first | ((with_reducible refine gate_callee (f := 11) rfl ?_); refine goesL_ (some 188) rfl rfl Try.func11 (by kernel_rfl) rfl #[.int .i64 t219] rfl (by (try simp only [List.map_toArray, List.map_cons, List.map_nil]); first | done | rfl | (simp only [List.length_drop, List.length_take]; rfl)) ?_; (with_reducible refine (impl_WordOk.calls t219 true _ A47.out).mono ?_); rintro e w' ⟨rfl, ⟨nd, rfl⟩⟩; refine ⟨_, rfl, ?_⟩))
                              go_ret
                              exact ⟨by first | rfl | (simp [errW_none, errW_some] <;> rfl) | (simp [*, errW_none, errW_some] <;> rfl), by repeat (first | (with_reducible first | exact HB.out | apply below_alloc | apply pw_below_drewN | apply below_drew1) | exact HB.out)⟩
                            · rw [if_neg c50] at H
                              have c50b0 : (t219 == 0) = false := beq_eq_false_iff_ne.mpr c50
                              have c50b1 : (t219 != 0) = true := bne_iff_ne.mpr c50
                              obtain rfl := Option.some.inj H
                              go_wp2_with (first | ((with_reducible refine gate_callee (f := 11) rfl ?_); refine goesL_ (some 188) rfl rfl Try.func11 (by kernel_rfl) rfl #[.int .i64 t219] rfl (by (try simp only [List.map_toArray, List.map_cons, List.map_nil]); first | done | rfl | (simp only [List.length_drop, List.length_take]; rfl)) ?_; (with_reducible refine (impl_WordOk.calls t219 true _ A47.out).mono ?_); rintro e w' ⟨rfl, ⟨nd, rfl⟩⟩; refine ⟨_, rfl, ?_⟩))
                              go_ret
                              exact ⟨by first | rfl | (simp [errW_none, errW_some] <;> rfl) | (simp [*, errW_none, errW_some] <;> rfl), by repeat (first | (with_reducible first | exact HB.out | apply below_alloc | apply pw_below_drewN | apply below_drew1) | exact HB.out)⟩
                        · replace c48 := Bool.eq_false_iff.mpr c48
                          subst c48
                          have H1 : (some false) = some r := by rw [if_neg (show ¬ (false = true) by decide)] at H; exact H
                          clear H
                          have H := H1
                          clear H1
                          obtain rfl := Option.some.inj H
                          go_wp2_with (first | ((with_reducible refine gate_callee (f := 11) rfl ?_); refine goesL_ (some 188) rfl rfl Try.func11 (by kernel_rfl) rfl #[.int .i64 t219] rfl (by (try simp only [List.map_toArray, List.map_cons, List.map_nil]); first | done | rfl | (simp only [List.length_drop, List.length_take]; rfl)) ?_; (with_reducible refine (impl_WordOk.calls t219 false _ A47.out).mono ?_); rintro e w' ⟨rfl, ⟨nd, rfl⟩⟩; refine ⟨_, rfl, ?_⟩))
                          go_ret
                          exact ⟨by first | rfl | (simp [errW_none, errW_some] <;> rfl) | (simp [*, errW_none, errW_some] <;> rfl), by repeat (first | (with_reducible first | exact HB.out | apply below_alloc | apply pw_below_drewN | apply below_drew1) | exact HB.out)⟩
                · replace c29 := Bool.eq_false_iff.mpr c29
                  subst c29
                  have H1 : (if t219 = 0 then (if t216 < 1 then (some true) else (if t216 > 7 then (some true) else ((impl_WordOk.f t217).bind fun t232 => (if t232 = true then ((impl_WordOk.f t218).bind fun t233 => (if t233 = true then (if t216 = 4 then (some (t218 == 0)) else (some false)) else (some true))) else (some true))))) else (some false)) = some r := by rw [if_neg (show ¬ (false = true) by decide)] at H; exact H
                  clear H
                  have H := H1
                  clear H1
                  by_cases c51 : t219 = 0
                  · rw [if_pos c51] at H
                    have c51b0 : (t219 == 0) = true := beq_iff_eq.mpr c51
                    have c51b1 : (t219 != 0) = false := bne_eq_false_iff_eq.mpr c51
                    clear c51
                    by_cases c52 : t216 < 1
                    · rw [if_pos c52] at H
                      have c52b0 : decide (t216 < 1) = true := decide_eq_true c52
                      clear c52
                      obtain rfl := Option.some.inj H
                      go_wp2
                      go_ret
                      exact ⟨by first | rfl | (simp [errW_none, errW_some] <;> rfl) | (simp [*, errW_none, errW_some] <;> rfl), by repeat (first | (with_reducible first | exact HB.out | apply below_alloc | apply pw_below_drewN | apply below_drew1) | exact HB.out)⟩
                    · rw [if_neg c52] at H
                      have c52b0 : decide (t216 < 1) = false := decide_eq_false c52
                      clear c52
                      by_cases c53 : t216 > 7
                      · rw [if_pos c53] at H
                        have c53b0 : decide (7 < t216) = true := decide_eq_true c53
                        clear c53
                        obtain rfl := Option.some.inj H
                        go_wp2
                        go_ret
                        exact ⟨by first | rfl | (simp [errW_none, errW_some] <;> rfl) | (simp [*, errW_none, errW_some] <;> rfl), by repeat (first | (with_reducible first | exact HB.out | apply below_alloc | apply pw_below_drewN | apply below_drew1) | exact HB.out)⟩
                      · rw [if_neg c53] at H
                        have c53b0 : decide (7 < t216) = false := decide_eq_false c53
                        clear c53
                        replace H := Option.bind_eq_some_iff.mp H
                        obtain ⟨t232, A540, H⟩ := H
                        replace H : (if t232 = true then ((impl_WordOk.f t218).bind fun t233 => (if t233 = true then (if t216 = 4 then (some (t218 == 0)) else (some false)) else (some true))) else (some true)) = some r := H
                        have A54 := Aside0.mk A540
                        clear A540
                        by_cases c55 : t232 = true
                        · subst c55
                          have H1 : ((impl_WordOk.f t218).bind fun t233 => (if t233 = true then (if t216 = 4 then (some (t218 == 0)) else (some false)) else (some true))) = some r := by rw [if_pos rfl] at H; exact H
                          clear H
                          have H := H1
                          clear H1
                          replace H := Option.bind_eq_some_iff.mp H
                          obtain ⟨t233, A560, H⟩ := H
                          replace H : (if t233 = true then (if t216 = 4 then (some (t218 == 0)) else (some false)) else (some true)) = some r := H
                          have A56 := Aside0.mk A560
                          clear A560
                          by_cases c57 : t233 = true
                          · subst c57
                            have H1 : (if t216 = 4 then (some (t218 == 0)) else (some false)) = some r := by rw [if_pos rfl] at H; exact H
                            clear H
                            have H := H1
                            clear H1
                            by_cases c58 : t216 = 4
                            · rw [if_pos c58] at H
                              have c58b0 : (t216 == 4) = true := beq_iff_eq.mpr c58
                              have c58b1 : (t216 != 4) = false := bne_eq_false_iff_eq.mpr c58
                              clear c58
                              obtain rfl := Option.some.inj H
                              go_wp2_with (first | (go_at_call 11; (with_reducible refine (impl_WordOk.calls t217 true _ A54.out).mono ?_); rintro e w' ⟨rfl, ⟨nd, rfl⟩⟩) | (go_at_call 11; (with_reducible refine (impl_WordOk.calls t218 true _ A56.out).mono ?_); rintro e w' ⟨rfl, ⟨nd, rfl⟩⟩))
                              go_ret
                              exact ⟨by first | rfl | (simp [errW_none, errW_some] <;> rfl) | (simp [*, errW_none, errW_some] <;> rfl), by repeat (first | (with_reducible first | exact HB.out | apply below_alloc | apply pw_below_drewN | apply below_drew1) | exact HB.out)⟩
                            · rw [if_neg c58] at H
                              have c58b0 : (t216 == 4) = false := beq_eq_false_iff_ne.mpr c58
                              have c58b1 : (t216 != 4) = true := bne_iff_ne.mpr c58
                              obtain rfl := Option.some.inj H
                              go_wp2_with (first | (go_at_call 11; (with_reducible refine (impl_WordOk.calls t217 true _ A54.out).mono ?_); rintro e w' ⟨rfl, ⟨nd, rfl⟩⟩) | (go_at_call 11; (with_reducible refine (impl_WordOk.calls t218 true _ A56.out).mono ?_); rintro e w' ⟨rfl, ⟨nd, rfl⟩⟩))
                              go_ret
                              exact ⟨by first | rfl | (simp [errW_none, errW_some] <;> rfl) | (simp [*, errW_none, errW_some] <;> rfl), by repeat (first | (with_reducible first | exact HB.out | apply below_alloc | apply pw_below_drewN | apply below_drew1) | exact HB.out)⟩
                          · replace c57 := Bool.eq_false_iff.mpr c57
                            subst c57
                            have H1 : (some true) = some r := by rw [if_neg (show ¬ (false = true) by decide)] at H; exact H
                            clear H
                            have H := H1
                            clear H1
                            obtain rfl := Option.some.inj H
                            go_wp2_with (first | (go_at_call 11; (with_reducible refine (impl_WordOk.calls t217 true _ A54.out).mono ?_); rintro e w' ⟨rfl, ⟨nd, rfl⟩⟩) | (go_at_call 11; (with_reducible refine (impl_WordOk.calls t218 false _ A56.out).mono ?_); rintro e w' ⟨rfl, ⟨nd, rfl⟩⟩))
                            go_ret
                            exact ⟨by first | rfl | (simp [errW_none, errW_some] <;> rfl) | (simp [*, errW_none, errW_some] <;> rfl), by repeat (first | (with_reducible first | exact HB.out | apply below_alloc | apply pw_below_drewN | apply below_drew1) | exact HB.out)⟩
                        · replace c55 := Bool.eq_false_iff.mpr c55
                          subst c55
                          have H1 : (some true) = some r := by rw [if_neg (show ¬ (false = true) by decide)] at H; exact H
                          clear H
                          have H := H1
                          clear H1
                          obtain rfl := Option.some.inj H
                          go_wp2_with (first | (go_at_call 11; (with_reducible refine (impl_WordOk.calls t217 false _ A54.out).mono ?_); rintro e w' ⟨rfl, ⟨nd, rfl⟩⟩))
                          go_ret
                          exact ⟨by first | rfl | (simp [errW_none, errW_some] <;> rfl) | (simp [*, errW_none, errW_some] <;> rfl), by repeat (first | (with_reducible first | exact HB.out | apply below_alloc | apply pw_below_drewN | apply below_drew1) | exact HB.out)⟩
                  · rw [if_neg c51] at H
                    have c51b0 : (t219 == 0) = false := beq_eq_false_iff_ne.mpr c51
                    have c51b1 : (t219 != 0) = true := bne_iff_ne.mpr c51
                    obtain rfl := Option.some.inj H
                    go_wp2
                    go_ret
                    exact ⟨by first | rfl | (simp [errW_none, errW_some] <;> rfl) | (simp [*, errW_none, errW_some] <;> rfl), by repeat (first | (with_reducible first | exact HB.out | apply below_alloc | apply pw_below_drewN | apply below_drew1) | exact HB.out)⟩

end Go.Proofs.Ytpgpajlkgclkaaa.PX
