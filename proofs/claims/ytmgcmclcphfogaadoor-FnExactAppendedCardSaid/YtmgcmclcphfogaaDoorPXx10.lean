-- written by printx.py (this session's program) over the kit's print.py, out of the translation.
import Derived.Test.YtmgcmclcphfogaaDoorPXx0
import Derived.Test.YtmgcmclcphfogaaDoorPXx3
import Derived.Test.YtmgcmclcphfogaaDoorPXx9
namespace Go.Proofs.YtmgcmclcphfogaaDoor.PX
open Go.RowKit Go.Proofs.YtmgcmclcphfogaaDoorW.PrintWords Go.Proofs.YtmgcmclcphfogaaDoorW.PrintLast Go.Proofs.YtmgcmclcphfogaaDoorW.PrintMore
attribute [local go_sem] max2_int min2_int max_two min_two max_three min_three max_four min_four   -- for this text's walks alone
set_option linter.unusedVariables false
set_option linter.unusedSimpArgs false

/-! ### impl_framed: function 72 -/
def impl_framed.j0 : Nat → ByteArray → Bool → Option (ByteArray)
  | 0, _, _ => none
  | k + 1, x0, x9 => if x9 = true then (some (⟨#[]⟩ : ByteArray)) else ((impl_decimal.f (x0.size : Int)).bind fun t227 => (if t227.size + 1 ≤ 9223372036854775807 then ((impl_mark.f k x0).bind fun t228 => ((impl_decimal.f t228).bind fun t229 => (if (t227 ++ (⟨#[32]⟩ : ByteArray)).size + t229.size ≤ 9223372036854775807 then (if ((t227 ++ (⟨#[32]⟩ : ByteArray)) ++ t229).size + 1 ≤ 9223372036854775807 then (if (((t227 ++ (⟨#[32]⟩ : ByteArray)) ++ t229) ++ (⟨#[32]⟩ : ByteArray)).size + x0.size ≤ 9223372036854775807 then (if ((((t227 ++ (⟨#[32]⟩ : ByteArray)) ++ t229) ++ (⟨#[32]⟩ : ByteArray)) ++ x0).size + 1 ≤ 9223372036854775807 then (some (((((t227 ++ (⟨#[32]⟩ : ByteArray)) ++ t229) ++ (⟨#[32]⟩ : ByteArray)) ++ x0) ++ (⟨#[10]⟩ : ByteArray))) else (none)) else (none)) else (none)) else (none)))) else (none)))
def impl_framed.f (k : Nat) (a0 : ByteArray) : Option (ByteArray) := if (a0.size : Int) > 300 then (impl_framed.j0 k a0 true) else ((strings_Contains.f a0 (⟨#[10]⟩ : ByteArray)).bind fun t226 => (impl_framed.j0 k a0 t226))
theorem impl_framed.mono_l : ∀ k, (∀ y0 y1, LeO (impl_framed.j0 k y0 y1) (impl_framed.j0 (k + 1) y0 y1))
  | 0 => fun _ _ r h => by simp [impl_framed.j0] at h
  | k + 1 => by
    have ih0 := impl_framed.mono_l k
    · intro y0 y1
      unfold impl_framed.j0
      repeat' first
      | (with_reducible exact ih0 _ _)
      | (with_reducible exact impl_mark.mono _ _)
      | (with_reducible exact LeO.refl _)
      | (with_reducible exact LeO.none _)
      | (with_reducible refine LeO.ite ?_ ?_)
      | (with_reducible refine LeO.bind ?_ (fun _ => ?_))
      | exact ih0 _ _
      | exact impl_mark.mono _ _
      | exact LeO.none _
      | refine LeO.ite ?_ ?_
      | refine LeO.bind ?_ (fun _ => ?_)
theorem impl_framed.mono : ∀ a0 k, LeO (impl_framed.f k a0) (impl_framed.f (k + 1) a0) := by
  intro a0 k
  have ih0 := impl_framed.mono_l k
  unfold impl_framed.f
  repeat' first
      | (with_reducible exact ih0 _ _)
      | (with_reducible exact impl_mark.mono _ _)
      | (with_reducible exact LeO.refl _)
      | (with_reducible exact LeO.none _)
      | (with_reducible refine LeO.ite ?_ ?_)
      | (with_reducible refine LeO.bind ?_ (fun _ => ?_))
      | exact ih0 _ _
      | exact impl_mark.mono _ _
      | exact LeO.none _
      | refine LeO.ite ?_ ?_
      | refine LeO.bind ?_ (fun _ => ?_)
set_option maxHeartbeats 8000000 in
set_option maxRecDepth 100000 in
theorem impl_framed.calls (k : Nat) (a0 : ByteArray) (r : ByteArray) (w : World) (hL : LaidX true false false false w) (h : impl_framed.f k a0 = some r) :
    Calls Tryd.prog 72 #[.string a0] w fun e w' => e = .returned (.string r) ∧ Below w.heap.size w w' := by
  have HB := Aside0.mk (Below.refl w.heap.size w)
  have HLX := Aside0.mk hL
  clear hL
  have H : (if (a0.size : Int) > 300 then (impl_framed.j0 k a0 true) else ((strings_Contains.f a0 (⟨#[10]⟩ : ByteArray)).bind fun t226 => (impl_framed.j0 k a0 t226))) = some r := h
  clear h
  have HC2 := Aside0.mk H
  clear H
  go_enter Tryd.func72, Tryd.ntmps72
  go_upto_region 1 with (fail)
  go_cut [9] (fun v9 wc => ∃ (kq : Nat) (x9_1 : Bool), v9 = .bool x9_1 ∧ Aside0 (impl_framed.j0 kq a0 x9_1 = some r) ∧ Aside0 (kq ≤ k) ∧ Aside0 (Below w.heap.size w wc))
  case first =>
    have H := HC2.out
    clear HC2
    by_cases c3 : (a0.size : Int) > 300
    · rw [if_pos c3] at H
      have c3b0 : decide (300 < (a0.size : Int)) = true := decide_eq_true c3
      have c3b1 : decide (300 < a0.size) = true := decide_eq_true (by omega)
      clear c3
      (first | rw [c3b0] | (simp only [i64_w, i32_w]; rw [c3b0]) | skip)
      have H' := Aside0.mk H
      clear H
      go_wp2
      go_meet
      case rel => exact ⟨_, (true), (by first | rfl | (simp; done) | (simp [*]; done)), H', ⟨by first | omega | exact Nat.le_refl _⟩, ⟨by repeat (first | (with_reducible first | exact HB.out | apply below_alloc | apply pw_below_drewN | apply below_drew1) | exact HB.out)⟩⟩
    · rw [if_neg c3] at H
      have c3b0 : decide (300 < (a0.size : Int)) = false := decide_eq_false c3
      have c3b1 : decide (300 < a0.size) = false := decide_eq_false (by omega)
      clear c3
      (first | rw [c3b0] | (simp only [i64_w, i32_w]; rw [c3b0]) | skip)
      replace H := Option.bind_eq_some_iff.mp H
      obtain ⟨t226, A40, H⟩ := H
      replace H : (impl_framed.j0 k a0 t226) = some r := H
      have A4 := Aside0.mk A40
      clear A40
      have H' := Aside0.mk H
      clear H
      go_wp2_with (first | (go_at_call 100; (with_reducible refine (strings_Contains.calls a0 (⟨#[10]⟩ : ByteArray) t226 _ A4.out).mono ?_); rintro e w' ⟨rfl, ⟨nd, rfl⟩⟩))
      go_meet
      case rel => exact ⟨_, (t226), (by first | rfl | (simp; done) | (simp [*]; done)), H', ⟨by first | omega | exact Nat.le_refl _⟩, ⟨by repeat (first | (with_reducible first | exact HB.out | apply below_alloc | apply pw_below_drewN | apply below_drew1) | exact HB.out)⟩⟩
  case rest =>
    clear HC2
    try clear p2
    try clear c3
    try clear c3b0
    try clear c3b1
    obtain ⟨kq, x9_1, rfl, HA, HJ1, HB⟩ := hcut
    cases kq with
    | zero => exact absurd HA.out (by simp [impl_framed.j0])
    | succ kj1 =>
      have H := HA.out
      clear HA
      simp only [impl_framed.j0] at H
      by_cases c5 : x9_1 = true
      · subst c5
        have H1 : (some (⟨#[]⟩ : ByteArray)) = some r := by rw [if_pos rfl] at H; exact H
        clear H
        have H := H1
        clear H1
        obtain rfl := Option.some.inj H
        go_wp2
        go_ret
        exact ⟨by first | rfl | (simp [errW_none, errW_some] <;> rfl) | (simp [*, errW_none, errW_some] <;> rfl), by repeat (first | (with_reducible first | exact HB.out | apply below_alloc | apply pw_below_drewN | apply below_drew1) | exact HB.out)⟩
      · replace c5 := Bool.eq_false_iff.mpr c5
        subst c5
        have H1 : ((impl_decimal.f (a0.size : Int)).bind fun t227 => (if t227.size + 1 ≤ 9223372036854775807 then ((impl_mark.f kj1 a0).bind fun t228 => ((impl_decimal.f t228).bind fun t229 => (if (t227 ++ (⟨#[32]⟩ : ByteArray)).size + t229.size ≤ 9223372036854775807 then (if ((t227 ++ (⟨#[32]⟩ : ByteArray)) ++ t229).size + 1 ≤ 9223372036854775807 then (if (((t227 ++ (⟨#[32]⟩ : ByteArray)) ++ t229) ++ (⟨#[32]⟩ : ByteArray)).size + a0.size ≤ 9223372036854775807 then (if ((((t227 ++ (⟨#[32]⟩ : ByteArray)) ++ t229) ++ (⟨#[32]⟩ : ByteArray)) ++ a0).size + 1 ≤ 9223372036854775807 then (some (((((t227 ++ (⟨#[32]⟩ : ByteArray)) ++ t229) ++ (⟨#[32]⟩ : ByteArray)) ++ a0) ++ (⟨#[10]⟩ : ByteArray))) else (none)) else (none)) else (none)) else (none)))) else (none))) = some r := by rw [if_neg (show ¬ (false = true) by decide)] at H; exact H
        clear H
        have H := H1
        clear H1
        replace H := Option.bind_eq_some_iff.mp H
        obtain ⟨t227, A60, H⟩ := H
        replace H : (if t227.size + 1 ≤ 9223372036854775807 then ((impl_mark.f kj1 a0).bind fun t228 => ((impl_decimal.f t228).bind fun t229 => (if (t227 ++ (⟨#[32]⟩ : ByteArray)).size + t229.size ≤ 9223372036854775807 then (if ((t227 ++ (⟨#[32]⟩ : ByteArray)) ++ t229).size + 1 ≤ 9223372036854775807 then (if (((t227 ++ (⟨#[32]⟩ : ByteArray)) ++ t229) ++ (⟨#[32]⟩ : ByteArray)).size + a0.size ≤ 9223372036854775807 then (if ((((t227 ++ (⟨#[32]⟩ : ByteArray)) ++ t229) ++ (⟨#[32]⟩ : ByteArray)) ++ a0).size + 1 ≤ 9223372036854775807 then (some (((((t227 ++ (⟨#[32]⟩ : ByteArray)) ++ t229) ++ (⟨#[32]⟩ : ByteArray)) ++ a0) ++ (⟨#[10]⟩ : ByteArray))) else (none)) else (none)) else (none)) else (none)))) else (none)) = some r := H
        have A6 := Aside0.mk A60
        clear A60
        by_cases c7 : t227.size + 1 ≤ 9223372036854775807
        · rw [if_pos c7] at H
          have c7b0 := eq_true c7
          have c7b1 : decide (t227.size + 1 ≤ 9223372036854775807) = true := decide_eq_true c7
          try have c7b2 : (9223372036854775807 < t227.size + 1) = False := eq_false (Nat.not_lt.2 c7)
          replace H := Option.bind_eq_some_iff.mp H
          obtain ⟨t228, A80, H⟩ := H
          replace H : ((impl_decimal.f t228).bind fun t229 => (if (t227 ++ (⟨#[32]⟩ : ByteArray)).size + t229.size ≤ 9223372036854775807 then (if ((t227 ++ (⟨#[32]⟩ : ByteArray)) ++ t229).size + 1 ≤ 9223372036854775807 then (if (((t227 ++ (⟨#[32]⟩ : ByteArray)) ++ t229) ++ (⟨#[32]⟩ : ByteArray)).size + a0.size ≤ 9223372036854775807 then (if ((((t227 ++ (⟨#[32]⟩ : ByteArray)) ++ t229) ++ (⟨#[32]⟩ : ByteArray)) ++ a0).size + 1 ≤ 9223372036854775807 then (some (((((t227 ++ (⟨#[32]⟩ : ByteArray)) ++ t229) ++ (⟨#[32]⟩ : ByteArray)) ++ a0) ++ (⟨#[10]⟩ : ByteArray))) else (none)) else (none)) else (none)) else (none))) = some r := H
          have A8 := Aside0.mk A80
          clear A80
          replace H := Option.bind_eq_some_iff.mp H
          obtain ⟨t229, A90, H⟩ := H
          replace H : (if (t227 ++ (⟨#[32]⟩ : ByteArray)).size + t229.size ≤ 9223372036854775807 then (if ((t227 ++ (⟨#[32]⟩ : ByteArray)) ++ t229).size + 1 ≤ 9223372036854775807 then (if (((t227 ++ (⟨#[32]⟩ : ByteArray)) ++ t229) ++ (⟨#[32]⟩ : ByteArray)).size + a0.size ≤ 9223372036854775807 then (if ((((t227 ++ (⟨#[32]⟩ : ByteArray)) ++ t229) ++ (⟨#[32]⟩ : ByteArray)) ++ a0).size + 1 ≤ 9223372036854775807 then (some (((((t227 ++ (⟨#[32]⟩ : ByteArray)) ++ t229) ++ (⟨#[32]⟩ : ByteArray)) ++ a0) ++ (⟨#[10]⟩ : ByteArray))) else (none)) else (none)) else (none)) else (none)) = some r := H
          have A9 := Aside0.mk A90
          clear A90
          by_cases c10 : (t227 ++ (⟨#[32]⟩ : ByteArray)).size + t229.size ≤ 9223372036854775807
          · rw [if_pos c10] at H
            have c10b0 := eq_true c10
            have c10b1 : decide ((t227 ++ (⟨#[32]⟩ : ByteArray)).size + t229.size ≤ 9223372036854775807) = true := decide_eq_true c10
            try have c10b2 : (9223372036854775807 < (t227 ++ (⟨#[32]⟩ : ByteArray)).size + t229.size) = False := eq_false (Nat.not_lt.2 c10)
            try have c10b4 := c10b2
            try simp only [ByteArray.size_append, ByteArray.size_extract, Nat.min_self, show (⟨#[32]⟩ : ByteArray).size = 1 from rfl] at c10b4
            by_cases c11 : ((t227 ++ (⟨#[32]⟩ : ByteArray)) ++ t229).size + 1 ≤ 9223372036854775807
            · rw [if_pos c11] at H
              have c11b0 := eq_true c11
              have c11b1 : decide (((t227 ++ (⟨#[32]⟩ : ByteArray)) ++ t229).size + 1 ≤ 9223372036854775807) = true := decide_eq_true c11
              try have c11b2 : (9223372036854775807 < ((t227 ++ (⟨#[32]⟩ : ByteArray)) ++ t229).size + 1) = False := eq_false (Nat.not_lt.2 c11)
              try have c11b4 := c11b2
              try simp only [ByteArray.size_append, ByteArray.size_extract, Nat.min_self, show (⟨#[32]⟩ : ByteArray).size = 1 from rfl] at c11b4
              by_cases c12 : (((t227 ++ (⟨#[32]⟩ : ByteArray)) ++ t229) ++ (⟨#[32]⟩ : ByteArray)).size + a0.size ≤ 9223372036854775807
              · rw [if_pos c12] at H
                have c12b0 := eq_true c12
                have c12b1 : decide ((((t227 ++ (⟨#[32]⟩ : ByteArray)) ++ t229) ++ (⟨#[32]⟩ : ByteArray)).size + a0.size ≤ 9223372036854775807) = true := decide_eq_true c12
                try have c12b2 : (9223372036854775807 < (((t227 ++ (⟨#[32]⟩ : ByteArray)) ++ t229) ++ (⟨#[32]⟩ : ByteArray)).size + a0.size) = False := eq_false (Nat.not_lt.2 c12)
                try have c12b4 := c12b2
                try simp only [ByteArray.size_append, ByteArray.size_extract, Nat.min_self, show (⟨#[32]⟩ : ByteArray).size = 1 from rfl] at c12b4
                by_cases c13 : ((((t227 ++ (⟨#[32]⟩ : ByteArray)) ++ t229) ++ (⟨#[32]⟩ : ByteArray)) ++ a0).size + 1 ≤ 9223372036854775807
                · rw [if_pos c13] at H
                  have c13b0 := eq_true c13
                  have c13b1 : decide (((((t227 ++ (⟨#[32]⟩ : ByteArray)) ++ t229) ++ (⟨#[32]⟩ : ByteArray)) ++ a0).size + 1 ≤ 9223372036854775807) = true := decide_eq_true c13
                  try have c13b2 : (9223372036854775807 < ((((t227 ++ (⟨#[32]⟩ : ByteArray)) ++ t229) ++ (⟨#[32]⟩ : ByteArray)) ++ a0).size + 1) = False := eq_false (Nat.not_lt.2 c13)
                  try have c13b4 := c13b2
                  try simp only [ByteArray.size_append, ByteArray.size_extract, Nat.min_self, show (⟨#[32]⟩ : ByteArray).size = 1 from rfl] at c13b4
                  obtain rfl := Option.some.inj H
                  go_wp2_with (first | ((with_reducible refine gate_callee (f := 93) rfl ?_); refine goesL_ (some 12) rfl rfl Tryd.func93 (by kernel_rfl) rfl #[.int .i64 (a0.size : Int)] rfl (by (try simp only [List.map_toArray, List.map_cons, List.map_nil]); first | done | rfl | (simp only [List.length_drop, List.length_take]; rfl)) ?_; (with_reducible refine (impl_decimal.calls (a0.size : Int) t227 _ ?side1 A6.out).mono ?_); (case side1 => exact LaidX.sub (LaidX.below HLX.out (by repeat (first | (with_reducible first | exact HB.out | apply below_alloc | apply pw_below_drewN | apply below_drew1) | exact HB.out))) rfl rfl rfl rfl); rintro e w14 ⟨rfl, hb⟩; refine ⟨_, rfl, ?_⟩; have n0_ := Aside0.mk (below_step (by repeat (first | (with_reducible first | exact HB.out | apply below_alloc | apply pw_below_drewN | apply below_drew1) | exact HB.out)) hb); clear HB; have HB := n0_; clear n0_; (try clear hb); (try clear hb2); (try clear hk); (try clear hi)) | ((with_reducible refine gate_callee (f := 101) rfl ?_); refine goesL_ (some 15) rfl rfl Tryd.func101 (by kernel_rfl) rfl #[.string a0] rfl (by (try simp only [List.map_toArray, List.map_cons, List.map_nil]); first | done | rfl | (simp only [List.length_drop, List.length_take]; rfl)) ?_; (with_reducible refine (impl_mark.calls kj1 a0 t228 _ A8.out).mono ?_); rintro e w' ⟨rfl, ⟨nd, rfl⟩⟩; refine ⟨_, rfl, ?_⟩) | ((with_reducible refine gate_callee (f := 93) rfl ?_); refine goesL_ (some 16) rfl rfl Tryd.func93 (by kernel_rfl) rfl #[.int .i64 t228] rfl (by (try simp only [List.map_toArray, List.map_cons, List.map_nil]); first | done | rfl | (simp only [List.length_drop, List.length_take]; rfl)) ?_; (with_reducible refine (impl_decimal.calls t228 t229 _ ?side1 A9.out).mono ?_); (case side1 => exact LaidX.sub (LaidX.below HLX.out (by repeat (first | (with_reducible first | exact HB.out | apply below_alloc | apply pw_below_drewN | apply below_drew1) | exact HB.out))) rfl rfl rfl rfl); rintro e w15 ⟨rfl, hb⟩; refine ⟨_, rfl, ?_⟩; have n0_ := Aside0.mk (below_step (by repeat (first | (with_reducible first | exact HB.out | apply below_alloc | apply pw_below_drewN | apply below_drew1) | exact HB.out)) hb); clear HB; have HB := n0_; clear n0_; (try clear hb); (try clear hb2); (try clear hk); (try clear hi)))
                  go_ret
                  exact ⟨by first | rfl | (simp [errW_none, errW_some] <;> rfl) | (simp [*, errW_none, errW_some] <;> rfl), by repeat (first | (with_reducible first | exact HB.out | apply below_alloc | apply pw_below_drewN | apply below_drew1) | exact HB.out)⟩
                · rw [if_neg c13] at H
                  exact absurd H (by simp)
              · rw [if_neg c12] at H
                exact absurd H (by simp)
            · rw [if_neg c11] at H
              exact absurd H (by simp)
          · rw [if_neg c10] at H
            exact absurd H (by simp)
        · rw [if_neg c7] at H
          exact absurd H (by simp)

/-! ### impl_Framed: function 28 -/
def impl_Framed.f (k : Nat) (a0 : ByteArray) : Option (ByteArray) := (impl_framed.f k a0).bind fun t230 => (some t230)
theorem impl_Framed.mono : ∀ a0 k, LeO (impl_Framed.f k a0) (impl_Framed.f (k + 1) a0) := by
  intro a0 k
  unfold impl_Framed.f
  repeat' first
      | (with_reducible exact impl_framed.mono _ _)
      | (with_reducible exact LeO.refl _)
      | (with_reducible exact LeO.none _)
      | (with_reducible refine LeO.ite ?_ ?_)
      | (with_reducible refine LeO.bind ?_ (fun _ => ?_))
      | exact impl_framed.mono _ _
      | exact LeO.none _
      | refine LeO.ite ?_ ?_
      | refine LeO.bind ?_ (fun _ => ?_)
set_option maxHeartbeats 8000000 in
set_option maxRecDepth 100000 in
theorem impl_Framed.calls (k : Nat) (a0 : ByteArray) (r : ByteArray) (w : World) (hL : LaidX true false false false w) (h : impl_Framed.f k a0 = some r) :
    Calls Tryd.prog 28 #[.string a0] w fun e w' => e = .returned (.string r) ∧ Below w.heap.size w w' := by
  have HB := Aside0.mk (Below.refl w.heap.size w)
  have HLX := Aside0.mk hL
  clear hL
  have H : ((impl_framed.f k a0).bind fun t230 => (some t230)) = some r := h
  clear h
  replace H := Option.bind_eq_some_iff.mp H
  obtain ⟨t230, A20, H⟩ := H
  replace H : (some t230) = some r := H
  have A2 := Aside0.mk A20
  clear A20
  obtain rfl := Option.some.inj H
  go_enter Tryd.func28, Tryd.ntmps28
  go_wp2_with (first | ((with_reducible refine gate_callee (f := 72) rfl ?_); refine goesL_ (some 4) rfl rfl Tryd.func72 (by kernel_rfl) rfl #[.string a0] rfl (by (try simp only [List.map_toArray, List.map_cons, List.map_nil]); first | done | rfl | (simp only [List.length_drop, List.length_take]; rfl)) ?_; (with_reducible refine (impl_framed.calls k a0 t230 _ ?side1 A2.out).mono ?_); (case side1 => exact LaidX.sub (LaidX.below HLX.out (by repeat (first | (with_reducible first | exact HB.out | apply below_alloc | apply pw_below_drewN | apply below_drew1) | exact HB.out))) rfl rfl rfl rfl); rintro e w3 ⟨rfl, hb⟩; refine ⟨_, rfl, ?_⟩; have n0_ := Aside0.mk (below_step (by repeat (first | (with_reducible first | exact HB.out | apply below_alloc | apply pw_below_drewN | apply below_drew1) | exact HB.out)) hb); clear HB; have HB := n0_; clear n0_; (try clear hb); (try clear hb2); (try clear hk); (try clear hi)))
  go_ret
  exact ⟨by first | rfl | (simp [errW_none, errW_some] <;> rfl) | (simp [*, errW_none, errW_some] <;> rfl), by repeat (first | (with_reducible first | exact HB.out | apply below_alloc | apply pw_below_drewN | apply below_drew1) | exact HB.out)⟩

end Go.Proofs.YtmgcmclcphfogaaDoor.PX
