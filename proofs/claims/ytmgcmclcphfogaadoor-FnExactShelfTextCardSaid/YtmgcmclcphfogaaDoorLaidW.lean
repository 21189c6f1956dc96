/- From what a row lists ('laid') to what the contracts ask of the package-level variables (LaidX). -/
import Derived.Test.YtmgcmclcphfogaaDoorLaid
import Derived.Test.YtmgcmclcphfogaaDoorRows
import Derived.Stop.LaidErr
import Derived.ChangeArms
import Derived.OpenShut
import Derived.Shelf.Vars
import Derived.KernelRfl
import Derived.HandedShaped
import Derived.LaidMore
import Derived.OpenVars
import Derived.Lay
import Derived.Deep.DeepHandedRow
import Derived.SevenTiedAt
import Derived.ProofKit
set_option linter.unusedVariables false
set_option linter.unusedSimpArgs false
set_option maxRecDepth 100000
namespace Go.Proofs.YtmgcmclcphfogaaDoor.PX
open Go Go.RowKit
/-- An array of strings that reads as these texts holds them, cell for cell. -/
theorem strs_of_tab {H : Type} {enc : TypeId × Value → H} {P : Program} {w : World} {base : Nat} {sp : Nat → Bool} {held : Bool} {fuel : Nat} {t e : TypeId} {n : Nat} {cs : List Value} {zs : List (List UInt8)} {p : List MemPlace}
    (ht : P.underlying t = some (.array n e)) (he : P.underlying e = some .string) (hce : P.cellsOf e = 1) (hct : P.cellsOf t = n)
    (h : DataW.trod enc P w base sp held fuel t cs = some (.agg (zs.map fun z => .lit (.string z)), p)) : cs = zs.map fun z => Value.string ⟨z.toArray⟩ := by
  obtain ⟨xs, m, rfl, hx, hl, hxl, hall⟩ := DataW.trod_array ht h
  simp only [hce, Nat.mul_one] at hall
  have hxs : xs.map (·.1) = zs.map fun z => (DataW.lit (.string z) : DataW H) := by
    have := congrArg Prod.fst hx
    simpa using this.symm
  have hzl : zs.length = n := by
    have := congrArg List.length hxs
    simp at this
    omega
  rw [hct] at hl
  apply List.ext_getElem?
  intro i
  by_cases hi : i < n
  · have hi' : i < xs.length := by omega
    have hf := (hall i hi).trans (List.getElem?_eq_getElem hi')
    obtain ⟨s, h1, h2, h3⟩ := DataW.trod_string he hf
    have h4 : cs[i]? = some (.string s) := by
      have := congrArg (·[0]?) h1
      simpa [List.getElem?_take, List.getElem?_drop] using this
    have h5 : (xs.map (·.1))[i]? = some (DataW.lit (.string s.data.toList) : DataW H) := by simp [List.getElem?_eq_getElem hi', h2]
    rw [hxs] at h5
    simp only [List.getElem?_map, Option.map_eq_some_iff, DataW.lit.injEq, Lit.string.injEq] at h5
    obtain ⟨z', hz', e'⟩ := h5
    rw [h4, List.getElem?_map, hz', Option.map_some, e']
  · rw [List.getElem?_eq_none (by omega), List.getElem?_eq_none (by simp; omega)]
theorem tabOf {rest : List (String × DataW Unit)} {W : World} (h : laidMet Tryd.prog (("internal/strconv.uint64pow10", Rows.laid_internal_strconv_uint64pow10) :: rest) W) : Lib.TabIs Tryd.prog W "internal/strconv.uint64pow10" .u64 Lib.pow10Tab :=
  Lib.tabIs_of_head (g := 6) (t := 166) (e := 134) (n := 20) (rest := rest) (by kernel_rfl) (by kernel_rfl) Tryd.underlying166 Tryd.underlying134 (by kernel_rfl) (by kernel_rfl) (by rw [← (show (Rows.laid_internal_strconv_uint64pow10 : DataW Unit) = Lib.tabData .u64 Lib.pow10Tab by first | rfl | kernel_rfl | decide)]; exact h)
theorem rowES (u : TypeId) (h : Tryd.prog.typeName? 3 u = some "*errors.errorString") : u = 162 :=
  have star : "*" ++ "errors.errorString" = "*errors.errorString" := by decide
  typeName_ptr_named (nm := "errors.errorString") (by rw [star]; kernel_rfl) (by kernel_rfl) (by decide) u (by rw [star]; exact h)
theorem errSOf {rest : List (String × DataW Unit)} {W : World} (h : laidMet Tryd.prog (("strconv.ErrSyntax", Rows.laid_strconv_ErrSyntax) :: rest) W) : ∃ tp p, W.var? Tryd.prog "strconv.ErrSyntax" = some #[.iface tp p] := by
  unfold Rows.laid_strconv_ErrSyntax at h
  obtain ⟨a0, s0, hv0, -, -, -⟩ := laid_sentinel h (g := 1) (ti := 94) (by kernel_rfl) (by kernel_rfl) Tryd.underlying94 rowES Tryd.underlying162 Tryd.underlying164 rfl rfl Tryd.underlying9 (by kernel_rfl) (by kernel_rfl)
  exact ⟨_, _, hv0⟩
theorem errROf {rest : List (String × DataW Unit)} {W : World} (h : laidMet Tryd.prog (("strconv.ErrRange", Rows.laid_strconv_ErrRange) :: rest) W) : ∃ tp p, W.var? Tryd.prog "strconv.ErrRange" = some #[.iface tp p] := by
  unfold Rows.laid_strconv_ErrRange at h
  obtain ⟨a0, s0, hv0, -, -, -⟩ := laid_sentinel h (g := 2) (ti := 94) (by kernel_rfl) (by kernel_rfl) Tryd.underlying94 rowES Tryd.underlying162 Tryd.underlying164 rfl rfl Tryd.underlying9 (by kernel_rfl) (by kernel_rfl)
  exact ⟨_, _, hv0⟩
theorem opsOf {rest : List (String × DataW Unit)} {W : World} (h : laidMet Tryd.prog (("loop.example/g00526/impl.opWords", Rows.laid_loop_example_g00526_impl_opWords) :: rest) W) : W.var? Tryd.prog "loop.example/g00526/impl.opWords" = some (opWordsL.map Value.string).toArray := by
  obtain ⟨ps, ⟨g', t', cs, fuel, p, q, hg', ht', hvar, hd, _, _⟩, _⟩ := h
  obtain rfl := Option.some.inj ((show Tryd.prog.globalNamed "loop.example/g00526/impl.opWords" = some 0 by kernel_rfl).symm.trans hg')
  obtain rfl := Option.some.inj ((show (Tryd.prog.globals[0]?).map (·.type) = some 99 by kernel_rfl).symm.trans ht')
  have e := strs_of_tab (zs := opWordsL.map fun s => s.data.toList) (n := 12) Tryd.underlying99 Tryd.underlying9 (by kernel_rfl) (by kernel_rfl) hd
  rw [hvar, show (opWordsL.map Value.string) = cs.toList by rw [e]; rfl]
theorem maxOf {W : World} (h : W.ShapedOpen Tryd.prog) : ∃ k, W.cell? ⟨(Tryd.prog.globalNamed "internal/bytealg.MaxLen").getD 0, 0, none⟩ = some (.int .i64 k) := by
  rw [show (Tryd.prog.globalNamed "internal/bytealg.MaxLen").getD 0 = 3 by kernel_rfl]
  exact cell_of_shapedOpen_int (P := Tryd.prog) (zero := #[.int .i64 0]) (t := 3) h (of_decide_eq_true (by kernel_rfl)) (by kernel_rfl) rfl (by kernel_rfl) (by kernel_rfl) Tryd.underlying3
end Go.Proofs.YtmgcmclcphfogaaDoor.PX
