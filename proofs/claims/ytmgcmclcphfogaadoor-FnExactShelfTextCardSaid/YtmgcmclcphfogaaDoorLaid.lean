/- What the package-level variables of the library and of the program hold (the rows' cell 'laid'), in the words that the contracts ask; and that it stays in every later world. -/
import Derived.Test.YtmgcmclcphfogaaDoorProg
import Derived.Lib.LaidTab
import Derived.Lib.ItoaNum
import Derived.Below
import Derived.Sort.Grow
import Derived.Deep.Draws
set_option linter.unusedVariables false
set_option linter.unusedSimpArgs false
namespace Go.Proofs.YtmgcmclcphfogaaDoor.PX
open Go Go.RowKit
def opWordsL : List ByteArray := [⟨#[]⟩, ⟨#[112, 117, 115, 104]⟩, ⟨#[103, 105, 118, 101, 110]⟩, ⟨#[108, 111, 97, 100]⟩, ⟨#[100, 111]⟩, ⟨#[115, 101, 116]⟩, ⟨#[99, 117, 116]⟩, ⟨#[103, 111]⟩, ⟨#[117, 110, 108, 101, 115, 115]⟩, ⟨#[116, 105, 99, 107]⟩, ⟨#[115, 116, 111, 112]⟩, ⟨#[101, 110, 100]⟩]
/-- t: the table of powers of ten; e: the two errors; o: the program's own words; m: internal/bytealg.MaxLen is an int. -/
structure LaidX (t e o m : Bool) (w : World) : Prop where
  tab : t = true → Lib.TabIs Tryd.prog w "internal/strconv.uint64pow10" .u64 Lib.pow10Tab
  errS : e = true → ∃ tp p, w.var? Tryd.prog "strconv.ErrSyntax" = some #[.iface tp p]
  errR : e = true → ∃ tp p, w.var? Tryd.prog "strconv.ErrRange" = some #[.iface tp p]
  ops : o = true → w.var? Tryd.prog "loop.example/g00526/impl.opWords" = some (opWordsL.map Value.string).toArray
  max : m = true → ∃ k, w.cell? ⟨(Tryd.prog.globalNamed "internal/bytealg.MaxLen").getD 0, 0, none⟩ = some (.int .i64 k)
theorem var_below {P : Program} {w w' : World} {n : String} {cs : Array Value} (h : Below w.heap.size w w') (hv : w.var? P n = some cs) : w'.var? P n = some cs := by
  unfold World.var? at *
  cases hg : P.globalNamed n with
  | none => rw [hg] at hv; cases hv
  | some g =>
    rw [hg] at hv
    simp only [Option.bind_some] at hv ⊢
    by_cases hlt : g < w.heap.size
    · rw [h.block g hlt]; exact hv
    · rw [Array.getElem?_eq_none (by omega)] at hv; cases hv
theorem LaidX.below {t e o m : Bool} {w w' : World} (h : LaidX t e o m w) (hb : Below w.heap.size w w') : LaidX t e o m w' where
  tab ht := var_below hb (h.tab ht)
  errS he := by obtain ⟨tp, p, hv⟩ := h.errS he; exact ⟨tp, p, var_below hb hv⟩
  errR he := by obtain ⟨tp, p, hv⟩ := h.errR he; exact ⟨tp, p, var_below hb hv⟩
  ops ho := var_below hb (h.ops ho)
  max hm := by obtain ⟨k, hv⟩ := h.max hm; exact ⟨k, (hb.cell (World.block_lt_of_cell? _ _ hv)).trans hv⟩
theorem LaidX.sub {t e o m t' e' o' m' : Bool} {w : World} (h : LaidX t e o m w) (ht : (!t' || t) = true) (he : (!e' || e) = true) (ho : (!o' || o) = true) (hm : (!m' || m) = true) : LaidX t' e' o' m' w where
  tab h' := h.tab (by subst h'; simpa using ht)
  errS h' := h.errS (by subst h'; simpa using he)
  errR h' := h.errR (by subst h'; simpa using he)
  ops h' := h.ops (by subst h'; simpa using ho)
  max h' := h.max (by subst h'; simpa using hm)
theorem below_grow0 (w : World) (n : Nat) (os : Array Obj) : Below w.heap.size w (Go.Sort.grow (w.drewN n) os) :=
  ⟨rfl, rfl, rfl, by show w.heap.size ≤ (w.heap ++ os).size; rw [Array.size_append]; omega, fun k hk => by show (w.heap ++ os)[k]? = _; rw [Array.getElem?_append_left hk]⟩
theorem below_drewN0 (w : World) (n : Nat) : Below w.heap.size w (w.drewN n) := ⟨rfl, rfl, rfl, Nat.le_refl _, fun _ _ => rfl⟩
end Go.Proofs.YtmgcmclcphfogaaDoor.PX
