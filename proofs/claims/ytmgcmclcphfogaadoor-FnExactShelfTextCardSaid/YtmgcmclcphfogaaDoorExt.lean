/- Words for contracts of the library's functions in the form that the printed functions use: rows that a call makes. -/
import Derived.Test.YtmgcmclcphfogaaDoorWWords
import Derived.Lib.SplitLaws
import Derived.Lib.Builder
set_option linter.unusedVariables false
set_option linter.unusedSimpArgs false
namespace Go.Proofs.YtmgcmclcphfogaaDoor.PX
open Go Go.RowKit Go.Proofs.YtmgcmclcphfogaaDoorW.PrintWords
/-- A new block of one-cell elements, with spare cells behind. -/
theorem R_fresh {α : Type} {enc : α → Value} {h1 : ∀ x, (enc x).oneCell' = true} (w : World) (e : Nat) (xs : List α) (n cap : Nat) (cells : Array Value) (hn : n = xs.length) (hc : xs.length ≤ cap) (hm : cap ≤ maxLen) (hs : cells.size = cap) (ht : cells.toList.take xs.length = encs enc xs) :
    (Kd.scalar enc h1).R e (w.alloc (.cells cells e)) w.heap.size (fun _ => True) (.slice (some ⟨w.heap.size, 0, none⟩) n cap) xs := by
  subst hn
  refine Kd.R_of_own ⟨by rw [encs_length, Nat.mul_one], .inr ⟨w.heap.size, cap, cells, rfl, Nat.le_refl _, blk_new w _, hc, hm, by rw [hs, Nat.mul_one], by rw [Nat.mul_one]; exact ht⟩⟩ (fun _ _ => trivial)
theorem below_alloc0 (w : World) (o : Obj) : Below w.heap.size w (w.alloc o) := (Below.refl _ _).alloc (Nat.le_refl _) o
theorem take_cellsOf (xs : List ByteArray) (N : Nat) : (Lib.cellsOf xs N).toList.take xs.length = encs Value.string xs := by
  simp [Lib.cellsOf, encs, List.take_append]
theorem splitB_zero_le (sep : ByteArray) (save k : Nat) (s : ByteArray) : (Lib.splitB sep save k s).length ≤ k + 1 := Lib.splitB_length_le sep save k s
theorem builderAt_below {T e : TypeId} {B b : Nat} {p : Value} {bs : List Value} {w w' : World} (h : Lib.BuilderAt T e B b p bs w) (hb : Below w.heap.size w w') : Lib.BuilderAt T e B b p bs w' := by
  have hlt := h.lt
  obtain ⟨h1, v, h2, h3, h4⟩ := h
  exact ⟨h1, v, (hb.block b hlt).trans h2, own_move h3 (fun k hk => hb.block k (own_lt h3 k hk)), h4⟩
theorem isBuilder_below {T e : TypeId} {B b : Nat} {bs : List Value} {w w' : World} (h : Lib.IsBuilder T e B b bs w) (hb : Below w.heap.size w w') : Lib.IsBuilder T e B b bs w' :=
  h.imp (fun h => builderAt_below h hb) (fun h => builderAt_below h hb)
end Go.Proofs.YtmgcmclcphfogaaDoor.PX
