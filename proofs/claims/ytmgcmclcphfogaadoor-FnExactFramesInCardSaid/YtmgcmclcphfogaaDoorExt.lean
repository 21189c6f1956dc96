/- Words for contracts of the library's functions in the form that the printed functions use: rows that a call makes. -/
import Derived.Test.YtmgcmclcphfogaaDoorWWords
import Derived.Lib.SplitLaws
set_option linter.unusedVariables false
set_option linter.unusedSimpArgs false
namespace Go.Proofs.YtmgcmclcphfogaaDoor.PX
open Go Go.RowKit Go.Proofs.YtmgcmclcphfogaaDoorW.PrintWords
/-- A new block of one-cell elements, with spare cells behind. -/
theorem R_fresh {α : Type} {enc : α → Value} {h1 : ∀ x, (enc x).oneCell' = true} (w : World) (e : Nat) (xs : List α) (n cap : Nat) (cells : Array Value) (hn : n = xs.length) (hc : xs.length ≤ cap) (hm : cap ≤ maxLen) (hs : cells.size = cap) (ht : cells.toList.take xs.length = encs enc xs) :
    (Kd.scalar enc h1).R e (w.alloc (.cells cells e)) w.heap.size (fun _ => True) (.slice (some ⟨w.heap.size, 0, none⟩) n cap) xs := by
  subst hn
  refine Kd.R_of_own ⟨by rw [encs_length, Nat.mul_one], .inr ⟨w.heap.size, cap, cells, rfl, Nat.le_refl _, blk_new w _, hc, hm, by rw [hs, Nat.mul_one], by rw [Nat.mul_one]; exact ht⟩⟩ (fun _ _ => trivial)
theorem below_alloc0 (w : World) (o : Obj) : Below w.heap.size w (w.alloc o) := (Below.refl _ _).alloc (Nat.le_refl _) o
theorem take_cellsOf (xs : List ByteArray) (N : Nat) : (Lib.cellsOf xs N).toList.take xs.length = encs Value.string xs := by
  simp [Lib.cellsOf, encs, List.take_append]
theorem splitB_zero_le (sep : ByteArray) (save k : Nat) (s : ByteArray) : (Lib.splitB sep save k s).length ≤ k + 1 := Lib.splitB_length_le sep save k s
end Go.Proofs.YtmgcmclcphfogaaDoor.PX
