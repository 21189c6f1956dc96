import Derived.Test.YthelgojccmchjaaPXx0
import Derived.Test.YthelgojccmchjaaBlg
namespace Go.Proofs.Ythelgojccmchjaa.B
open Go Go.RowKit Go.Proofs.YthelgojccmchjaaW.PrintWords Go.Proofs.YthelgojccmchjaaW.PrintLast Go.Proofs.YthelgojccmchjaaW.PrintMore Go.Proofs.Ythelgojccmchjaa.PX Go.Proofs.Ythelgojccmchjaa.B
def markStep (h : Int) (c : UInt8) : Int := (131 * h + (c.toNat : Int) + 1) % 65521
def markRun (h : Int) (l : List UInt8) : Int := l.foldl markStep h
def markOf (s : ByteArray) : Int := markRun 7 s.data.toList
theorem markStep_range (h : Int) (c : UInt8) : 0 ≤ markStep h c ∧ markStep h c < 65521 := by
  unfold markStep
  omega
theorem markRun_range (l : List UInt8) : ∀ h : Int, 0 ≤ h → h < 65521 → 0 ≤ markRun h l ∧ markRun h l < 65521 := by
  induction l with
  | nil => intro h h0 h1; exact ⟨h0, h1⟩
  | cons c l ih => intro h h0 h1; exact ih _ (markStep_range h c).1 (markStep_range h c).2
theorem mark_term (h : Int) (c : UInt8) (h0 : 0 ≤ h) (h1 : h < 65521) : Int.tmod (wrap64 ((wrap64 ((wrap64 (131 * h)) + (wrap64 (c.toNat : Int)))) + 1)) 65521 = markStep h c := by
  have hc := c.toNat_lt
  rw [w64 (n := 131 * h) (by omega) (by omega), w64 (n := (c.toNat : Int)) (by omega) (by omega), w64 (n := 131 * h + (c.toNat : Int)) (by omega) (by omega), w64 (by omega) (by omega)]
  unfold markStep
  rw [Int.tmod_eq_emod_of_nonneg (by omega)]
theorem markRun_at (l : List UInt8) (i : Nat) (h : i < l.length) (m : Int) : markRun m (l.drop i) = markRun (markStep m l[i]) (l.drop (i + 1)) := by
  rw [List.drop_eq_getElem_cons h]
  rfl
end Go.Proofs.Ythelgojccmchjaa.B
