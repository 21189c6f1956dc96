import Derived.Test.YthelgojccmchjaaPXx0
import Derived.Test.YthelgojccmchjaaBlg
namespace Go.Proofs.Ythelgojccmchjaa.B
open Go Go.RowKit Go.Proofs.YthelgojccmchjaaW.PrintWords Go.Proofs.YthelgojccmchjaaW.PrintLast Go.Proofs.YthelgojccmchjaaW.PrintMore Go.Proofs.Ythelgojccmchjaa.PX Go.Proofs.Ythelgojccmchjaa.B
/-- all bytes are from a to z -/
def nameRun (l : List UInt8) : Bool := l.all fun c => decide (97 ≤ c.toNat) && decide (c.toNat ≤ 122)
def isNameB (s : ByteArray) : Bool := nameRun s.data.toList && (decide (1 ≤ s.size) && decide (s.size ≤ 8))
theorem nameRun_at (l : List UInt8) (i : Nat) (h : i < l.length) : nameRun (l.drop i) = (decide (97 ≤ (l[i]).toNat) && decide ((l[i]).toNat ≤ 122) && nameRun (l.drop (i + 1))) := by
  rw [List.drop_eq_getElem_cons h]
  simp only [nameRun, List.all_cons]
end Go.Proofs.Ythelgojccmchjaa.B
