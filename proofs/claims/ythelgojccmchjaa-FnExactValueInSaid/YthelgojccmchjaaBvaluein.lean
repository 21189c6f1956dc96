import Derived.Test.YthelgojccmchjaaPXx0
import Derived.Test.YthelgojccmchjaaPXx4
import Derived.Test.YthelgojccmchjaaBbinplain
namespace Go.Proofs.Ythelgojccmchjaa.B
open Go Go.RowKit Go.Proofs.YthelgojccmchjaaW.PrintWords Go.Proofs.YthelgojccmchjaaW.PrintLast Go.Proofs.YthelgojccmchjaaW.PrintMore Go.Proofs.Ythelgojccmchjaa.PX Go.Proofs.Ythelgojccmchjaa.B
/-- the value of the first bin of this name -/
def valueIn (l : List S66) (n : ByteArray) : Int × Bool := match l.find? (fun x => decide (x.f0 = n)) with
  | some x => (x.f1, true)
  | none => (0, false)
theorem valueIn_at (l : List S66) (n : ByteArray) (i : Nat) (h : i < l.length) : valueIn (l.drop i) n = if (l[i]).f0 = n then ((l[i]).f1, true) else valueIn (l.drop (i + 1)) n := by
  rw [List.drop_eq_getElem_cons h]
  unfold valueIn
  rw [List.find?_cons]
  by_cases e : (l[i]).f0 = n
  · simp [e]
  · simp [e]
theorem impl_ValueIn_l0 (l : List S66) (n : ByteArray) (hl : l.length ≤ 9223372036854775807) (d : Nat) : ∀ i : Nat, l.length - i = d → i ≤ l.length →
    LG fun k => impl_ValueIn.l0 k n l (l.length : Int) (i : Int) = some (valueIn (l.drop i) n) := by
  induction d with
  | zero =>
    intro i h1 h2
    refine LG.step fun j => ?_
    obtain rfl : i = l.length := by omega
    simp only [impl_ValueIn.l0]
    rw [if_neg (by omega), List.drop_length]
    rfl
  | succ d ih =>
    intro i h1 h2
    have hi : i < l.length := by omega
    refine (ih (i + 1) (by omega) (by omega)).up fun j hj => ?_
    simp only [impl_ValueIn.l0]
    rw [if_pos (by omega), if_pos (by omega), if_pos (by omega), rdI_Bin l i hi, valueIn_at l n i hi]
    simp only [toList_inj]
    by_cases e : (l[i]).f0 = n
    · rw [if_pos e, if_pos e]
    · rw [if_neg e, if_neg e, w64 (by omega) (by omega)]
      simpa using hj
theorem impl_ValueIn_eq (l : List S66) (n : ByteArray) (hl : l.length ≤ 9223372036854775807) : LG fun k => impl_ValueIn.f k l n = some (valueIn l n) := by
  simpa [impl_ValueIn.f] using impl_ValueIn_l0 l n hl l.length 0 (by omega) (by omega)
theorem spec_ValueIn_l0 (l : List S66) (n : ByteArray) (hl : l.length ≤ 9223372036854775807) (d : Nat) : ∀ i : Nat, l.length - i = d → i ≤ l.length →
    LG fun k => spec_ValueIn.l0 k l n (i : Int) = some (valueIn (l.drop i) n) := by
  induction d with
  | zero =>
    intro i h1 h2
    refine LG.step fun j => ?_
    obtain rfl : i = l.length := by omega
    simp only [spec_ValueIn.l0]
    rw [if_neg (by omega), List.drop_length]
    rfl
  | succ d ih =>
    intro i h1 h2
    have hi : i < l.length := by omega
    refine (ih (i + 1) (by omega) (by omega)).up fun j hj => ?_
    simp only [spec_ValueIn.l0]
    rw [if_pos (by omega), if_pos (by omega), rdI_Bin l i hi, valueIn_at l n i hi]
    simp only [toList_inj]
    by_cases e : (l[i]).f0 = n
    · rw [if_pos e, if_pos e]
    · rw [if_neg e, if_neg e, w64 (by omega) (by omega)]
      simpa using hj
theorem spec_ValueIn_eq (l : List S66) (n : ByteArray) (hl : l.length ≤ 9223372036854775807) : LG fun k => spec_ValueIn.f k l n = some (valueIn l n) := by
  simpa [spec_ValueIn.f] using spec_ValueIn_l0 l n hl l.length 0 (by omega) (by omega)
end Go.Proofs.Ythelgojccmchjaa.B
