import Derived.Test.YthelgojccmchjaaPXx0
import Derived.Test.YthelgojccmchjaaPXx2
import Derived.Test.YthelgojccmchjaaBnameplain
namespace Go.Proofs.Ythelgojccmchjaa.B
open Go Go.RowKit Go.Proofs.YthelgojccmchjaaW.PrintWords Go.Proofs.YthelgojccmchjaaW.PrintLast Go.Proofs.YthelgojccmchjaaW.PrintMore Go.Proofs.Ythelgojccmchjaa.PX Go.Proofs.Ythelgojccmchjaa.B
theorem impl_isName_l0 (s : ByteArray) (hs : s.size ≤ 9223372036854775807) (d : Nat) : ∀ i : Nat, i ≤ s.size → s.size - i = d →
    LG fun k => impl_isName.l0 k s (s.size : Int) (i : Int) = some (nameRun (s.data.toList.drop i) && (decide (1 ≤ s.size) && decide (s.size ≤ 8))) := by
  have hl := size_len s
  induction d with
  | zero =>
    intro i h1 h2
    refine LG.step fun j => ?_
    obtain rfl : i = s.size := by omega
    simp only [impl_isName.l0]
    rw [if_neg (by omega)]
    have e : nameRun (s.data.toList.drop s.size) = true := by rw [List.drop_of_length_le (by omega)]; rfl
    rw [e, Bool.true_and]
    by_cases h : 1 ≤ s.size
    · rw [if_pos (by omega), decide_eq_true h, Bool.true_and]
      congr 1
      rw [Bool.eq_iff_iff]
      simp only [decide_eq_true_eq]
      omega
    · rw [if_neg (by omega), decide_eq_false h, Bool.false_and]
  | succ d ih =>
    intro i h1 h2
    have hi : i < s.data.toList.length := by omega
    refine (ih (i + 1) (by omega) (by omega)).up fun j hj => ?_
    simp only [impl_isName.l0]
    rw [if_pos (by omega), if_pos (by omega), if_pos (by omega), bt_get s i hi, nameRun_at _ i hi]
    by_cases ha : (97 : Nat) ≤ (s.data.toList[i]).toNat
    · rw [if_neg (by omega)]
      by_cases hb : (s.data.toList[i]).toNat ≤ 122
      · rw [if_neg (by omega), w64 (by omega) (by omega), decide_eq_true ha, decide_eq_true hb]
        simpa using hj
      · rw [if_pos (by omega), decide_eq_false hb]
        simp
    · rw [if_pos (by omega), decide_eq_false ha]
      simp
theorem impl_isName_eq (s : ByteArray) (hs : s.size ≤ 9223372036854775807) : LG fun k => impl_isName.f k s = some (isNameB s) :=
  impl_isName_l0 s hs s.size 0 (by omega) (by omega)
end Go.Proofs.Ythelgojccmchjaa.B
