import Derived.Test.YthelgojccmchjaaPXx0
import Derived.Test.YthelgojccmchjaaPXx2
import Derived.Test.YthelgojccmchjaaBmarkplain
namespace Go.Proofs.Ythelgojccmchjaa.B
open Go Go.RowKit Go.Proofs.YthelgojccmchjaaW.PrintWords Go.Proofs.YthelgojccmchjaaW.PrintLast Go.Proofs.YthelgojccmchjaaW.PrintMore Go.Proofs.Ythelgojccmchjaa.PX Go.Proofs.Ythelgojccmchjaa.B
theorem spec_Mark_l0 (s : ByteArray) (hs : s.size ≤ 9223372036854775807) (d : Nat) : ∀ (i : Nat) (m : Int), i ≤ s.size → s.size - i = d → 0 ≤ m → m < 65521 →
    LG fun k => spec_Mark.l0 k s m (i : Int) = some (markRun m (s.data.toList.drop i)) := by
  have hl := size_len s
  induction d with
  | zero =>
    intro i m h1 h2 _ _
    refine LG.step fun j => ?_
    simp only [spec_Mark.l0]
    rw [if_neg (by omega), List.drop_of_length_le (by omega)]
    rfl
  | succ d ih =>
    intro i m h1 h2 m0 m1
    have hi : i < s.data.toList.length := by omega
    have hr := markStep_range m (s.data.toList[i])
    refine (ih (i + 1) (markStep m (s.data.toList[i])) (by omega) (by omega) hr.1 hr.2).up fun j hj => ?_
    simp only [spec_Mark.l0]
    rw [if_pos (by omega), if_pos (by omega), bt_get s i hi, mark_term _ _ m0 m1, markRun_at _ i hi, w64 (n := (i : Int) + 1) (by omega) (by omega)]
    simpa using hj
theorem spec_Mark_eq (s : ByteArray) (hs : s.size ≤ 9223372036854775807) : LG fun k => spec_Mark.f k s = some (markOf s) :=
  spec_Mark_l0 s hs s.size 0 7 (by omega) (by omega) (by omega) (by omega)
theorem impl_mark_l0 (s : ByteArray) (hs : s.size ≤ 9223372036854775807) (d : Nat) : ∀ (i : Nat) (m : Int), i ≤ s.size → s.size - i = d → 0 ≤ m → m < 65521 →
    LG fun k => impl_mark.l0 k s m (s.size : Int) (i : Int) = some (markRun m (s.data.toList.drop i)) := by
  have hl := size_len s
  induction d with
  | zero =>
    intro i m h1 h2 _ _
    refine LG.step fun j => ?_
    simp only [impl_mark.l0]
    rw [if_neg (by omega), List.drop_of_length_le (by omega)]
    rfl
  | succ d ih =>
    intro i m h1 h2 m0 m1
    have hi : i < s.data.toList.length := by omega
    have hr := markStep_range m (s.data.toList[i])
    refine (ih (i + 1) (markStep m (s.data.toList[i])) (by omega) (by omega) hr.1 hr.2).up fun j hj => ?_
    simp only [impl_mark.l0]
    rw [if_pos (by omega), if_pos (by omega), if_pos (by omega), bt_get s i hi, mark_term _ _ m0 m1, markRun_at _ i hi, w64 (n := (i : Int) + 1) (by omega) (by omega)]
    simpa using hj
theorem impl_mark_eq (s : ByteArray) (hs : s.size ≤ 9223372036854775807) : LG fun k => impl_mark.f k s = some (markOf s) :=
  impl_mark_l0 s hs s.size 0 7 (by omega) (by omega) (by omega) (by omega)
end Go.Proofs.Ythelgojccmchjaa.B
