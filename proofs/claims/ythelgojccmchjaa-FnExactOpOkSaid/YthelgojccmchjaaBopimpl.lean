import Derived.Test.YthelgojccmchjaaPXx0
import Derived.Test.YthelgojccmchjaaPXx5
import Derived.Test.YthelgojccmchjaaPXx6
import Derived.Test.YthelgojccmchjaaBopplain
import Derived.Test.YthelgojccmchjaaBnameimpl
import Derived.Test.YthelgojccmchjaaBwithin
namespace Go.Proofs.Ythelgojccmchjaa.B
open Go Go.RowKit Go.Proofs.YthelgojccmchjaaW.PrintWords Go.Proofs.YthelgojccmchjaaW.PrintLast Go.Proofs.YthelgojccmchjaaW.PrintMore Go.Proofs.Ythelgojccmchjaa.PX Go.Proofs.Ythelgojccmchjaa.B
theorem hasName_eq (k : Int) : impl_hasName.f k = some (hasNameB k) := by
  unfold impl_hasName.f hasNameB
  by_cases h3 : k = 3
  · simp [h3]
  · by_cases h5 : k = 5
    · simp [h5]
    · simp [h3, h5]
      rw [Bool.eq_iff_iff]
      simp
theorem impl_isOp_j0 (b : Bool) (k n : Int) (s : ByteArray) (hs : s.size ≤ 9223372036854775807) : LG fun j => impl_isOp.j0 j b k n s = some ((decide (1 ≤ k) && decide (k ≤ 11)) && (b && (if hasNameB k = true then isNameB s else noText s))) := by
  refine (impl_isName_eq s hs).up fun j h => ?_
  simp only [impl_isOp.j0, hasName_eq, within_eq, h, Option.bind_some]
  cases hasNameB k <;> cases (decide (1 ≤ k) && decide (k ≤ 11)) <;> cases b <;> simp [noText]
theorem impl_isOp_eq (k n : Int) (s : ByteArray) (hs : s.size ≤ 9223372036854775807) : LG fun j => impl_isOp.f j k n s = some (isOpB k n s) := by
  have hb : ∀ b : Bool, LG fun j => impl_isOp.j0 j b k n s = some ((decide (1 ≤ k) && decide (k ≤ 11)) && (b && (if hasNameB k = true then isNameB s else noText s))) := fun b => impl_isOp_j0 b k n s hs
  unfold impl_isOp.f isOpB
  simp only [impl_isWord_eq, within_eq, Option.bind_some]
  by_cases h1 : k = 1
  · subst h1
    simpa [hasNameB] using hb (isWordB n)
  · by_cases h2 : k = 2
    · subst h2
      simpa [hasNameB] using hb (decide (0 ≤ n) && decide (n ≤ 2))
    · by_cases h4 : k = 4
      · subst h4
        simpa [hasNameB] using hb (decide (1 ≤ n) && decide (n ≤ 7))
      · by_cases h7 : k = 7
        · subst h7
          simpa [hasNameB] using hb (decide (0 ≤ n) && decide (n ≤ 300))
        · by_cases h8 : k = 8
          · subst h8
            simpa [hasNameB] using hb (decide (0 ≤ n) && decide (n ≤ 300))
          · refine (hb (n == 0)).mono fun j hj => ?_
            simp only [if_neg h1, if_neg h2, if_neg h4, if_neg h7, if_neg h8, hj]
            congr 1
            by_cases h3 : k = 3
            · subst h3
              simp [hasNameB, Bool.and_comm]
            · by_cases h5 : k = 5
              · subst h5
                simp [hasNameB, Bool.and_comm]
              · by_cases h6 : k = 6
                · subst h6
                  simp [hasNameB, Bool.and_comm]
                · have hn : hasNameB k = false := by simp [hasNameB, h3, h5, h6]
                  rw [hn]
                  simp only [Bool.false_eq_true, if_false]
                  congr 1
                  rw [Bool.eq_iff_iff]
                  simp only [Bool.and_eq_true, decide_eq_true_eq]
                  omega
end Go.Proofs.Ythelgojccmchjaa.B
