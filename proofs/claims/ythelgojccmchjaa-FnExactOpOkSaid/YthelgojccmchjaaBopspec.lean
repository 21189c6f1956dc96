import Derived.Test.YthelgojccmchjaaPXx0
import Derived.Test.YthelgojccmchjaaPXx5
import Derived.Test.YthelgojccmchjaaBopplain
import Derived.Test.YthelgojccmchjaaBnamespec
namespace Go.Proofs.Ythelgojccmchjaa.B
open Go Go.RowKit Go.Proofs.YthelgojccmchjaaW.PrintWords Go.Proofs.YthelgojccmchjaaW.PrintLast Go.Proofs.YthelgojccmchjaaW.PrintMore Go.Proofs.Ythelgojccmchjaa.PX Go.Proofs.Ythelgojccmchjaa.B
theorem l11Place_eq (n : Int) : spec_l11Place.f n = some (decide (0 ≤ n) && decide (n ≤ 300)) := by
  unfold spec_l11Place.f
  rw [l1In_eq]
  rfl
theorem spec_OpOk_j1 (b : Bool) (k n : Int) (s : ByteArray) (j : Nat) : spec_OpOk.j1 (j + 1) b k n s = some (if b = true then (decide (0 ≤ n) && decide (n ≤ 300)) && noText s else (decide (9 ≤ k) && decide (k ≤ 11)) && ((n == 0) && noText s)) := by
  simp only [spec_OpOk.j1, l11Place_eq, l1In_eq, Option.bind_some]
  cases b
  · simp only [Bool.false_eq_true, if_false]
    cases (decide (9 ≤ k) && decide (k ≤ 11)) <;> simp [noText]
  · simp only [if_true]
    cases (decide (0 ≤ n) && decide (n ≤ 300)) <;> simp [noText]
theorem spec_OpOk_j0 (b : Bool) (k n : Int) (s : ByteArray) (hs : s.size ≤ 9223372036854775807) : LG fun j => spec_OpOk.j0 j k b k n s = some (if b = true then isNameB s && (n == 0) else if k = 4 then (decide (1 ≤ n) && decide (n ≤ 7)) && noText s
    else if k = 7 then (decide (0 ≤ n) && decide (n ≤ 300)) && noText s else if k = 8 then (decide (0 ≤ n) && decide (n ≤ 300)) && noText s else (decide (9 ≤ k) && decide (k ≤ 11)) && ((n == 0) && noText s)) := by
  refine ((spec_NameOk_eq s hs).and (LG.step (p := fun j => ∃ i, j = i + 1) fun j => ⟨j, rfl⟩)).up fun j ⟨h1, i, hi⟩ => ?_
  subst hi
  simp only [spec_OpOk.j0, h1, l1In_eq, Option.bind_some, spec_OpOk_j1]
  cases b
  · simp only [Bool.false_eq_true, if_false]
    by_cases h4 : k = 4
    · rw [if_pos h4, if_pos h4]
      cases (decide (1 ≤ n) && decide (n ≤ 7)) <;> simp [noText]
    · rw [if_neg h4, if_neg h4]
      by_cases h7 : k = 7
      · simp [h7]
      · by_cases h8 : k = 8
        · simp [h8]
        · simp [h7, h8]
  · simp only [if_true]
    cases isNameB s <;> simp
theorem spec_OpOk_eq (k n : Int) (s : ByteArray) (hs : s.size ≤ 9223372036854775807) : LG fun j => spec_OpOk.f j k n s = some (isOpB k n s) := by
  refine ((spec_OpOk_j0 true k n s hs).and (spec_OpOk_j0 false k n s hs)).mono fun j ⟨ht, hf⟩ => ?_
  unfold spec_OpOk.f isOpB
  simp only [l1Word_eq, l1In_eq, Option.bind_some]
  by_cases h1 : k = 1
  · rw [if_pos h1, if_pos h1]
    cases isWordB n <;> simp [noText]
  · rw [if_neg h1, if_neg h1]
    by_cases h2 : k = 2
    · rw [if_pos h2, if_pos h2]
      cases (decide (0 ≤ n) && decide (n ≤ 2)) <;> simp [noText]
    · rw [if_neg h2, if_neg h2]
      by_cases h3 : k = 3
      · subst h3
        simpa [hasNameB] using ht
      · by_cases h5 : k = 5
        · subst h5
          simpa [hasNameB] using ht
        · by_cases h6 : k = 6
          · subst h6
            simpa [hasNameB] using ht
          · rw [if_neg h3, if_neg h5, show (k == 6) = false from by simpa using h6, hf]
            simp [hasNameB, h3, h5, h6]
end Go.Proofs.Ythelgojccmchjaa.B
