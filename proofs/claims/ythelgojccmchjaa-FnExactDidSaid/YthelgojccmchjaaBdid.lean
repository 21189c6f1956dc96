import Derived.Test.YthelgojccmchjaaPXx0
import Derived.Test.YthelgojccmchjaaPXx6
import Derived.Test.YthelgojccmchjaaPXx7
import Derived.Test.YthelgojccmchjaaBwrapspec
namespace Go.Proofs.Ythelgojccmchjaa.B
open Go Go.RowKit Go.Proofs.YthelgojccmchjaaW.PrintWords Go.Proofs.YthelgojccmchjaaW.PrintLast Go.Proofs.YthelgojccmchjaaW.PrintMore Go.Proofs.Ythelgojccmchjaa.PX Go.Proofs.Ythelgojccmchjaa.B
def bitOf (b : Bool) : Int := if b = true then 1 else 0
/-- An operation on two words, and whether it could be done. -/
def didOf (op a b : Int) : Int × Bool :=
  if op = 1 then (wrap32 (a + b), true) else if op = 2 then (wrap32 (a - b), true) else if op = 3 then (wrap32 (a * b), true)
  else if op = 4 then (if b = 0 then (0, false) else (wrap32 (Int.tdiv a b), true))
  else if op = 5 then (bitOf (decide (a < b)), true) else if op = 6 then (bitOf (a == b), true)
  else if op = 7 then (bitOf (decide (a ≠ 0) && decide (b ≠ 0)), true) else (0, false)
def DidOf (op a b : Int) : Int × Bool := if (isWordB a && isWordB b) = true then didOf op a b else (0, false)
theorem impl_bit_eq (b : Bool) : impl_bit.f b = some (bitOf b) := by
  unfold impl_bit.f bitOf
  cases b <;> rfl
theorem spec_bit_eq (b : Bool) : spec_l1Bit.f b = some (bitOf b) := by
  unfold spec_l1Bit.f bitOf
  cases b <;> rfl
theorem impl_did_eq (op a b : Int) : impl_did.f op a b = some (didOf op a b) := by
  unfold impl_did.f didOf
  simp only [impl_wrap_eq, impl_bit_eq, w32_w64, Option.bind_some]
  repeat' split
  all_goals first
    | rfl
    | simp_all [bitOf]
theorem impl_Did_eq (op a b : Int) : impl_Did.f op a b = some (DidOf op a b) := by
  unfold impl_Did.f DidOf
  simp only [impl_isWord_eq, impl_did_eq, Option.bind_some]
  cases isWordB a <;> cases isWordB b <;> simp
theorem spec_Did_j0 (op a b : Int) (bad : Bool) (j : Nat) : spec_Did.j0 (j + 1) op a b bad = some (if bad = true then (0, false) else didOf op a b) := by
  simp only [spec_Did.j0]
  unfold didOf
  simp only [spec_Wrap_eq, spec_bit_eq, w32_w64, Option.bind_some]
  cases bad
  · simp only [Bool.false_eq_true, if_false]
    repeat' split
    all_goals first
      | rfl
      | simp_all [bitOf]
  · simp
theorem spec_Did_eq (op a b : Int) : LG fun k => spec_Did.f k op a b = some (DidOf op a b) := by
  refine LG.step fun j => ?_
  unfold spec_Did.f DidOf
  simp only [l1Word_eq, Option.bind_some, spec_Did_j0]
  cases isWordB a <;> cases isWordB b <;> simp
end Go.Proofs.Ythelgojccmchjaa.B
