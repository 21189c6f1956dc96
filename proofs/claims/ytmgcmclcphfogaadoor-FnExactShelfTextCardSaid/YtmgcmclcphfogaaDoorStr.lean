/- Strings compared: what is behind the signs. -/
import Derived.Laws.Strings
import Derived.WalkKit
namespace Go.Proofs.YtmgcmclcphfogaaDoor.Str
open Go
theorem str_geq (t : TypeId) (a b : ByteArray) : binOp .geq t (.string a) (.string b) = pure (.bool !(Op.bytesLess a.toList b.toList)) := by simp [binOp, Op.stringOp]
theorem bl_total : ∀ a b : List UInt8, (Op.bytesLess a b || a == b) = !(Op.bytesLess b a)
  | [], [] => by simp [Op.bytesLess]
  | [], _ :: _ => by simp [Op.bytesLess]
  | _ :: _, [] => by simp [Op.bytesLess]
  | x :: a, y :: b => by
    have ih := bl_total a b
    simp only [Op.bytesLess]
    by_cases h : x = y
    · subst h
      simpa using ih
    · rcases UInt8.lt_or_lt_of_ne h with g | g
      · have g' : ¬ y < x := fun q => absurd (UInt8.lt_trans g q) (UInt8.lt_irrefl _)
        simp [g, g', Ne.symm h]
      · have g' : ¬ x < y := fun q => absurd (UInt8.lt_trans g q) (UInt8.lt_irrefl _)
        simp [g, g', h]
theorem str_leq (t : TypeId) (a b : ByteArray) : binOp .leq t (.string a) (.string b) = pure (.bool !(Op.bytesLess b.toList a.toList)) := by rw [← bl_total]; simp [binOp, Op.stringOp]
theorem str_gtr (t : TypeId) (a b : ByteArray) : binOp .gtr t (.string a) (.string b) = pure (.bool (Op.bytesLess b.toList a.toList)) := by
  have h := bl_total a.toList b.toList
  have e : binOp .gtr t (.string a) (.string b) = pure (.bool !(Op.bytesLess a.toList b.toList || a.toList == b.toList)) := by simp [binOp, Op.stringOp]
  rw [e, h, Bool.not_not]
end Go.Proofs.YtmgcmclcphfogaaDoor.Str
