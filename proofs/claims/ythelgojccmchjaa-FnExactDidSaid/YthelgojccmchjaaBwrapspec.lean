import Derived.Test.YthelgojccmchjaaPXx0
import Derived.Test.YthelgojccmchjaaPXx2
import Derived.Test.YthelgojccmchjaaBword
namespace Go.Proofs.Ythelgojccmchjaa.B
open Go Go.RowKit Go.Proofs.YthelgojccmchjaaW.PrintWords Go.Proofs.YthelgojccmchjaaW.PrintLast Go.Proofs.YthelgojccmchjaaW.PrintMore Go.Proofs.Ythelgojccmchjaa.PX Go.Proofs.Ythelgojccmchjaa.B
theorem and_mask (n : Int) : Go.bits .and .i64 n 4294967295 = n % 4294967296 := by
  have hm : (BitVec.ofInt 64 4294967295).toNat = 2 ^ 32 - 1 := by decide
  have key : (BitVec.ofInt 64 n &&& BitVec.ofInt 64 4294967295).toNat = (n % ((2 ^ 64 : Nat) : Int)).toNat % 2 ^ 32 := by
    rw [BitVec.toNat_and, BitVec.toNat_ofInt, hm, Nat.and_two_pow_sub_one_eq_mod]
  show IntKind.i64.wrap ((BitVec.ofInt 64 n &&& BitVec.ofInt 64 4294967295).toNat : Nat) = n % 4294967296
  rw [key, IntKind.wrap_i64]
  omega
theorem spec_Wrap_eq (n : Int) : spec_Wrap.f n = some (wrap32 n) := by
  unfold spec_Wrap.f
  rw [and_mask n]
  by_cases c : n % 4294967296 > 2147483647
  · rw [if_pos c, w64 (by omega) (by omega)]
    unfold wrap32
    congr 1
    omega
  · rw [if_neg c]
    unfold wrap32
    congr 1
    omega
theorem w32_w64 (n : Int) : wrap32 (wrap64 n) = wrap32 n := by
  unfold wrap32 wrap64
  omega
end Go.Proofs.Ythelgojccmchjaa.B
