import Derived.Test.YtpgpajlkgclkaaaPXx0
import Derived.Test.YtpgpajlkgclkaaaPXx1
import Derived.Test.YtpgpajlkgclkaaaPXx2
import Derived.Test.YtpgpajlkgclkaaaPXx3
import Derived.Test.YtpgpajlkgclkaaaStFnWords
import Derived.Test.YtpgpajlkgclkaaaWMore
set_option linter.unusedVariables false
set_option linter.unusedSimpArgs false
namespace Go.Proofs.Ytpgpajlkgclkaaa.B
open Go Go.RowKit Go.Proofs.YtpgpajlkgclkaaaW.PrintWords Go.Proofs.YtpgpajlkgclkaaaW.PrintLast Go.Proofs.YtpgpajlkgclkaaaW.PrintMore Go.Proofs.Ytpgpajlkgclkaaa.PX
/-- From some number of rounds on. -/
def LG (p : Nat → Prop) : Prop := ∃ K, ∀ k, K ≤ k → p k
namespace LG
theorem all {p : Nat → Prop} (h : ∀ k, p k) : LG p := ⟨0, fun k _ => h k⟩
theorem step {p : Nat → Prop} (h : ∀ j, p (j + 1)) : LG p := ⟨1, fun k hk => by
  obtain ⟨j, rfl⟩ : ∃ j, k = j + 1 := ⟨k - 1, by omega⟩
  exact h j⟩
theorem and {p q : Nat → Prop} (h : LG p) (g : LG q) : LG fun k => p k ∧ q k := by
  obtain ⟨a, h⟩ := h
  obtain ⟨b, g⟩ := g
  exact ⟨max a b, fun k hk => ⟨h k (by omega), g k (by omega)⟩⟩
theorem mono {p q : Nat → Prop} (h : LG p) (g : ∀ k, p k → q k) : LG q := by
  obtain ⟨a, h⟩ := h
  exact ⟨a, fun k hk => g k (h k hk)⟩
/-- One round: what holds of j holds of j + 1 rounds. -/
theorem up {p q : Nat → Prop} (h : LG p) (g : ∀ j, p j → q (j + 1)) : LG q := by
  obtain ⟨a, h⟩ := h
  refine ⟨a + 1, fun k hk => ?_⟩
  obtain ⟨j, rfl⟩ : ∃ j, k = j + 1 := ⟨k - 1, by omega⟩
  exact g j (h j (by omega))
theorem rounds {p : Nat → Prop} (h : LG p) : ∃ k, p k := by
  obtain ⟨a, h⟩ := h
  exact ⟨a, h a (Nat.le_refl _)⟩
end LG
def I64 (n : Int) : Prop := -9223372036854775808 ≤ n ∧ n ≤ 9223372036854775807
theorem i64_of {n : Int} (h : (Lit.int .i64 n).wf = true) : I64 n := by
  simp only [Lit.wf, IntKind.min, IntKind.max, IntKind.signed, IntKind.bits, Bool.and_eq_true, decide_eq_true_eq, if_true] at h
  unfold I64
  omega
theorem w64 {n : Int} (h0 : -9223372036854775808 ≤ n) (h1 : n ≤ 9223372036854775807) : wrap64 n = n := by
  unfold wrap64
  omega
theorem bt_get (s : ByteArray) (i : Nat) (h : i < s.data.toList.length) : bt s (i : Int) = ((s.data.toList[i]).toNat : Int) := by
  have hs : (i : Int).toNat < s.size := by
    have : s.size = s.data.toList.length := by rw [Array.length_toList]; rfl
    omega
  unfold bt
  rw [dif_pos hs]
  rfl
theorem size_len (s : ByteArray) : s.data.toList.length = s.size := by rw [Array.length_toList]; rfl
end Go.Proofs.Ytpgpajlkgclkaaa.B
namespace Go.Proofs.Ytpgpajlkgclkaaa.B
open Go Go.RowKit Go.Proofs.YtpgpajlkgclkaaaW.PrintWords Go.Proofs.YtpgpajlkgclkaaaW.PrintLast Go.Proofs.YtpgpajlkgclkaaaW.PrintMore Go.Proofs.Ytpgpajlkgclkaaa.PX Go.Proofs.Ytpgpajlkgclkaaa.B
def isWordB (n : Int) : Bool := decide (-2147483648 ≤ n) && decide (n ≤ 2147483647)
theorem l1In_eq (a b c : Int) : spec_l1In.f a b c = some (decide (b ≤ a) && decide (a ≤ c)) := by
  unfold spec_l1In.f
  by_cases h : a ≥ b
  · rw [if_pos h, decide_eq_true (show b ≤ a from h), Bool.true_and]
  · rw [if_neg h, decide_eq_false (show ¬ b ≤ a from h), Bool.false_and]
theorem l1Word_eq (n : Int) : spec_l1Word.f n = some (isWordB n) := by
  unfold spec_l1Word.f
  rw [l1In_eq]
  rfl
theorem w32_range (n : Int) : -2147483648 ≤ wrap32 n ∧ wrap32 n ≤ 2147483647 := by
  unfold wrap32
  omega
theorem impl_wrap_eq (n : Int) : impl_wrap.f n = some (wrap32 n) := by
  have := w32_range n
  unfold impl_wrap.f
  rw [w64 (by omega) (by omega)]
theorem isWordB_wrap (n : Int) : (n == wrap32 n) = isWordB n := by
  unfold isWordB
  rw [Bool.eq_iff_iff]
  simp only [beq_iff_eq, Bool.and_eq_true, decide_eq_true_eq]
  unfold wrap32
  omega
theorem impl_isWord_eq (n : Int) : impl_isWord.f n = some (isWordB n) := by
  unfold impl_isWord.f
  rw [impl_wrap_eq]
  simp only [Option.bind_some]
  rw [isWordB_wrap]
end Go.Proofs.Ytpgpajlkgclkaaa.B
namespace Go.Proofs.Ytpgpajlkgclkaaa.B
open Go Go.RowKit Go.Proofs.YtpgpajlkgclkaaaW.PrintWords Go.Proofs.YtpgpajlkgclkaaaW.PrintLast Go.Proofs.YtpgpajlkgclkaaaW.PrintMore Go.Proofs.Ytpgpajlkgclkaaa.PX Go.Proofs.Ytpgpajlkgclkaaa.B
theorem and_mask (n : Int) : Go.bits .and .i64 n 4294967295 = n % 4294967296 := by
  have hm : (BitVec.ofInt 64 4294967295).toNat = 2 ^ 32 - 1 := by decide
  have key : (BitVec.ofInt 64 n &&& BitVec.ofInt 64 4294967295).toNat = (n % ((2 ^ 64 : Nat) : Int)).toNat % 2 ^ 32 := by
    rw [BitVec.toNat_and, BitVec.toNat_ofInt, hm, Nat.and_two_pow_sub_one_eq_mod]
  show IntKind.i64.wrap ((BitVec.ofInt 64 n &&& BitVec.ofInt 64 4294967295).toNat : Nat) = n % 4294967296
  rw [key, IntKind.wrap_i64]
  omega
theorem spec_Wrap_eq (n : Int) : spec_Wrap.f n = some (wrap32 n) := by
  unfold spec_Wrap.f
  rw [and_mask n]
  by_cases c : n % 4294967296 > 2147483647
  · rw [if_pos c, w64 (by omega) (by omega)]
    unfold wrap32
    congr 1
    omega
  · rw [if_neg c]
    unfold wrap32
    congr 1
    omega
theorem w32_w64 (n : Int) : wrap32 (wrap64 n) = wrap32 n := by
  unfold wrap32 wrap64
  omega
end Go.Proofs.Ytpgpajlkgclkaaa.B
namespace Go.Proofs.Ytpgpajlkgclkaaa.B
open Go Go.RowKit Go.Proofs.YtpgpajlkgclkaaaW.PrintWords Go.Proofs.YtpgpajlkgclkaaaW.PrintLast Go.Proofs.YtpgpajlkgclkaaaW.PrintMore Go.Proofs.Ytpgpajlkgclkaaa.PX Go.Proofs.Ytpgpajlkgclkaaa.B
theorem and_255 (n : Int) : Go.bits .and .i64 n 255 = n % 256 := by
  have hm : (BitVec.ofInt 64 255).toNat = 2 ^ 8 - 1 := by decide
  have key : (BitVec.ofInt 64 n &&& BitVec.ofInt 64 255).toNat = (n % ((2 ^ 64 : Nat) : Int)).toNat % 2 ^ 8 := by
    rw [BitVec.toNat_and, BitVec.toNat_ofInt, hm, Nat.and_two_pow_sub_one_eq_mod]
  show IntKind.i64.wrap ((BitVec.ofInt 64 n &&& BitVec.ofInt 64 255).toNat : Nat) = n % 256
  rw [key, IntKind.wrap_i64]
  omega
theorem and_255_in (n : Int) : 0 ≤ Go.bits .and .i64 n 255 ∧ Go.bits .and .i64 n 255 < 256 := by
  rw [and_255]
  omega
/-- a place in a drawing's bytes -/
def Cur (i : Int) : Prop := 0 ≤ i ∧ i ≤ 4096
theorem l1Byte_some (l : List Int) (hl : l.length ≤ 4096) (i h : Int) (hi : Cur i) : ∃ x i' h', spec_l1Byte.f l i h = some (x, i', h') ∧ (0 ≤ x ∧ x < 256) ∧ Cur i' := by
  unfold spec_l1Byte.f
  by_cases c : i < (l.length : Int)
  · rw [if_pos c, if_pos hi.1]
    refine ⟨_, _, _, rfl, and_255_in _, ?_⟩
    have h0 := hi.1
    rw [w64 (n := i + 1) (by omega) (by omega)]
    exact ⟨by omega, by omega⟩
  · rw [if_neg c]
    exact ⟨_, _, _, rfl, and_255_in _, hi⟩
theorem tmod_in (a n : Int) (ha : 0 ≤ a) (hn : 0 < n) : 0 ≤ Int.tmod a n ∧ Int.tmod a n < n := by
  rw [Int.tmod_eq_emod_of_nonneg ha]
  exact ⟨Int.emod_nonneg _ (by omega), Int.emod_lt_of_pos _ hn⟩
theorem l1Below_some (l : List Int) (hl : l.length ≤ 4096) (i h n : Int) (hi : Cur i) (hn : 0 < n) : ∃ r i' h', spec_l1Below.f l i h n = some (r, i', h') ∧ (0 ≤ r ∧ r < n) ∧ Cur i' := by
  obtain ⟨x, i1, h1, e1, b1, c1⟩ := l1Byte_some l hl i h hi
  obtain ⟨y, i2, h2, e2, b2, c2⟩ := l1Byte_some l hl i1 h1 c1
  obtain ⟨z, i3, h3, e3, b3, c3⟩ := l1Byte_some l hl i2 h2 c2
  obtain ⟨w, i4, h4, e4, b4, c4⟩ := l1Byte_some l hl i3 h3 c3
  unfold spec_l1Below.f
  rw [if_neg (by omega)]
  by_cases c : n ≤ 256
  · rw [if_pos c, e1]
    simp only [Option.bind_some]
    rw [if_neg (by omega)]
    exact ⟨_, _, _, rfl, tmod_in _ _ b1.1 hn, c1⟩
  · rw [if_neg c, e1]
    simp only [Option.bind_some, e2, e3, e4]
    rw [if_neg (by omega), w64 (n := x * 16777216) (by omega) (by omega), w64 (n := y * 65536) (by omega) (by omega), w64 (n := x * 16777216 + y * 65536) (by omega) (by omega), w64 (n := z * 256) (by omega) (by omega), w64 (n := x * 16777216 + y * 65536 + z * 256) (by omega) (by omega), w64 (by omega) (by omega)]
    exact ⟨_, _, _, rfl, tmod_in _ _ (by omega) hn, c4⟩
theorem l1Once_some (l : List Int) (hl : l.length ≤ 4096) (i h n : Int) (hi : Cur i) (hn : 0 < n) : ∃ b i' h', spec_l1Once.f l i h n = some (b, i', h') ∧ Cur i' := by
  obtain ⟨r, i', h', e, _, c⟩ := l1Below_some l hl i h n hi hn
  unfold spec_l1Once.f
  rw [e]
  exact ⟨_, _, _, rfl, c⟩
theorem l1New_l0 (l : List Int) (hl : l.length ≤ 4096) (d : Nat) : ∀ (i : Nat) (h : Int), l.length - i = d → i ≤ l.length → ∃ h', LG fun k => spec_l1New.l0 k l h (i : Int) = some (l, 0, h') := by
  induction d with
  | zero =>
    intro i h h1 h2
    refine ⟨h, LG.step fun j => ?_⟩
    simp only [spec_l1New.l0]
    rw [if_neg (by omega)]
  | succ d ih =>
    intro i h h1 h2
    obtain ⟨h', hk⟩ := ih (i + 1) (Go.bits .and .i64 (wrap64 ((wrap64 ((wrap64 (h * 137)) + (wrap64 (rd l i)))) + 11)) 1073741823) (by omega) (by omega)
    refine ⟨h', hk.up fun j hj => ?_⟩
    simp only [spec_l1New.l0]
    rw [if_pos (by omega), if_pos (by omega), w64 (n := (i : Int) + 1) (by omega) (by omega)]
    simpa using hj
theorem l1New_some (l : List Int) (hl : l.length ≤ 4096) : ∃ h', LG fun k => spec_l1New.f k l = some (l, 0, h') := by
  obtain ⟨h', hk⟩ := l1New_l0 l hl l.length 0 (wrap64 (137077 + (l.length : Int))) (by omega) (by omega)
  exact ⟨h', hk⟩
theorem l1DrawWord_some (l : List Int) (hl : l.length ≤ 4096) (i h : Int) (hi : Cur i) : ∃ v i' h', spec_l1DrawWord.f l i h = some (v, i', h') ∧ Cur i' := by
  obtain ⟨r, i1, h1, e1, _, c1⟩ := l1Below_some l hl i h 5 hi (by omega)
  obtain ⟨q, i2, h2, e2, b2, c2⟩ := l1Below_some l hl i1 h1 6 c1 (by omega)
  obtain ⟨s, i3, h3, e3, _, c3⟩ := l1Below_some l hl i1 h1 4294967296 c1 (by omega)
  obtain ⟨t, i4, h4, e4, _, c4⟩ := l1Below_some l hl i1 h1 12 c1 (by omega)
  unfold spec_l1DrawWord.f
  simp only [e1, e2, e3, e4, Option.bind_some]
  by_cases a : r = 0
  · rw [if_pos a, if_pos b2.1, if_pos (by simp only [List.length_cons, List.length_nil]; omega)]
    exact ⟨_, _, _, rfl, c2⟩
  · rw [if_neg a]
    by_cases b : r = 1
    · rw [if_pos b]
      exact ⟨_, _, _, rfl, c3⟩
    · rw [if_neg b]
      exact ⟨_, _, _, rfl, c4⟩
theorem l1DrawAny_some (l : List Int) (hl : l.length ≤ 4096) (i h : Int) (hi : Cur i) : ∃ v i' h', spec_l1DrawAny.f l i h = some (v, i', h') ∧ Cur i' := by
  obtain ⟨r, i1, h1, e1, c1⟩ := l1Once_some l hl i h 8 hi (by omega)
  obtain ⟨q, i2, h2, e2, b2, c2⟩ := l1Below_some l hl i1 h1 4 c1 (by omega)
  obtain ⟨s, i3, h3, e3, c3⟩ := l1DrawWord_some l hl i1 h1 c1
  unfold spec_l1DrawAny.f
  simp only [e1, e2, e3, Option.bind_some]
  by_cases a : r = true
  · rw [if_pos a, if_pos b2.1, if_pos (by simp only [List.length_cons, List.length_nil]; omega)]
    exact ⟨_, _, _, rfl, c2⟩
  · rw [if_neg a]
    exact ⟨_, _, _, rfl, c3⟩
theorem DrawDid_some (l : List Int) (hl : l.length ≤ 4096) : ∃ o a b, LG fun k => spec_DrawDid.f k l = some (o, a, b) := by
  obtain ⟨h0, hk⟩ := l1New_some l hl
  obtain ⟨r, i1, h1, e1, _, c1⟩ := l1Below_some l hl 0 h0 7 ⟨by omega, by omega⟩ (by omega)
  obtain ⟨b, i2, h2, e2, c2⟩ := l1Once_some l hl i1 h1 10 c1 (by omega)
  obtain ⟨q, i3, h3, e3, b3, c3⟩ := l1Below_some l hl i2 h2 2 c2 (by omega)
  obtain ⟨v1, i4, h4, e4, c4⟩ := l1DrawAny_some l hl i3 h3 c3
  obtain ⟨v2, i5, h5, e5, c5⟩ := l1DrawAny_some l hl i4 h4 c4
  obtain ⟨v3, i6, h6, e6, c6⟩ := l1DrawAny_some l hl i2 h2 c2
  obtain ⟨v4, i7, h7, e7, c7⟩ := l1DrawAny_some l hl i6 h6 c6
  by_cases a : b = true
  · refine ⟨rd [0, 8] q, v1, v2, hk.mono fun k h => ?_⟩
    unfold spec_DrawDid.f
    simp only [h, e1, e2, e3, e4, e5, Option.bind_some]
    rw [if_pos a, if_pos b3.1, if_pos (by simp only [List.length_cons, List.length_nil]; omega)]
  · refine ⟨wrap64 (1 + r), v3, v4, hk.mono fun k h => ?_⟩
    unfold spec_DrawDid.f
    simp only [h, e1, e2, e6, e7, Option.bind_some]
    rw [if_neg a]
theorem DrawWrap_some (l : List Int) (hl : l.length ≤ 4096) : ∃ n, LG fun k => spec_DrawWrap.f k l = some n := by
  obtain ⟨h0, hk⟩ := l1New_some l hl
  obtain ⟨v, i1, h1, e1, _⟩ := l1DrawAny_some l hl 0 h0 ⟨by omega, by omega⟩
  refine ⟨v, hk.mono fun k h => ?_⟩
  unfold spec_DrawWrap.f spec_DrawWordOk.f
  simp only [h, e1, Option.bind_some]
end Go.Proofs.Ytpgpajlkgclkaaa.B
namespace Go.Proofs.Ytpgpajlkgclkaaa.B
open Go Go.RowKit Go.Proofs.YtpgpajlkgclkaaaW.PrintWords Go.Proofs.YtpgpajlkgclkaaaW.PrintLast Go.Proofs.YtpgpajlkgclkaaaW.PrintMore Go.Proofs.Ytpgpajlkgclkaaa.PX Go.Proofs.Ytpgpajlkgclkaaa.B
def bitOf (b : Bool) : Int := if b = true then 1 else 0
/-- An operation on two words, and whether it could be done. -/
def didOf (op a b : Int) : Int × Bool :=
  if op = 1 then (wrap32 (a + b), true) else if op = 2 then (wrap32 (a - b), true) else if op = 3 then (wrap32 (a * b), true)
  else if op = 4 then (if b = 0 then (0, false) else (wrap32 (Int.tdiv a b), true))
  else if op = 5 then (bitOf (decide (a < b)), true) else if op = 6 then (bitOf (a == b), true)
  else if op = 7 then (bitOf (decide (a ≠ 0) && decide (b ≠ 0)), true) else (0, false)
def DidOf (op a b : Int) : Int × Bool := if (isWordB a && isWordB b) = true then didOf op a b else (0, false)
theorem impl_bit_eq (b : Bool) : impl_bit.f b = some (bitOf b) := by
  unfold impl_bit.f bitOf
  cases b <;> rfl
theorem spec_bit_eq (b : Bool) : spec_l1Bit.f b = some (bitOf b) := by
  unfold spec_l1Bit.f bitOf
  cases b <;> rfl
theorem impl_did_eq (op a b : Int) : impl_did.f op a b = some (didOf op a b) := by
  unfold impl_did.f didOf
  simp only [impl_wrap_eq, impl_bit_eq, w32_w64, Option.bind_some]
  repeat' split
  all_goals first
    | rfl
    | simp_all [bitOf]
theorem impl_Did_eq (op a b : Int) : impl_Did.f op a b = some (DidOf op a b) := by
  unfold impl_Did.f DidOf
  simp only [impl_isWord_eq, impl_did_eq, Option.bind_some]
  cases isWordB a <;> cases isWordB b <;> simp
theorem spec_Did_j0 (op a b : Int) (bad : Bool) (j : Nat) : spec_Did.j0 (j + 1) op a b bad = some (if bad = true then (0, false) else didOf op a b) := by
  simp only [spec_Did.j0]
  unfold didOf
  simp only [spec_Wrap_eq, spec_bit_eq, w32_w64, Option.bind_some]
  cases bad
  · simp only [Bool.false_eq_true, if_false]
    repeat' split
    all_goals first
      | rfl
      | simp_all [bitOf]
  · simp
theorem spec_Did_eq (op a b : Int) : LG fun k => spec_Did.f k op a b = some (DidOf op a b) := by
  refine LG.step fun j => ?_
  unfold spec_Did.f DidOf
  simp only [l1Word_eq, Option.bind_some, spec_Did_j0]
  cases isWordB a <;> cases isWordB b <;> simp
end Go.Proofs.Ytpgpajlkgclkaaa.B
namespace Go.Proofs.Ytpgpajlkgclkaaa.B
open Go Go.RowKit Go.Proofs.YtpgpajlkgclkaaaW.PrintWords Go.Proofs.YtpgpajlkgclkaaaW.PrintLast Go.Proofs.YtpgpajlkgclkaaaW.PrintMore Go.Proofs.Ytpgpajlkgclkaaa.PX Go.Proofs.Ytpgpajlkgclkaaa.B
theorem wordB_iff (n : Int) : isWordB n = true ↔ -2147483648 ≤ n ∧ n ≤ 2147483647 := by simp [isWordB]
theorem wordB_w32 (n : Int) : isWordB (wrap32 n) = true := (wordB_iff _).mpr (w32_range n)
theorem w32_id {n : Int} (h : -2147483648 ≤ n ∧ n ≤ 2147483647) : wrap32 n = n := by
  unfold wrap32
  omega
theorem w32_sub_add (a b : Int) (ha : isWordB a = true) : wrap32 (wrap32 (a + b) - b) = a := by
  rw [wordB_iff] at ha
  unfold wrap32
  omega
theorem w32_tmod (n : Int) : Int.tmod (wrap64 (wrap32 n - n)) 4294967296 = 0 := by
  apply Int.tmod_eq_zero_of_dvd
  apply Int.dvd_of_emod_eq_zero
  unfold wrap64 wrap32
  omega
theorem DidOf_word (o a b : Int) (ha : isWordB a = true) (hb : isWordB b = true) : DidOf o a b = didOf o a b := by
  unfold DidOf
  rw [ha, hb]
  rfl
/-- the quotient of two words: its product with the divisor, and what is left -/
theorem div_facts (a b : Int) (ha : isWordB a = true) (hb : isWordB b = true) (h0 : b ≠ 0) (hn : ¬ (a = -2147483648 ∧ b = -1)) :
    wrap32 (Int.tdiv a b) = Int.tdiv a b ∧ wrap32 (Int.tdiv a b * b) = Int.tdiv a b * b ∧ wrap32 (a - Int.tdiv a b * b) = Int.tmod a b ∧ (Int.tmod a b < b ∧ Int.tmod a b > -b ∨ Int.tmod a b < -b ∧ Int.tmod a b > b) := by
  rw [wordB_iff] at ha hb
  have hq : Int.tmod a b + b * Int.tdiv a b = a := Int.tmod_add_mul_tdiv a b
  have hc : b * Int.tdiv a b = Int.tdiv a b * b := Int.mul_comm _ _
  have hl : (Int.tmod a b).natAbs < b.natAbs := by rw [Int.natAbs_tmod]; exact Nat.mod_lt _ (by omega)
  have hd : (Int.tdiv a b).natAbs ≤ a.natAbs := by rw [Int.natAbs_tdiv]; exact Nat.div_le_self _ _
  have hs : (Int.tmod a b).natAbs ≤ a.natAbs := by rw [Int.natAbs_tmod]; exact Nat.mod_le _ _
  have hp : (Int.tdiv a b * b).natAbs ≤ a.natAbs := by rw [Int.natAbs_mul, Int.natAbs_tdiv]; exact Nat.div_mul_le_self _ _
  have hsg : 0 ≤ a → 0 ≤ Int.tmod a b := fun h => Int.tmod_nonneg _ h
  have hdd : Int.tdiv a b ≠ 2147483648 := by
    intro e
    have hN : (Int.tdiv a b).natAbs = a.natAbs / b.natAbs := Int.natAbs_tdiv a b
    have h1 : a.natAbs / b.natAbs = 2147483648 := by rw [← hN, e]; rfl
    have h2 : a.natAbs ≤ 2147483648 := by omega
    have h3 : b.natAbs = 1 := by
      rcases Nat.lt_or_ge b.natAbs 2 with h | h
      · omega
      · have := Nat.div_le_div_left (a := a.natAbs) h (by omega)
        omega
    rcases (by omega : b = 1 ∨ b = -1) with rfl | rfl
    · rw [Int.tdiv_one] at e; omega
    · rw [e] at hq
      rw [e] at hp
      have : a.natAbs = 2147483648 := by rw [h3] at h1; omega
      apply hn
      refine ⟨?_, rfl⟩
      omega
  generalize Int.tdiv a b = q at *
  generalize Int.tmod a b = m at *
  generalize q * b = p at *
  rw [hc] at hq
  have hpm : p ≠ 2147483648 := by
    intro e
    have := hsg (by omega)
    omega
  refine ⟨w32_id ⟨by omega, by omega⟩, w32_id ⟨by omega, by omega⟩, ?_, by omega⟩
  rw [show a - p = m by omega]
  exact w32_id ⟨by omega, by omega⟩
end Go.Proofs.Ytpgpajlkgclkaaa.B
namespace Go.Proofs.Ytpgpajlkgclkaaa.Pure
open Go Go.RowKit Go.Proofs.YtpgpajlkgclkaaaW.PrintWords Go.Proofs.YtpgpajlkgclkaaaW.PrintLast Go.Proofs.YtpgpajlkgclkaaaW.PrintMore Go.Proofs.Ytpgpajlkgclkaaa.PX Go.Proofs.Ytpgpajlkgclkaaa.B
theorem WordOk_eq (n : Int) : impl_WordOk.f n = some (isWordB n) := by
  unfold impl_WordOk.f
  rw [impl_isWord_eq]
  rfl
theorem sWordOk_eq (n : Int) : spec_WordOk.f n = some (isWordB n) := by
  unfold spec_WordOk.f
  rw [l1Word_eq]
  rfl
theorem iWrap_eq (n : Int) : impl_Wrap.f n = some (wrap32 n) := by
  unfold impl_Wrap.f
  rw [impl_wrap_eq]
  rfl
theorem didOf_false {o a b v : Int} (h : didOf o a b = (v, false)) : v = 0 ∧ (o < 1 ∨ o > 7 ∨ (o = 4 ∧ b = 0)) := by
  unfold didOf at h
  by_cases c1 : o = 1
  · simp [c1] at h
  by_cases c2 : o = 2
  · simp [c2] at h
  by_cases c3 : o = 3
  · simp [c3] at h
  by_cases c4 : o = 4
  · subst c4
    by_cases hb : b = 0
    · simp [hb] at h
      exact ⟨h.symm, by omega⟩
    · simp [hb] at h
  by_cases c5 : o = 5
  · simp [c5] at h
  by_cases c6 : o = 6
  · simp [c6] at h
  by_cases c7 : o = 7
  · simp [c7] at h
  simp [c1, c2, c3, c4, c5, c6, c7] at h
  exact ⟨h.symm, by omega⟩
theorem bitOf_in (b : Bool) : bitOf b = 0 ∨ bitOf b = 1 := by cases b <;> simp [bitOf]
theorem j1_true (o a b v : Int) (is : Bool) (h : DidOf o a b = (v, is)) (j : Nat) : laws_FnWords.j1 (j + 1) o a b v is false = some true := by
  simp only [laws_FnWords.j1, Bool.false_eq_true, if_false]
  cases is with
  | false =>
    rw [if_neg (by simp)]
    by_cases hw : (isWordB a && isWordB b) = true
    · unfold DidOf at h
      rw [if_pos hw] at h
      rw [Bool.and_eq_true] at hw
      obtain ⟨hv, ho⟩ := didOf_false h
      rw [if_pos hv]
      by_cases c1 : o < 1
      · rw [if_pos c1]
      · rw [if_neg c1]
        by_cases c2 : o > 7
        · rw [if_pos c2]
        · rw [if_neg c2, WordOk_eq, WordOk_eq, hw.1, hw.2]
          have h4 : o = 4 ∧ b = 0 := by omega
          simp [h4.1, h4.2]
    · unfold DidOf at h
      rw [if_neg hw] at h
      have hv : v = 0 := by injection h with h1 _; exact h1.symm
      rw [if_pos hv]
      by_cases c1 : o < 1
      · rw [if_pos c1]
      · rw [if_neg c1]
        by_cases c2 : o > 7
        · rw [if_pos c2]
        · rw [if_neg c2, WordOk_eq, WordOk_eq]
          cases ha : isWordB a
          · simp
          · cases hb : isWordB b
            · simp
            · rw [ha, hb] at hw
              exact absurd rfl hw
  | true =>
    rw [if_pos rfl]
    have hw : (isWordB a && isWordB b) = true := by
      cases hc : (isWordB a && isWordB b)
      · unfold DidOf at h
        rw [hc] at h
        simp at h
      · rfl
    unfold DidOf at h
    rw [if_pos hw] at h
    rw [Bool.and_eq_true] at hw
    obtain ⟨ha, hb⟩ := hw
    unfold didOf at h
    by_cases c1 : o = 1
    · rw [if_pos c1] at h ⊢
      have hv : wrap32 (a + b) = v := by injection h
      subst hv
      rw [impl_Did_eq, DidOf_word _ _ _ (wordB_w32 _) hb]
      simp [didOf, w32_sub_add a b ha]
    rw [if_neg c1] at h ⊢
    by_cases c3 : o = 3
    · rw [if_neg (by omega), if_pos c3] at h
      rw [if_pos c3]
      have hv : wrap32 (a * b) = v := by injection h
      subst hv
      rw [impl_Did_eq, DidOf_word _ _ _ hb ha]
      simp [didOf, Int.mul_comm b a]
    rw [if_neg c3]
    by_cases c4 : o = 4
    · rw [if_neg (by omega), if_neg c3, if_pos c4] at h
      rw [if_pos c4]
      by_cases hb0 : b = 0
      · rw [if_pos hb0] at h
        injection h with _ h2
        exact absurd h2 (by simp)
      rw [if_neg hb0] at h
      have hv : wrap32 (Int.tdiv a b) = v := by injection h
      subst hv
      have e1 : impl_Did.f 3 (wrap32 (Int.tdiv a b)) b = some (wrap32 (wrap32 (Int.tdiv a b) * b), true) := by
        rw [impl_Did_eq, DidOf_word _ _ _ (wordB_w32 _) hb]
        rfl
      have e2 : ∀ x, isWordB x = true → impl_Did.f 2 a x = some (wrap32 (a - x), true) := fun x hx => by
        rw [impl_Did_eq, DidOf_word _ _ _ ha hx]
        rfl
      rw [e1]
      simp only [Option.bind_some]
      rw [e2 _ (wordB_w32 _)]
      simp only [Option.bind_some]
      have hbr := (wordB_iff b).mp hb
      rw [w64 (n := -b) (by omega) (by omega)]
      by_cases hs : a = -2147483648 ∧ b = -1
      · rw [if_pos hs.1, if_pos hs.2]
      · obtain ⟨f1, f2, f3, f4⟩ := div_facts a b ha hb hb0 hs
        rw [f1, f2, f3]
        generalize Int.tmod a b = m at f4 ⊢
        have inner : (if m < b then (if m > -b then (some true) else (if m < -b then (some (decide (m > b))) else (some false))) else (if m < -b then (some (decide (m > b))) else (some false))) = some true := by
          rcases f4 with ⟨g1, g2⟩ | ⟨g1, g2⟩
          · rw [if_pos g1, if_pos g2]
          · by_cases g3 : m < b
            · omega
            · rw [if_neg g3, if_pos g1, decide_eq_true g2]
        by_cases c : a = -2147483648
        · rw [if_pos c, if_neg (fun hb1 => hs ⟨c, hb1⟩)]
          exact inner
        · rw [if_neg c]
          exact inner
    rw [if_neg c4, WordOk_eq]
    simp only [Option.bind_some]
    rw [if_neg c3, if_neg c4] at h
    by_cases c2 : o = 2
    · rw [if_pos c2] at h
      have hv : wrap32 (a - b) = v := by injection h
      subst hv
      rw [if_pos (wordB_w32 _), if_pos (by omega)]
    rw [if_neg c2] at h
    have hbit : v = 0 ∨ v = 1 := by
      by_cases c5 : o = 5
      · rw [if_pos c5] at h
        have hv : bitOf (decide (a < b)) = v := by injection h
        rw [← hv]; exact bitOf_in _
      rw [if_neg c5] at h
      by_cases c6 : o = 6
      · rw [if_pos c6] at h
        have hv : bitOf (a == b) = v := by injection h
        rw [← hv]; exact bitOf_in _
      rw [if_neg c6] at h
      by_cases c7 : o = 7
      · rw [if_pos c7] at h
        have hv : bitOf (decide (a ≠ 0) && decide (b ≠ 0)) = v := by injection h
        rw [← hv]; exact bitOf_in _
      rw [if_neg c7] at h
      injection h with _ h2
      exact absurd h2 (by simp)
    have hwv : isWordB v = true := (wordB_iff v).mpr (by omega)
    rw [if_pos hwv]
    rcases hbit with rfl | rfl <;> simp
theorem j0_true (o a b v n : Int) (is : Bool) (h : DidOf o a b = (v, is)) (j : Nat) : laws_FnWords.j0 (j + 2) o a b v is n (wrap32 n) false = some true := by
  simp only [laws_FnWords.j0, Bool.false_eq_true, if_false, WordOk_eq, iWrap_eq, Option.bind_some]
  have e : wrap32 (wrap32 n) = wrap32 n := w32_id (w32_range n)
  rw [if_pos (wordB_w32 n), if_pos (w32_tmod n), e]
  simp only [bne_self_eq_false]
  by_cases hw : isWordB n = true
  · rw [if_pos hw, if_pos (w32_id ((wordB_iff n).mp hw))]
    exact j1_true o a b v is h j
  · rw [if_neg hw]
    exact j1_true o a b v is h j
theorem FnWords : FnWords_Pure := by
  intro l hl
  by_cases hb : (l.length : Int) > 4096
  · refine ⟨0, ?_⟩
    unfold laws_FnWords.f laws_big.f
    simp only [decide_eq_true hb, Option.bind_some, if_true]
  · obtain ⟨o, a, b, h1⟩ := DrawDid_some l (by omega)
    obtain ⟨n, h2⟩ := DrawWrap_some l (by omega)
    obtain ⟨K, hK⟩ := (h1.and h2).and (spec_Did_eq o a b)
    obtain ⟨⟨f1, f2⟩, f3⟩ := hK (K + 2) (by omega)
    refine ⟨K + 2, ?_⟩
    have hd : decide ((l.length : Int) > 4096) = false := decide_eq_false hb
    have hj := j0_true o a b (DidOf o a b).1 n (DidOf o a b).2 rfl K
    unfold laws_FnWords.f laws_big.f
    simp only [hd, f1, f2, f3, impl_Did_eq, iWrap_eq, spec_Wrap_eq, WordOk_eq, sWordOk_eq, Option.bind_some, Bool.false_eq_true, if_false, if_true, bne_self_eq_false, hj]
end Go.Proofs.Ytpgpajlkgclkaaa.Pure
