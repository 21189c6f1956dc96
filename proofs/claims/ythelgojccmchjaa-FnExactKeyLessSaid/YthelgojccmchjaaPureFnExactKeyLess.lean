import Derived.Test.YthelgojccmchjaaPXx0
import Derived.Test.YthelgojccmchjaaPXx2
import Derived.Test.YthelgojccmchjaaPXx3
import Derived.Test.YthelgojccmchjaaPXx7
import Derived.Test.YthelgojccmchjaaPXx8
import Derived.Test.YthelgojccmchjaaPXx9
import Derived.Test.YthelgojccmchjaaStFnExactKeyLess
import Derived.Lib.Bytealg
import Derived.Test.YthelgojccmchjaaWMore
set_option linter.unusedVariables false
set_option linter.unusedSimpArgs false
namespace Go.Proofs.Ythelgojccmchjaa.B
open Go Go.RowKit Go.Proofs.YthelgojccmchjaaW.PrintWords Go.Proofs.YthelgojccmchjaaW.PrintLast Go.Proofs.YthelgojccmchjaaW.PrintMore Go.Proofs.Ythelgojccmchjaa.PX
/-- From some number of rounds on. -/
def LG (p : Nat → Prop) : Prop := ∃ K, ∀ k, K ≤ k → p k
namespace LG
theorem all {p : Nat → Prop} (h : ∀ k, p k) : LG p := ⟨0, fun k _ => h k⟩
theorem step {p : Nat → Prop} (h : ∀ j, p (j + 1)) : LG p := ⟨1, fun k hk => by
  obtain ⟨j, rfl⟩ : ∃ j, k = j + 1 := ⟨k - 1, by omega⟩
  exact h j⟩
theorem and {p q : Nat → Prop} (h : LG p) (g : LG q) : LG fun k => p k ∧ q k := by
  obtain ⟨a, h⟩ := h
  obtain ⟨b, g⟩ := g
  exact ⟨max a b, fun k hk => ⟨h k (by omega), g k (by omega)⟩⟩
theorem mono {p q : Nat → Prop} (h : LG p) (g : ∀ k, p k → q k) : LG q := by
  obtain ⟨a, h⟩ := h
  exact ⟨a, fun k hk => g k (h k hk)⟩
/-- One round: what holds of j holds of j + 1 rounds. -/
theorem up {p q : Nat → Prop} (h : LG p) (g : ∀ j, p j → q (j + 1)) : LG q := by
  obtain ⟨a, h⟩ := h
  refine ⟨a + 1, fun k hk => ?_⟩
  obtain ⟨j, rfl⟩ : ∃ j, k = j + 1 := ⟨k - 1, by omega⟩
  exact g j (h j (by omega))
theorem rounds {p : Nat → Prop} (h : LG p) : ∃ k, p k := by
  obtain ⟨a, h⟩ := h
  exact ⟨a, h a (Nat.le_refl _)⟩
end LG
def I64 (n : Int) : Prop := -9223372036854775808 ≤ n ∧ n ≤ 9223372036854775807
theorem i64_of {n : Int} (h : (Lit.int .i64 n).wf = true) : I64 n := by
  simp only [Lit.wf, IntKind.min, IntKind.max, IntKind.signed, IntKind.bits, Bool.and_eq_true, decide_eq_true_eq, if_true] at h
  unfold I64
  omega
theorem w64 {n : Int} (h0 : -9223372036854775808 ≤ n) (h1 : n ≤ 9223372036854775807) : wrap64 n = n := by
  unfold wrap64
  omega
theorem bt_get (s : ByteArray) (i : Nat) (h : i < s.data.toList.length) : bt s (i : Int) = ((s.data.toList[i]).toNat : Int) := by
  have hs : (i : Int).toNat < s.size := by
    have : s.size = s.data.toList.length := by rw [Array.length_toList]; rfl
    omega
  unfold bt
  rw [dif_pos hs]
  rfl
theorem size_len (s : ByteArray) : s.data.toList.length = s.size := by rw [Array.length_toList]; rfl
end Go.Proofs.Ythelgojccmchjaa.B
namespace Go.Proofs.Ythelgojccmchjaa.B
open Go Go.RowKit Go.Proofs.YthelgojccmchjaaW.PrintWords Go.Proofs.YthelgojccmchjaaW.PrintLast Go.Proofs.YthelgojccmchjaaW.PrintMore Go.Proofs.Ythelgojccmchjaa.PX Go.Proofs.Ythelgojccmchjaa.B
/-- all bytes are from a to z -/
def nameRun (l : List UInt8) : Bool := l.all fun c => decide (97 ≤ c.toNat) && decide (c.toNat ≤ 122)
def isNameB (s : ByteArray) : Bool := nameRun s.data.toList && (decide (1 ≤ s.size) && decide (s.size ≤ 8))
theorem nameRun_at (l : List UInt8) (i : Nat) (h : i < l.length) : nameRun (l.drop i) = (decide (97 ≤ (l[i]).toNat) && decide ((l[i]).toNat ≤ 122) && nameRun (l.drop (i + 1))) := by
  rw [List.drop_eq_getElem_cons h]
  simp only [nameRun, List.all_cons]
end Go.Proofs.Ythelgojccmchjaa.B
namespace Go.Proofs.Ythelgojccmchjaa.B
open Go Go.RowKit Go.Proofs.YthelgojccmchjaaW.PrintWords Go.Proofs.YthelgojccmchjaaW.PrintLast Go.Proofs.YthelgojccmchjaaW.PrintMore Go.Proofs.Ythelgojccmchjaa.PX Go.Proofs.Ythelgojccmchjaa.B
def isWordB (n : Int) : Bool := decide (-2147483648 ≤ n) && decide (n ≤ 2147483647)
theorem l1In_eq (a b c : Int) : spec_l1In.f a b c = some (decide (b ≤ a) && decide (a ≤ c)) := by
  unfold spec_l1In.f
  by_cases h : a ≥ b
  · rw [if_pos h, decide_eq_true (show b ≤ a from h), Bool.true_and]
  · rw [if_neg h, decide_eq_false (show ¬ b ≤ a from h), Bool.false_and]
theorem l1Word_eq (n : Int) : spec_l1Word.f n = some (isWordB n) := by
  unfold spec_l1Word.f
  rw [l1In_eq]
  rfl
theorem w32_range (n : Int) : -2147483648 ≤ wrap32 n ∧ wrap32 n ≤ 2147483647 := by
  unfold wrap32
  omega
theorem impl_wrap_eq (n : Int) : impl_wrap.f n = some (wrap32 n) := by
  have := w32_range n
  unfold impl_wrap.f
  rw [w64 (by omega) (by omega)]
theorem isWordB_wrap (n : Int) : (n == wrap32 n) = isWordB n := by
  unfold isWordB
  rw [Bool.eq_iff_iff]
  simp only [beq_iff_eq, Bool.and_eq_true, decide_eq_true_eq]
  unfold wrap32
  omega
theorem impl_isWord_eq (n : Int) : impl_isWord.f n = some (isWordB n) := by
  unfold impl_isWord.f
  rw [impl_wrap_eq]
  simp only [Option.bind_some]
  rw [isWordB_wrap]
end Go.Proofs.Ythelgojccmchjaa.B
namespace Go.Proofs.Ythelgojccmchjaa.B
open Go Go.RowKit Go.Proofs.YthelgojccmchjaaW.PrintWords Go.Proofs.YthelgojccmchjaaW.PrintLast Go.Proofs.YthelgojccmchjaaW.PrintMore Go.Proofs.Ythelgojccmchjaa.PX Go.Proofs.Ythelgojccmchjaa.B
theorem spec_NameOk_l0 (s : ByteArray) (hs : s.size ≤ 9223372036854775807) (d : Nat) : ∀ i : Nat, i ≤ s.size → s.size - i = d →
    LG fun k => spec_NameOk.l0 k s (i : Int) = some (nameRun (s.data.toList.drop i) && (decide (1 ≤ s.size) && decide (s.size ≤ 8))) := by
  have hl := size_len s
  induction d with
  | zero =>
    intro i h1 h2
    refine LG.step fun j => ?_
    obtain rfl : i = s.size := by omega
    simp only [spec_NameOk.l0]
    rw [if_neg (by omega), l1In_eq]
    have e : nameRun (s.data.toList.drop s.size) = true := by rw [List.drop_of_length_le (by omega)]; rfl
    rw [e, Bool.true_and, Option.bind_some]
    congr 1
    rw [Bool.eq_iff_iff]
    simp only [Bool.and_eq_true, decide_eq_true_eq]
    omega
  | succ d ih =>
    intro i h1 h2
    have hi : i < s.data.toList.length := by omega
    refine (ih (i + 1) (by omega) (by omega)).up fun j hj => ?_
    simp only [spec_NameOk.l0]
    rw [if_pos (by omega), if_pos (by omega), bt_get s i hi, nameRun_at _ i hi]
    by_cases ha : (97 : Nat) ≤ (s.data.toList[i]).toNat
    · rw [if_neg (by omega)]
      by_cases hb : (s.data.toList[i]).toNat ≤ 122
      · rw [if_neg (by omega), w64 (by omega) (by omega), decide_eq_true ha, decide_eq_true hb]
        simpa using hj
      · rw [if_pos (by omega), decide_eq_false hb]
        simp
    · rw [if_pos (by omega), decide_eq_false ha]
      simp
theorem spec_NameOk_eq (s : ByteArray) (hs : s.size ≤ 9223372036854775807) : LG fun k => spec_NameOk.f k s = some (isNameB s) :=
  spec_NameOk_l0 s hs s.size 0 (by omega) (by omega)
end Go.Proofs.Ythelgojccmchjaa.B
namespace Go.Proofs.Ythelgojccmchjaa.B
open Go Go.RowKit Go.Proofs.YthelgojccmchjaaW.PrintWords Go.Proofs.YthelgojccmchjaaW.PrintLast Go.Proofs.YthelgojccmchjaaW.PrintMore Go.Proofs.Ythelgojccmchjaa.PX Go.Proofs.Ythelgojccmchjaa.B
def isTimeB (t : Int) : Bool := decide (0 ≤ t) && decide (t ≤ 1000000)
def isKeyB (r b : ByteArray) (t : Int) : Bool := isNameB r && (isNameB b && isTimeB t)
end Go.Proofs.Ythelgojccmchjaa.B
namespace Go.Proofs.Ythelgojccmchjaa.B
open Go Go.RowKit Go.Proofs.YthelgojccmchjaaW.PrintWords Go.Proofs.YthelgojccmchjaaW.PrintLast Go.Proofs.YthelgojccmchjaaW.PrintMore Go.Proofs.Ythelgojccmchjaa.PX Go.Proofs.Ythelgojccmchjaa.B
theorem l2Time_eq (t : Int) : spec_l2Time.f t = some (isTimeB t) := by
  unfold spec_l2Time.f
  rw [l1In_eq]
  rfl
theorem spec_KeyOk_eq (r b : ByteArray) (t : Int) (hr : r.size ≤ 9223372036854775807) (hb : b.size ≤ 9223372036854775807) : LG fun k => spec_KeyOk.f k r b t = some (isKeyB r b t) := by
  refine ((spec_NameOk_eq r hr).and (spec_NameOk_eq b hb)).mono fun k ⟨h1, h2⟩ => ?_
  unfold spec_KeyOk.f isKeyB
  simp only [h1, h2, l2Time_eq, Option.bind_some]
  cases isNameB r <;> cases isNameB b <;> simp
end Go.Proofs.Ythelgojccmchjaa.B
namespace Go.Proofs.Ythelgojccmchjaa.B
open Go Go.RowKit Go.Proofs.YthelgojccmchjaaW.PrintWords Go.Proofs.YthelgojccmchjaaW.PrintLast Go.Proofs.YthelgojccmchjaaW.PrintMore Go.Proofs.Ythelgojccmchjaa.PX Go.Proofs.Ythelgojccmchjaa.B
theorem impl_isName_l0 (s : ByteArray) (hs : s.size ≤ 9223372036854775807) (d : Nat) : ∀ i : Nat, i ≤ s.size → s.size - i = d →
    LG fun k => impl_isName.l0 k s (s.size : Int) (i : Int) = some (nameRun (s.data.toList.drop i) && (decide (1 ≤ s.size) && decide (s.size ≤ 8))) := by
  have hl := size_len s
  induction d with
  | zero =>
    intro i h1 h2
    refine LG.step fun j => ?_
    obtain rfl : i = s.size := by omega
    simp only [impl_isName.l0]
    rw [if_neg (by omega)]
    have e : nameRun (s.data.toList.drop s.size) = true := by rw [List.drop_of_length_le (by omega)]; rfl
    rw [e, Bool.true_and]
    by_cases h : 1 ≤ s.size
    · rw [if_pos (by omega), decide_eq_true h, Bool.true_and]
      congr 1
      rw [Bool.eq_iff_iff]
      simp only [decide_eq_true_eq]
      omega
    · rw [if_neg (by omega), decide_eq_false h, Bool.false_and]
  | succ d ih =>
    intro i h1 h2
    have hi : i < s.data.toList.length := by omega
    refine (ih (i + 1) (by omega) (by omega)).up fun j hj => ?_
    simp only [impl_isName.l0]
    rw [if_pos (by omega), if_pos (by omega), if_pos (by omega), bt_get s i hi, nameRun_at _ i hi]
    by_cases ha : (97 : Nat) ≤ (s.data.toList[i]).toNat
    · rw [if_neg (by omega)]
      by_cases hb : (s.data.toList[i]).toNat ≤ 122
      · rw [if_neg (by omega), w64 (by omega) (by omega), decide_eq_true ha, decide_eq_true hb]
        simpa using hj
      · rw [if_pos (by omega), decide_eq_false hb]
        simp
    · rw [if_pos (by omega), decide_eq_false ha]
      simp
theorem impl_isName_eq (s : ByteArray) (hs : s.size ≤ 9223372036854775807) : LG fun k => impl_isName.f k s = some (isNameB s) :=
  impl_isName_l0 s hs s.size 0 (by omega) (by omega)
end Go.Proofs.Ythelgojccmchjaa.B
namespace Go.Proofs.Ythelgojccmchjaa.B
open Go Go.RowKit Go.Proofs.YthelgojccmchjaaW.PrintWords Go.Proofs.YthelgojccmchjaaW.PrintLast Go.Proofs.YthelgojccmchjaaW.PrintMore Go.Proofs.Ythelgojccmchjaa.PX Go.Proofs.Ythelgojccmchjaa.B
theorem within_eq (a b c : Int) : impl_within.f a b c = some (decide (b ≤ a) && decide (a ≤ c)) := by
  unfold impl_within.f
  by_cases h : a ≥ b
  · rw [if_pos h, decide_eq_true (show b ≤ a from h), Bool.true_and]
  · rw [if_neg h, decide_eq_false (show ¬ b ≤ a from h), Bool.false_and]
end Go.Proofs.Ythelgojccmchjaa.B
namespace Go.Proofs.Ythelgojccmchjaa.B
open Go Go.RowKit Go.Proofs.YthelgojccmchjaaW.PrintWords Go.Proofs.YthelgojccmchjaaW.PrintLast Go.Proofs.YthelgojccmchjaaW.PrintMore Go.Proofs.Ythelgojccmchjaa.PX Go.Proofs.Ythelgojccmchjaa.B
theorem isTime_eq (t : Int) : impl_isTime.f t = some (isTimeB t) := by
  unfold impl_isTime.f
  rw [within_eq]
  rfl
theorem impl_isKey_eq (r b : ByteArray) (t : Int) (hr : r.size ≤ 9223372036854775807) (hb : b.size ≤ 9223372036854775807) : LG fun k => impl_isKey.f k r b t = some (isKeyB r b t) := by
  refine ((impl_isName_eq r hr).and (impl_isName_eq b hb)).mono fun k ⟨h1, h2⟩ => ?_
  unfold impl_isKey.f isKeyB
  simp only [h1, h2, isTime_eq, Option.bind_some]
  cases isNameB r <;> cases isNameB b <;> simp
end Go.Proofs.Ythelgojccmchjaa.B
namespace Go.Proofs.Ythelgojccmchjaa.B
open Go Go.RowKit Go.Proofs.YthelgojccmchjaaW.PrintWords Go.Proofs.YthelgojccmchjaaW.PrintLast Go.Proofs.YthelgojccmchjaaW.PrintMore Go.Proofs.Ythelgojccmchjaa.PX Go.Proofs.Ythelgojccmchjaa.B
theorem getD_nat {α : Type} (xs : List α) (z : α) (i : Nat) (h : i < xs.length) : xs.getD (i : Int).toNat z = xs[i] := by
  rw [Int.toNat_natCast, List.getD_eq_getElem?_getD, List.getElem?_eq_getElem h]
  rfl
theorem set_take {α : Type} (xs : List α) (i : Nat) (v : α) (h : i < xs.length) : (xs.set i v).take (i + 1) = xs.take i ++ [v] := by
  rw [List.take_succ_eq_append_getElem (by simpa using h), List.take_set_of_le (Nat.le_refl i), List.getElem_set_self]
theorem take_map_succ {α β : Type} (f : α → β) (xs : List α) (i : Nat) (h : i < xs.length) : (xs.map f).take (i + 1) = (xs.map f).take i ++ [f xs[i]] := by
  rw [List.take_succ_eq_append_getElem (by simpa using h), List.getElem_map]
theorem take_all {α : Type} {xs ys : List α} {n : Nat} (hx : xs.length = n) (hy : ys.length = n) (h : xs.take n = ys.take n) : xs = ys := by
  rw [List.take_of_length_le (by omega), List.take_of_length_le (by omega)] at h
  exact h
theorem toList_eq (s : ByteArray) : s.toList = s.data.toList := by
  first | exact ByteArray.toList_eq s | simp
theorem toList_inj (s t : ByteArray) : s.toList = t.toList ↔ s = t := by
  rw [toList_eq, toList_eq]
  constructor
  · intro h
    obtain ⟨⟨l⟩⟩ := s
    obtain ⟨⟨m⟩⟩ := t
    simp at h
    rw [h]
  · rintro rfl
    rfl
end Go.Proofs.Ythelgojccmchjaa.B
namespace Go.Proofs.Ythelgojccmchjaa.B
open Go Go.RowKit Go.Proofs.YthelgojccmchjaaW.PrintWords Go.Proofs.YthelgojccmchjaaW.PrintLast Go.Proofs.YthelgojccmchjaaW.PrintMore Go.Proofs.Ythelgojccmchjaa.PX Go.Proofs.Ythelgojccmchjaa.B
/-! the order of texts -/
theorem bl_irrefl : ∀ a : List UInt8, Op.bytesLess a a = false
  | [] => rfl
  | c :: a => by simp [Op.bytesLess, bl_irrefl a]
theorem bl_trans : ∀ a b c : List UInt8, Op.bytesLess a b = true → Op.bytesLess b c = true → Op.bytesLess a c = true
  | _, _, [], _, h => by simp [Op.bytesLess] at h
  | _, [], _ :: _, h, _ => by simp [Op.bytesLess] at h
  | [], _ :: _, _ :: _, _, _ => by simp [Op.bytesLess]
  | x :: a, y :: b, z :: c, h, g => by
    simp only [Op.bytesLess, Bool.or_eq_true, decide_eq_true_eq, Bool.and_eq_true, beq_iff_eq] at h g ⊢
    rcases h with h | ⟨rfl, h⟩
    · rcases g with g | ⟨rfl, g⟩
      · exact .inl (UInt8.lt_trans h g)
      · exact .inl h
    · rcases g with g | ⟨rfl, g⟩
      · exact .inl g
      · exact .inr ⟨rfl, bl_trans a b c h g⟩
theorem cb_cases : ∀ a b : List UInt8, (Lib.compareBytes a b = -1 ∧ Op.bytesLess a b = true) ∨ (Lib.compareBytes a b = 0 ∧ a = b) ∨ (Lib.compareBytes a b = 1 ∧ Op.bytesLess b a = true)
  | [], [] => by simp [Lib.compareBytes]
  | [], _ :: _ => by simp [Lib.compareBytes, Op.bytesLess]
  | _ :: _, [] => by simp [Lib.compareBytes, Op.bytesLess]
  | x :: a, y :: b => by
    simp only [Lib.compareBytes, Op.bytesLess]
    by_cases h : x < y
    · simp [h]
    · by_cases g : y < x
      · simp [h, g]
      · have e : x = y := by
          have h1 : ¬ x.toNat < y.toNat := h
          have h2 : ¬ y.toNat < x.toNat := g
          exact UInt8.toNat_inj.mp (by omega)
        subst e
        rcases cb_cases a b with ⟨h1, h2⟩ | ⟨h1, h2⟩ | ⟨h1, h2⟩
        · simp [h1, h2]
        · subst h2
          simp [h1]
        · simp [h1, h2]
theorem bl_asymm (a b : List UInt8) (h : Op.bytesLess a b = true) : Op.bytesLess b a = false := by
  cases e : Op.bytesLess b a
  · rfl
  · have := bl_trans a b a h e
    rw [bl_irrefl] at this
    exact absurd this (by simp)
theorem bl_tri (a b : List UInt8) : Op.bytesLess a b = true ∨ a = b ∨ Op.bytesLess b a = true := by
  rcases cb_cases a b with h | h | h
  · exact .inl h.2
  · exact .inr (.inl h.2)
  · exact .inr (.inr h.2)
end Go.Proofs.Ythelgojccmchjaa.B
namespace Go.Proofs.Ythelgojccmchjaa.B
open Go Go.RowKit Go.Proofs.YthelgojccmchjaaW.PrintWords Go.Proofs.YthelgojccmchjaaW.PrintLast Go.Proofs.YthelgojccmchjaaW.PrintMore Go.Proofs.Ythelgojccmchjaa.PX Go.Proofs.Ythelgojccmchjaa.B
structure S31 where
  f0 : ByteArray
  f1 : ByteArray
  f2 : Int
/-- a key comes ahead of another one -/
def klt (a b : S31) : Bool :=
  if a.f0 = b.f0 then (if a.f1 = b.f1 then decide (a.f2 > b.f2) else Op.bytesLess a.f1.toList b.f1.toList) else Op.bytesLess a.f0.toList b.f0.toList
theorem klt_irrefl (a : S31) : klt a a = false := by simp [klt]
theorem tl_ne {s t : ByteArray} (h : s ≠ t) : s.toList ≠ t.toList := fun e => h ((toList_inj s t).mp e)
theorem bl_ne {s t : ByteArray} (h : Op.bytesLess s.toList t.toList = true) : s ≠ t := by
  rintro rfl
  rw [bl_irrefl] at h
  exact absurd h (by simp)
theorem klt_iff (a b : S31) : klt a b = true ↔ Op.bytesLess a.f0.toList b.f0.toList = true ∨ (a.f0 = b.f0 ∧ (Op.bytesLess a.f1.toList b.f1.toList = true ∨ (a.f1 = b.f1 ∧ b.f2 < a.f2))) := by
  unfold klt
  by_cases h : a.f0 = b.f0
  · rw [if_pos h]
    have e : Op.bytesLess a.f0.toList b.f0.toList = false := by rw [h]; exact bl_irrefl _
    by_cases g : a.f1 = b.f1
    · rw [if_pos g]
      have e2 : Op.bytesLess a.f1.toList b.f1.toList = false := by rw [g]; exact bl_irrefl _
      simp [h, g, e, e2, bl_irrefl]
    · rw [if_neg g]
      simp [h, g, bl_irrefl]
  · rw [if_neg h]
    simp [h]
theorem klt_trans (a b c : S31) (h : klt a b = true) (g : klt b c = true) : klt a c = true := by
  rw [klt_iff] at h g ⊢
  rcases h with h | ⟨h0, h⟩
  · rcases g with g | ⟨g0, g⟩
    · exact .inl (bl_trans _ _ _ h g)
    · exact .inl (by rw [← g0]; exact h)
  · rcases g with g | ⟨g0, g⟩
    · exact .inl (by rw [h0]; exact g)
    · refine .inr ⟨h0.trans g0, ?_⟩
      rcases h with h | ⟨h1, h⟩
      · rcases g with g | ⟨g1, g⟩
        · exact .inl (bl_trans _ _ _ h g)
        · exact .inl (by rw [← g1]; exact h)
      · rcases g with g | ⟨g1, g⟩
        · exact .inl (by rw [h1]; exact g)
        · exact .inr ⟨h1.trans g1, by omega⟩
theorem klt_asymm (a b : S31) (h : klt a b = true) : klt b a = false := by
  cases e : klt b a
  · rfl
  · have := klt_trans a b a h e
    rw [klt_irrefl] at this
    exact absurd this (by simp)
theorem klt_tri (a b : S31) : klt a b = true ∨ a = b ∨ klt b a = true := by
  rw [klt_iff, klt_iff]
  rcases bl_tri a.f0.toList b.f0.toList with h | h | h
  · exact .inl (.inl h)
  · have h0 := (toList_inj _ _).mp h
    rcases bl_tri a.f1.toList b.f1.toList with g | g | g
    · exact .inl (.inr ⟨h0, .inl g⟩)
    · have g0 := (toList_inj _ _).mp g
      rcases Int.lt_trichotomy a.f2 b.f2 with t | t | t
      · exact .inr (.inr (.inr ⟨h0.symm, .inr ⟨g0.symm, t⟩⟩))
      · refine .inr (.inl ?_)
        obtain ⟨a0, a1, a2⟩ := a
        obtain ⟨b0, b1, b2⟩ := b
        simp only at h0 g0 t
        subst h0 g0 t
        rfl
      · exact .inl (.inr ⟨h0, .inr ⟨g0, t⟩⟩)
    · exact .inr (.inr (.inr ⟨h0.symm, .inl g⟩))
  · exact .inr (.inr (.inl h))
/-- the comparison of two keys as a number -/
def kcmp (a b : S31) : Int := if klt a b = true then -1 else if a.f0 = b.f0 ∧ a.f1 = b.f1 ∧ a.f2 = b.f2 then 0 else 1
theorem key_ext (a b : S31) : (a.f0 = b.f0 ∧ a.f1 = b.f1 ∧ a.f2 = b.f2) ↔ a = b := by
  obtain ⟨a0, a1, a2⟩ := a
  obtain ⟨b0, b1, b2⟩ := b
  constructor
  · rintro ⟨h0, h1, h2⟩
    simp only at h0 h1 h2
    subst h0 h1 h2
    rfl
  · rintro h
    injection h with h0 h1 h2
    exact ⟨h0, h1, h2⟩
theorem kcmp_neg (a b : S31) : (kcmp a b < 0) ↔ klt a b = true := by
  unfold kcmp
  by_cases h : klt a b = true
  · simp [h]
  · rw [if_neg h]
    split <;> simp_all
theorem kcmp_zero (a b : S31) : (kcmp a b = 0) ↔ a = b := by
  rw [← key_ext]
  unfold kcmp
  by_cases h : klt a b = true
  · rw [if_pos h]
    constructor
    · intro e
      omega
    · intro e
      obtain rfl := (key_ext a b).mp e
      rw [klt_irrefl] at h
      exact absurd h (by simp)
  · rw [if_neg h]
    split <;> simp_all
end Go.Proofs.Ythelgojccmchjaa.B
namespace Go.Proofs.Ythelgojccmchjaa.B
open Go Go.RowKit Go.Proofs.YthelgojccmchjaaW.PrintWords Go.Proofs.YthelgojccmchjaaW.PrintLast Go.Proofs.YthelgojccmchjaaW.PrintMore Go.Proofs.Ythelgojccmchjaa.PX Go.Proofs.Ythelgojccmchjaa.B
theorem l2Less_eq (r1 b1 : ByteArray) (t1 : Int) (r2 b2 : ByteArray) (t2 : Int) : spec_l2Less.f r1 b1 t1 r2 b2 t2 = some (klt ⟨r1, b1, t1⟩ ⟨r2, b2, t2⟩) := by
  unfold spec_l2Less.f klt
  simp only [toList_inj]
  split
  · split <;> rfl
  · rfl
theorem cmp64_eq (a b : Int) : cmp_Compare_int64.f a b = some (if a < b then -1 else if a > b then 1 else 0) := by
  unfold cmp_Compare_int64.f cmp_isNaN_int64.f
  simp
  split
  · rfl
  · split <;> rfl
theorem or3_eq (a b c : Int) : LG fun k => cmp_Or_int.f k [a, b, c] = some (if a = 0 then (if b = 0 then c else b) else a) := by
  refine ⟨4, fun k hk => ?_⟩
  obtain ⟨j, rfl⟩ : ∃ j, k = j + 4 := ⟨k - 4, by omega⟩
  unfold cmp_Or_int.f
  have e1 : wrap64 1 = 1 := w64 (by omega) (by omega)
  have e2 : wrap64 2 = 2 := w64 (by omega) (by omega)
  have e3 : wrap64 3 = 3 := w64 (by omega) (by omega)
  by_cases ha : a = 0
  · by_cases hb : b = 0
    · by_cases hc : c = 0
      · simp [cmp_Or_int.l0, rd, ha, hb, hc, e1, e2, e3]
      · simp [cmp_Or_int.l0, rd, ha, hb, hc, e1, e2]
    · simp [cmp_Or_int.l0, rd, ha, hb, e1]
  · simp [cmp_Or_int.l0, rd, ha]
theorem compareKeys_eq (r1 b1 : ByteArray) (t1 : Int) (r2 b2 : ByteArray) (t2 : Int) : LG fun k => impl_compareKeys.f k r1 b1 t1 r2 b2 t2 = some (kcmp ⟨r1, b1, t1⟩ ⟨r2, b2, t2⟩) := by
  refine (or3_eq (Lib.compareBytes r1.data.toList r2.data.toList) (Lib.compareBytes b1.data.toList b2.data.toList) (if t2 < t1 then -1 else if t2 > t1 then 1 else 0)).mono fun k hk => ?_
  unfold impl_compareKeys.f strings_Compare.f
  simp only [Option.bind_some, cmp64_eq, hk]
  congr 1
  have key : ∀ s t : ByteArray, s.data.toList = t.data.toList ↔ s = t := fun s t => by rw [← toList_eq, ← toList_eq]; exact toList_inj s t
  unfold kcmp klt
  simp only [toList_eq]
  rcases cb_cases r1.data.toList r2.data.toList with ⟨h1, h2⟩ | ⟨h1, h2⟩ | ⟨h1, h2⟩
  · have hn : ¬ r1 = r2 := fun e => by rw [e, bl_irrefl] at h2; exact absurd h2 (by simp)
    simp [h1, h2, hn]
  · have h0 := (key _ _).mp h2
    subst h0
    rcases cb_cases b1.data.toList b2.data.toList with ⟨g1, g2⟩ | ⟨g1, g2⟩ | ⟨g1, g2⟩
    · have hn : ¬ b1 = b2 := fun e => by rw [e, bl_irrefl] at g2; exact absurd g2 (by simp)
      simp [h1, g1, g2, hn]
    · have g0 := (key _ _).mp g2
      subst g0
      simp only [h1, g1, if_true]
      by_cases ht : t2 < t1
      · simp [ht]
      · by_cases hu : t1 < t2
        · simp [ht, hu, show ¬ t1 = t2 by omega]
        · have : t1 = t2 := by omega
          simp [this]
    · have hn : ¬ b1 = b2 := fun e => by rw [e, bl_irrefl] at g2; exact absurd g2 (by simp)
      have hb : Op.bytesLess b1.data.toList b2.data.toList = false := bl_asymm _ _ g2
      simp [h1, g1, hb, hn]
  · have hn : ¬ r1 = r2 := fun e => by rw [e, bl_irrefl] at h2; exact absurd h2 (by simp)
    have hb : Op.bytesLess r1.data.toList r2.data.toList = false := bl_asymm _ _ h2
    simp [h1, hb, hn]
end Go.Proofs.Ythelgojccmchjaa.B
namespace Go.Proofs.Ythelgojccmchjaa.Pure
open Go Go.RowKit Go.Proofs.YthelgojccmchjaaW.PrintWords Go.Proofs.YthelgojccmchjaaW.PrintLast Go.Proofs.YthelgojccmchjaaW.PrintMore Go.Proofs.Ythelgojccmchjaa.PX Go.Proofs.Ythelgojccmchjaa.B
theorem szKey_some (r b : ByteArray) (t n : Int) : ∃ q, laws_szKey.f r b t n = some q := by
  unfold laws_szKey.f
  split
  · exact ⟨_, rfl⟩
  · split
    · exact ⟨_, rfl⟩
    · exact ⟨_, rfl⟩
theorem FnExactKeyLess : FnExactKeyLess_Pure := by
  intro r1 b1 t1 r2 b2 t2 hr1 hb1 _ hr2 hb2 _
  obtain ⟨k, ⟨⟨⟨h1, h2⟩, h3⟩, h4⟩, h5⟩ := ((((spec_KeyOk_eq r1 b1 t1 hr1 hb1).and (spec_KeyOk_eq r2 b2 t2 hr2 hb2)).and (impl_isKey_eq r1 b1 t1 hr1 hb1)).and (impl_isKey_eq r2 b2 t2 hr2 hb2)).and (compareKeys_eq r1 b1 t1 r2 b2 t2) |>.rounds
  refine ⟨k, ?_⟩
  obtain ⟨q1, e1⟩ := szKey_some r1 b1 t1 1048576
  obtain ⟨q2, e2⟩ := szKey_some r2 b2 t2 q1
  have e3 : decide (kcmp ⟨r1, b1, t1⟩ ⟨r2, b2, t2⟩ < 0) = klt ⟨r1, b1, t1⟩ ⟨r2, b2, t2⟩ := by
    have := kcmp_neg ⟨r1, b1, t1⟩ ⟨r2, b2, t2⟩
    cases hk : klt ⟨r1, b1, t1⟩ ⟨r2, b2, t2⟩ <;> simp_all
  unfold laws_FnExactKeyLess.f spec_KeyLess.f impl_KeyLess.f laws_toKey.f
  simp only [e1, e2, h1, h2, h3, h4, h5, l2Less_eq, e3, Option.bind_some]
  cases isKeyB r1 b1 t1 <;> cases isKeyB r2 b2 t2 <;> simp
end Go.Proofs.Ythelgojccmchjaa.Pure
