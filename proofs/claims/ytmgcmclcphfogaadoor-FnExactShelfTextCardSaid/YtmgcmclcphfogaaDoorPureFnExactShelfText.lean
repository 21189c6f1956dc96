import Derived.Test.YtmgcmclcphfogaaDoorPXx0
import Derived.Test.YtmgcmclcphfogaaDoorPXx1
import Derived.Test.YtmgcmclcphfogaaDoorPXx2
import Derived.Test.YtmgcmclcphfogaaDoorPXx3
import Derived.Test.YtmgcmclcphfogaaDoorPXx4
import Derived.Test.YtmgcmclcphfogaaDoorPXx5
import Derived.Test.YtmgcmclcphfogaaDoorPXx6
import Derived.Test.YtmgcmclcphfogaaDoorPXx7
import Derived.Test.YtmgcmclcphfogaaDoorPXx8
import Derived.Test.YtmgcmclcphfogaaDoorPXx9
import Derived.Test.YtmgcmclcphfogaaDoorPXx10
import Derived.Test.YtmgcmclcphfogaaDoorStFnExactShelfText
import Derived.Lib.ItoaNum
import Derived.Lib.Split
import Derived.Lib.IndexMore
import Derived.Lib.Bytealg
import Derived.Test.YtmgcmclcphfogaaDoorWMore
set_option linter.unusedVariables false
set_option linter.unusedSimpArgs false
namespace Go.Proofs.YtmgcmclcphfogaaDoor.B
open Go Go.RowKit Go.Proofs.YtmgcmclcphfogaaDoorW.PrintWords Go.Proofs.YtmgcmclcphfogaaDoorW.PrintLast Go.Proofs.YtmgcmclcphfogaaDoorW.PrintMore Go.Proofs.YtmgcmclcphfogaaDoor.PX
/-- From some number of rounds on. -/
def LG (p : Nat → Prop) : Prop := ∃ K, ∀ k, K ≤ k → p k
namespace LG
theorem all {p : Nat → Prop} (h : ∀ k, p k) : LG p := ⟨0, fun k _ => h k⟩
theorem step {p : Nat → Prop} (h : ∀ j, p (j + 1)) : LG p := ⟨1, fun k hk => by
  obtain ⟨j, rfl⟩ : ∃ j, k = j + 1 := ⟨k - 1, by omega⟩
  exact h j⟩
theorem and {p q : Nat → Prop} (h : LG p) (g : LG q) : LG fun k => p k ∧ q k := by
  obtain ⟨a, h⟩ := h
  obtain ⟨b, g⟩ := g
  exact ⟨max a b, fun k hk => ⟨h k (by omega), g k (by omega)⟩⟩
theorem mono {p q : Nat → Prop} (h : LG p) (g : ∀ k, p k → q k) : LG q := by
  obtain ⟨a, h⟩ := h
  exact ⟨a, fun k hk => g k (h k hk)⟩
/-- One round: what holds of j holds of j + 1 rounds. -/
theorem up {p q : Nat → Prop} (h : LG p) (g : ∀ j, p j → q (j + 1)) : LG q := by
  obtain ⟨a, h⟩ := h
  refine ⟨a + 1, fun k hk => ?_⟩
  obtain ⟨j, rfl⟩ : ∃ j, k = j + 1 := ⟨k - 1, by omega⟩
  exact g j (h j (by omega))
theorem rounds {p : Nat → Prop} (h : LG p) : ∃ k, p k := by
  obtain ⟨a, h⟩ := h
  exact ⟨a, h a (Nat.le_refl _)⟩
end LG
def I64 (n : Int) : Prop := -9223372036854775808 ≤ n ∧ n ≤ 9223372036854775807
theorem i64_of {n : Int} (h : (Lit.int .i64 n).wf = true) : I64 n := by
  simp only [Lit.wf, IntKind.min, IntKind.max, IntKind.signed, IntKind.bits, Bool.and_eq_true, decide_eq_true_eq, if_true] at h
  unfold I64
  omega
theorem w64 {n : Int} (h0 : -9223372036854775808 ≤ n) (h1 : n ≤ 9223372036854775807) : wrap64 n = n := by
  unfold wrap64
  omega
theorem bt_get (s : ByteArray) (i : Nat) (h : i < s.data.toList.length) : bt s (i : Int) = ((s.data.toList[i]).toNat : Int) := by
  have hs : (i : Int).toNat < s.size := by
    have : s.size = s.data.toList.length := by rw [Array.length_toList]; rfl
    omega
  unfold bt
  rw [dif_pos hs]
  rfl
theorem size_len (s : ByteArray) : s.data.toList.length = s.size := by rw [Array.length_toList]; rfl
end Go.Proofs.YtmgcmclcphfogaaDoor.B
namespace Go.Proofs.YtmgcmclcphfogaaDoor.B
open Go Go.RowKit Go.Proofs.YtmgcmclcphfogaaDoorW.PrintWords Go.Proofs.YtmgcmclcphfogaaDoorW.PrintLast Go.Proofs.YtmgcmclcphfogaaDoorW.PrintMore Go.Proofs.YtmgcmclcphfogaaDoor.PX Go.Proofs.YtmgcmclcphfogaaDoor.B
theorem getD_nat {α : Type} (xs : List α) (z : α) (i : Nat) (h : i < xs.length) : xs.getD (i : Int).toNat z = xs[i] := by
  rw [Int.toNat_natCast, List.getD_eq_getElem?_getD, List.getElem?_eq_getElem h]
  rfl
theorem set_take {α : Type} (xs : List α) (i : Nat) (v : α) (h : i < xs.length) : (xs.set i v).take (i + 1) = xs.take i ++ [v] := by
  rw [List.take_succ_eq_append_getElem (by simpa using h), List.take_set_of_le (Nat.le_refl i), List.getElem_set_self]
theorem take_map_succ {α β : Type} (f : α → β) (xs : List α) (i : Nat) (h : i < xs.length) : (xs.map f).take (i + 1) = (xs.map f).take i ++ [f xs[i]] := by
  rw [List.take_succ_eq_append_getElem (by simpa using h), List.getElem_map]
theorem take_all {α : Type} {xs ys : List α} {n : Nat} (hx : xs.length = n) (hy : ys.length = n) (h : xs.take n = ys.take n) : xs = ys := by
  rw [List.take_of_length_le (by omega), List.take_of_length_le (by omega)] at h
  exact h
theorem toList_eq (s : ByteArray) : s.toList = s.data.toList := by
  first | exact ByteArray.toList_eq s | simp
theorem toList_inj (s t : ByteArray) : s.toList = t.toList ↔ s = t := by
  rw [toList_eq, toList_eq]
  constructor
  · intro h
    obtain ⟨⟨l⟩⟩ := s
    obtain ⟨⟨m⟩⟩ := t
    simp at h
    rw [h]
  · rintro rfl
    rfl
end Go.Proofs.YtmgcmclcphfogaaDoor.B
namespace Go.Proofs.YtmgcmclcphfogaaDoor.B
open Go Go.RowKit Go.Proofs.YtmgcmclcphfogaaDoorW.PrintWords Go.Proofs.YtmgcmclcphfogaaDoorW.PrintLast Go.Proofs.YtmgcmclcphfogaaDoorW.PrintMore Go.Proofs.YtmgcmclcphfogaaDoor.PX Go.Proofs.YtmgcmclcphfogaaDoor.B
/-- the decimal text of a number -/
def itoaB (n : Int) : ByteArray := ⟨(Lib.itoa n).toArray⟩
theorem ba_ext {s t : ByteArray} (h : s.data.toList = t.data.toList) : s = t := by
  obtain ⟨⟨l⟩⟩ := s
  obtain ⟨⟨m⟩⟩ := t
  simp at h
  rw [h]
theorem app_data (s t : ByteArray) : (s ++ t).data.toList = s.data.toList ++ t.data.toList := by simp
theorem digit_data (d : Nat) (h : d < 10) : (strOfNums [((48 : Int) + d) % 256]).data.toList = [UInt8.ofNat (48 + d)] := by
  have e : ((48 : Int) + d) % 256 = ((48 + d : Nat) : Int) := by omega
  rw [e]
  show [UInt8.ofNat ((48 + d : Nat) : Int).toNat] = _
  rw [Int.toNat_natCast]
theorem decDigits_small {u : Nat} (h : u < 10) : Lib.decDigits u = [UInt8.ofNat (48 + u)] := by rw [Lib.decDigits, dif_pos h]
theorem decDigits_big {u : Nat} (h : ¬ u < 10) : Lib.decDigits u = Lib.decDigits (u / 10) ++ [UInt8.ofNat (48 + u % 10)] := by rw [Lib.decDigits, dif_neg h]
/-- what the loop adds ahead of the digits that are there -/
def decAcc (u : Nat) (s : List UInt8) : List UInt8 := if u = 0 ∧ s ≠ [] then s else Lib.decDigits u ++ s
theorem decAcc_step (u : Nat) (s : List UInt8) (h : s = [] ∨ u ≠ 0) : decAcc (u / 10) (UInt8.ofNat (48 + u % 10) :: s) = decAcc u s := by
  unfold decAcc
  rw [if_neg (show ¬ (u = 0 ∧ s ≠ []) from fun ⟨a, b⟩ => by rcases h with h | h <;> contradiction)]
  by_cases hu : u < 10
  · rw [if_pos ⟨by omega, by simp⟩, decDigits_small hu, Nat.mod_eq_of_lt hu]
    rfl
  · rw [if_neg (fun ⟨a, _⟩ => by omega), decDigits_big hu]
    simp
def sgn (neg : Bool) : List UInt8 := if neg = true then [45] else []
theorem l1Int_fin (s : ByteArray) (neg : Bool) (h : s.data.toList ≠ []) (hs : s.size ≤ 1000) : LG fun k => spec_l1Int.l0 k 0 s neg = some ⟨(sgn neg ++ s.data.toList).toArray⟩ := by
  have g : LG fun k => spec_l1Int.j1 k 0 s neg false = some ⟨(sgn neg ++ s.data.toList).toArray⟩ := by
    refine LG.step fun j => ?_
    simp only [spec_l1Int.j1]
    rw [if_neg (by decide)]
    cases neg with
    | true => rw [if_pos rfl, if_pos (by omega)]; exact congrArg some (ba_ext (by simp [sgn]))
    | false => rw [if_neg (by decide)]; exact congrArg some (ba_ext (by simp [sgn]))
  refine g.up fun j hj => ?_
  simp only [spec_l1Int.l0]
  rw [if_neg (by rw [toList_eq]; exact h)]
  simpa using hj
theorem l1Int_round (x : Int) (s : ByteArray) (neg : Bool) (hx : I64 x) (h : s.data.toList = [] ∨ x ≠ 0) (hs : s.size ≤ 1000) {r : ByteArray}
    (g : LG fun k => spec_l1Int.l0 k (Int.tdiv x 10) (strOfNums [((48 : Int) + (x.natAbs % 10 : Nat)) % 256] ++ s) neg = some r) : LG fun k => spec_l1Int.l0 k x s neg = some r := by
  have hd : wrap64 (Int.tdiv x 10) = Int.tdiv x 10 := by
    rcases Int.le_total 0 x with h0 | h0
    · rw [Int.tdiv_eq_ediv_of_nonneg h0]; unfold I64 at hx; exact w64 (by omega) (by omega)
    · obtain ⟨y, rfl⟩ : ∃ y : Int, x = -y := ⟨-x, by omega⟩
      rw [Int.neg_tdiv, Int.tdiv_eq_ediv_of_nonneg (by omega)]; unfold I64 at hx; exact w64 (by omega) (by omega)
  have hz : ∀ n : Int, (strOfNums [n]).size = 1 := fun _ => rfl
  have j1 : LG fun k => spec_l1Int.j1 k x s neg true = some r := by
    refine g.up fun j hj => ?_
    simp only [spec_l1Int.j1]
    rw [if_pos trivial]
    by_cases hn : Int.tmod x 10 < 0
    · have e : wrap64 (48 + wrap64 (-(Int.tmod x 10))) = (48 : Int) + (x.natAbs % 10 : Nat) := by
        have hx0 : x < 0 := by
          rcases Int.lt_or_le x 0 with h0 | h0
          · exact h0
          · rw [Int.tmod_eq_emod_of_nonneg h0] at hn; omega
        obtain ⟨y, rfl⟩ : ∃ y : Int, x = -y := ⟨-x, by omega⟩
        rw [Int.neg_tmod, Int.tmod_eq_emod_of_nonneg (by omega), Int.neg_neg, w64 (n := y % 10) (by omega) (by omega), w64 (by omega) (by omega)]
        omega
      rw [if_pos hn]
      simp only [Option.bind_some]
      rw [e, hz, if_pos (by omega), hd]
      exact hj
    · have e : wrap64 (48 + (Int.tmod x 10)) = (48 : Int) + (x.natAbs % 10 : Nat) := by
        rcases Int.le_total 0 x with h0 | h0
        · rw [Int.tmod_eq_emod_of_nonneg h0, w64 (by omega) (by omega)]; omega
        · obtain ⟨y, rfl⟩ : ∃ y : Int, x = -y := ⟨-x, by omega⟩
          rw [Int.neg_tmod, Int.tmod_eq_emod_of_nonneg (by omega)] at hn ⊢
          rw [w64 (by omega) (by omega)]; omega
      rw [if_neg hn]
      simp only [Option.bind_some]
      rw [e, hz, if_pos (by omega), hd]
      exact hj
  refine j1.up fun j hj => ?_
  simp only [spec_l1Int.l0]
  by_cases he : s.toList = []
  · rw [if_pos he]; exact hj
  · rw [if_neg he]
    have : (x != 0) = true := by
      rcases h with h | h
      · exact absurd (by rw [toList_eq]; exact h) he
      · simpa using h
    rw [this]; exact hj
theorem natAbs_tdiv10 (x : Int) : (Int.tdiv x 10).natAbs = x.natAbs / 10 := by
  rcases Int.le_total 0 x with h0 | h0
  · rw [Int.tdiv_eq_ediv_of_nonneg h0]; omega
  · obtain ⟨y, rfl⟩ : ∃ y : Int, x = -y := ⟨-x, by omega⟩
    rw [Int.neg_tdiv, Int.tdiv_eq_ediv_of_nonneg (by omega)]; omega
theorem l1Int_l0 (neg : Bool) (m : Nat) : ∀ (x : Int) (s : ByteArray), I64 x → x.natAbs < 10 ^ m → s.size + m ≤ 900 →
    LG fun k => spec_l1Int.l0 k x s neg = some ⟨(sgn neg ++ decAcc x.natAbs s.data.toList).toArray⟩ := by
  induction m with
  | zero =>
    intro x s hI hx hs
    obtain rfl : x = 0 := by simp at hx; omega
    by_cases he : s.data.toList = []
    · refine l1Int_round 0 s neg hI (.inl he) (by omega) ?_
      have := l1Int_fin (strOfNums [((48 : Int) + ((0 : Int).natAbs % 10 : Nat)) % 256] ++ s) neg (by rw [app_data, digit_data _ (by decide)]; simp) (by rw [ByteArray.size_append]; show 1 + _ ≤ _; omega)
      have e : decAcc (Int.natAbs 0) s.data.toList = (strOfNums [((48 : Int) + ((0 : Int).natAbs % 10 : Nat)) % 256] ++ s).data.toList := by
        rw [app_data, digit_data _ (by decide), he]; unfold decAcc; simp [decDigits_small]
      rw [e]; exact this
    · have e : decAcc (Int.natAbs 0) s.data.toList = s.data.toList := by unfold decAcc; rw [if_pos ⟨rfl, he⟩]
      rw [e]; exact l1Int_fin s neg he (by omega)
  | succ m ih =>
    intro x s hI hx hs
    by_cases he : s.data.toList ≠ [] ∧ x = 0
    · obtain ⟨he, rfl⟩ := he
      have e : decAcc (Int.natAbs 0) s.data.toList = s.data.toList := by unfold decAcc; rw [if_pos ⟨rfl, he⟩]
      rw [e]; exact l1Int_fin s neg he (by omega)
    · have h : s.data.toList = [] ∨ x ≠ 0 := by
        by_cases h1 : s.data.toList = []
        · exact .inl h1
        · exact .inr fun h2 => he ⟨h1, h2⟩
      refine l1Int_round x s neg hI h (by omega) ?_
      have hb : x.natAbs / 10 < 10 ^ m := by rw [Nat.pow_succ] at hx; omega
      have := ih (Int.tdiv x 10) (strOfNums [((48 : Int) + (x.natAbs % 10 : Nat)) % 256] ++ s) (by
        have hq := natAbs_tdiv10 x
        unfold I64 at hI ⊢
        omega) (by rw [natAbs_tdiv10]; exact hb) (by rw [ByteArray.size_append]; show 1 + _ + _ ≤ _; omega)
      rw [natAbs_tdiv10, app_data, digit_data _ (by omega)] at this
      rw [← decAcc_step x.natAbs s.data.toList (h.imp id (by omega))]
      exact this
theorem l1Int_eq (n : Int) (h : I64 n) : LG fun k => spec_l1Int.f k n = some (itoaB n) := by
  have := l1Int_l0 (decide (n < 0)) 20 n ⟨#[]⟩ h (by unfold I64 at h; omega) (by decide)
  have e : (⟨(sgn (decide (n < 0)) ++ decAcc n.natAbs []).toArray⟩ : ByteArray) = itoaB n := by
    unfold itoaB Lib.itoa decAcc sgn
    by_cases h0 : n < 0
    · simp [h0]
    · have : n.natAbs = n.toNat := by omega
      simp [h0, this]
  rw [← e]
  exact this
theorem decDigits_len (m : Nat) : ∀ u : Nat, u < 10 ^ (m + 1) → (Lib.decDigits u).length ≤ m + 1 := by
  induction m with
  | zero => intro u h; rw [decDigits_small (by simpa using h)]; simp
  | succ m ih =>
    intro u h
    by_cases hu : u < 10
    · rw [decDigits_small hu]; simp
    · rw [decDigits_big hu, List.length_append, List.length_singleton]
      have := ih (u / 10) (by rw [Nat.pow_succ] at h; omega)
      omega
theorem decDigits_pos (u : Nat) : 1 ≤ (Lib.decDigits u).length := by
  by_cases hu : u < 10
  · rw [decDigits_small hu]; simp
  · rw [decDigits_big hu]; simp
theorem itoaB_size (n : Int) (h : I64 n) : 1 ≤ (itoaB n).size ∧ (itoaB n).size ≤ 20 := by
  have e : (itoaB n).size = (Lib.itoa n).length := by rw [← size_len]; simp [itoaB]
  rw [e]
  unfold Lib.itoa
  unfold I64 at h
  split
  · have h1 := decDigits_len 18 n.natAbs (by omega)
    simp only [List.length_cons]
    omega
  · have h1 := decDigits_len 18 n.toNat (by omega)
    have h2 := decDigits_pos n.toNat
    omega
end Go.Proofs.YtmgcmclcphfogaaDoor.B
namespace Go.Proofs.YtmgcmclcphfogaaDoor.B
open Go Go.RowKit Go.Proofs.YtmgcmclcphfogaaDoorW.PrintWords Go.Proofs.YtmgcmclcphfogaaDoorW.PrintLast Go.Proofs.YtmgcmclcphfogaaDoorW.PrintMore Go.Proofs.YtmgcmclcphfogaaDoor.PX Go.Proofs.YtmgcmclcphfogaaDoor.B
theorem decimal_eq (n : Int) (h : I64 n) : impl_decimal.f n = some (itoaB n) := by
  unfold I64 at h
  unfold impl_decimal.f strconv_FormatInt.f
  rw [if_pos rfl, if_pos h.1, if_pos h.2]
  rfl
end Go.Proofs.YtmgcmclcphfogaaDoor.B
namespace Go.Proofs.YtmgcmclcphfogaaDoor.B
open Go Go.RowKit Go.Proofs.YtmgcmclcphfogaaDoorW.PrintWords Go.Proofs.YtmgcmclcphfogaaDoorW.PrintLast Go.Proofs.YtmgcmclcphfogaaDoorW.PrintMore Go.Proofs.YtmgcmclcphfogaaDoor.PX Go.Proofs.YtmgcmclcphfogaaDoor.B
/-- all bytes are from a to z -/
def nameRun (l : List UInt8) : Bool := l.all fun c => decide (97 ≤ c.toNat) && decide (c.toNat ≤ 122)
def isNameB (s : ByteArray) : Bool := nameRun s.data.toList && (decide (1 ≤ s.size) && decide (s.size ≤ 8))
theorem nameRun_at (l : List UInt8) (i : Nat) (h : i < l.length) : nameRun (l.drop i) = (decide (97 ≤ (l[i]).toNat) && decide ((l[i]).toNat ≤ 122) && nameRun (l.drop (i + 1))) := by
  rw [List.drop_eq_getElem_cons h]
  simp only [nameRun, List.all_cons]
end Go.Proofs.YtmgcmclcphfogaaDoor.B
namespace Go.Proofs.YtmgcmclcphfogaaDoor.B
open Go Go.RowKit Go.Proofs.YtmgcmclcphfogaaDoorW.PrintWords Go.Proofs.YtmgcmclcphfogaaDoorW.PrintLast Go.Proofs.YtmgcmclcphfogaaDoorW.PrintMore Go.Proofs.YtmgcmclcphfogaaDoor.PX Go.Proofs.YtmgcmclcphfogaaDoor.B
def isWordB (n : Int) : Bool := decide (-2147483648 ≤ n) && decide (n ≤ 2147483647)
theorem l1In_eq (a b c : Int) : spec_l1In.f a b c = some (decide (b ≤ a) && decide (a ≤ c)) := by
  unfold spec_l1In.f
  by_cases h : a ≥ b
  · rw [if_pos h, decide_eq_true (show b ≤ a from h), Bool.true_and]
  · rw [if_neg h, decide_eq_false (show ¬ b ≤ a from h), Bool.false_and]
theorem l1Word_eq (n : Int) : spec_l1Word.f n = some (isWordB n) := by
  unfold spec_l1Word.f
  rw [l1In_eq]
  rfl
theorem w32_range (n : Int) : -2147483648 ≤ wrap32 n ∧ wrap32 n ≤ 2147483647 := by
  unfold wrap32
  omega
theorem impl_wrap_eq (n : Int) : impl_wrap.f n = some (wrap32 n) := by
  have := w32_range n
  unfold impl_wrap.f
  rw [w64 (by omega) (by omega)]
theorem isWordB_wrap (n : Int) : (n == wrap32 n) = isWordB n := by
  unfold isWordB
  rw [Bool.eq_iff_iff]
  simp only [beq_iff_eq, Bool.and_eq_true, decide_eq_true_eq]
  unfold wrap32
  omega
theorem impl_isWord_eq (n : Int) : impl_isWord.f n = some (isWordB n) := by
  unfold impl_isWord.f
  rw [impl_wrap_eq]
  simp only [Option.bind_some]
  rw [isWordB_wrap]
end Go.Proofs.YtmgcmclcphfogaaDoor.B
namespace Go.Proofs.YtmgcmclcphfogaaDoor.B
open Go Go.RowKit Go.Proofs.YtmgcmclcphfogaaDoorW.PrintWords Go.Proofs.YtmgcmclcphfogaaDoorW.PrintLast Go.Proofs.YtmgcmclcphfogaaDoorW.PrintMore Go.Proofs.YtmgcmclcphfogaaDoor.PX Go.Proofs.YtmgcmclcphfogaaDoor.B
theorem spec_NameOk_l0 (s : ByteArray) (hs : s.size ≤ 9223372036854775807) (d : Nat) : ∀ i : Nat, i ≤ s.size → s.size - i = d →
    LG fun k => spec_NameOk.l0 k s (i : Int) = some (nameRun (s.data.toList.drop i) && (decide (1 ≤ s.size) && decide (s.size ≤ 8))) := by
  have hl := size_len s
  induction d with
  | zero =>
    intro i h1 h2
    refine LG.step fun j => ?_
    obtain rfl : i = s.size := by omega
    simp only [spec_NameOk.l0]
    rw [if_neg (by omega), l1In_eq]
    have e : nameRun (s.data.toList.drop s.size) = true := by rw [List.drop_of_length_le (by omega)]; rfl
    rw [e, Bool.true_and, Option.bind_some]
    congr 1
    rw [Bool.eq_iff_iff]
    simp only [Bool.and_eq_true, decide_eq_true_eq]
    omega
  | succ d ih =>
    intro i h1 h2
    have hi : i < s.data.toList.length := by omega
    refine (ih (i + 1) (by omega) (by omega)).up fun j hj => ?_
    simp only [spec_NameOk.l0]
    rw [if_pos (by omega), if_pos (by omega), bt_get s i hi, nameRun_at _ i hi]
    by_cases ha : (97 : Nat) ≤ (s.data.toList[i]).toNat
    · rw [if_neg (by omega)]
      by_cases hb : (s.data.toList[i]).toNat ≤ 122
      · rw [if_neg (by omega), w64 (by omega) (by omega), decide_eq_true ha, decide_eq_true hb]
        simpa using hj
      · rw [if_pos (by omega), decide_eq_false hb]
        simp
    · rw [if_pos (by omega), decide_eq_false ha]
      simp
theorem spec_NameOk_eq (s : ByteArray) (hs : s.size ≤ 9223372036854775807) : LG fun k => spec_NameOk.f k s = some (isNameB s) :=
  spec_NameOk_l0 s hs s.size 0 (by omega) (by omega)
end Go.Proofs.YtmgcmclcphfogaaDoor.B
namespace Go.Proofs.YtmgcmclcphfogaaDoor.B
open Go Go.RowKit Go.Proofs.YtmgcmclcphfogaaDoorW.PrintWords Go.Proofs.YtmgcmclcphfogaaDoorW.PrintLast Go.Proofs.YtmgcmclcphfogaaDoorW.PrintMore Go.Proofs.YtmgcmclcphfogaaDoor.PX Go.Proofs.YtmgcmclcphfogaaDoor.B
def isTimeB (t : Int) : Bool := decide (0 ≤ t) && decide (t ≤ 1000000)
def isKeyB (r b : ByteArray) (t : Int) : Bool := isNameB r && (isNameB b && isTimeB t)
end Go.Proofs.YtmgcmclcphfogaaDoor.B
namespace Go.Proofs.YtmgcmclcphfogaaDoor.B
open Go Go.RowKit Go.Proofs.YtmgcmclcphfogaaDoorW.PrintWords Go.Proofs.YtmgcmclcphfogaaDoorW.PrintLast Go.Proofs.YtmgcmclcphfogaaDoorW.PrintMore Go.Proofs.YtmgcmclcphfogaaDoor.PX Go.Proofs.YtmgcmclcphfogaaDoor.B
theorem l2Time_eq (t : Int) : spec_l2Time.f t = some (isTimeB t) := by
  unfold spec_l2Time.f
  rw [l1In_eq]
  rfl
theorem spec_KeyOk_eq (r b : ByteArray) (t : Int) (hr : r.size ≤ 9223372036854775807) (hb : b.size ≤ 9223372036854775807) : LG fun k => spec_KeyOk.f k r b t = some (isKeyB r b t) := by
  refine ((spec_NameOk_eq r hr).and (spec_NameOk_eq b hb)).mono fun k ⟨h1, h2⟩ => ?_
  unfold spec_KeyOk.f isKeyB
  simp only [h1, h2, l2Time_eq, Option.bind_some]
  cases isNameB r <;> cases isNameB b <;> simp
end Go.Proofs.YtmgcmclcphfogaaDoor.B
namespace Go.Proofs.YtmgcmclcphfogaaDoor.B
open Go Go.RowKit Go.Proofs.YtmgcmclcphfogaaDoorW.PrintWords Go.Proofs.YtmgcmclcphfogaaDoorW.PrintLast Go.Proofs.YtmgcmclcphfogaaDoorW.PrintMore Go.Proofs.YtmgcmclcphfogaaDoor.PX Go.Proofs.YtmgcmclcphfogaaDoor.B
def isCellB (r b : ByteArray) (t v : Int) (g : Bool) : Bool := isKeyB r b t && (isWordB v && (!g || v == 0))
end Go.Proofs.YtmgcmclcphfogaaDoor.B
namespace Go.Proofs.YtmgcmclcphfogaaDoor.B
open Go Go.RowKit Go.Proofs.YtmgcmclcphfogaaDoorW.PrintWords Go.Proofs.YtmgcmclcphfogaaDoorW.PrintLast Go.Proofs.YtmgcmclcphfogaaDoorW.PrintMore Go.Proofs.YtmgcmclcphfogaaDoor.PX Go.Proofs.YtmgcmclcphfogaaDoor.B
theorem spec_CellOk_eq (r b : ByteArray) (t v : Int) (g : Bool) (hr : r.size ≤ 9223372036854775807) (hb : b.size ≤ 9223372036854775807) : LG fun k => spec_CellOk.f k r b t v g = some (isCellB r b t v g) := by
  refine (spec_KeyOk_eq r b t hr hb).mono fun k h => ?_
  unfold spec_CellOk.f isCellB
  simp only [h, l1Word_eq, Option.bind_some]
  cases isKeyB r b t <;> cases isWordB v <;> cases g <;> simp
end Go.Proofs.YtmgcmclcphfogaaDoor.B
namespace Go.Proofs.YtmgcmclcphfogaaDoor.B
open Go Go.RowKit Go.Proofs.YtmgcmclcphfogaaDoorW.PrintWords Go.Proofs.YtmgcmclcphfogaaDoorW.PrintLast Go.Proofs.YtmgcmclcphfogaaDoorW.PrintMore Go.Proofs.YtmgcmclcphfogaaDoor.PX Go.Proofs.YtmgcmclcphfogaaDoor.B
theorem impl_isName_l0 (s : ByteArray) (hs : s.size ≤ 9223372036854775807) (d : Nat) : ∀ i : Nat, i ≤ s.size → s.size - i = d →
    LG fun k => impl_isName.l0 k s (s.size : Int) (i : Int) = some (nameRun (s.data.toList.drop i) && (decide (1 ≤ s.size) && decide (s.size ≤ 8))) := by
  have hl := size_len s
  induction d with
  | zero =>
    intro i h1 h2
    refine LG.step fun j => ?_
    obtain rfl : i = s.size := by omega
    simp only [impl_isName.l0]
    rw [if_neg (by omega)]
    have e : nameRun (s.data.toList.drop s.size) = true := by rw [List.drop_of_length_le (by omega)]; rfl
    rw [e, Bool.true_and]
    by_cases h : 1 ≤ s.size
    · rw [if_pos (by omega), decide_eq_true h, Bool.true_and]
      congr 1
      rw [Bool.eq_iff_iff]
      simp only [decide_eq_true_eq]
      omega
    · rw [if_neg (by omega), decide_eq_false h, Bool.false_and]
  | succ d ih =>
    intro i h1 h2
    have hi : i < s.data.toList.length := by omega
    refine (ih (i + 1) (by omega) (by omega)).up fun j hj => ?_
    simp only [impl_isName.l0]
    rw [if_pos (by omega), if_pos (by omega), if_pos (by omega), bt_get s i hi, nameRun_at _ i hi]
    by_cases ha : (97 : Nat) ≤ (s.data.toList[i]).toNat
    · rw [if_neg (by omega)]
      by_cases hb : (s.data.toList[i]).toNat ≤ 122
      · rw [if_neg (by omega), w64 (by omega) (by omega), decide_eq_true ha, decide_eq_true hb]
        simpa using hj
      · rw [if_pos (by omega), decide_eq_false hb]
        simp
    · rw [if_pos (by omega), decide_eq_false ha]
      simp
theorem impl_isName_eq (s : ByteArray) (hs : s.size ≤ 9223372036854775807) : LG fun k => impl_isName.f k s = some (isNameB s) :=
  impl_isName_l0 s hs s.size 0 (by omega) (by omega)
end Go.Proofs.YtmgcmclcphfogaaDoor.B
namespace Go.Proofs.YtmgcmclcphfogaaDoor.B
open Go Go.RowKit Go.Proofs.YtmgcmclcphfogaaDoorW.PrintWords Go.Proofs.YtmgcmclcphfogaaDoorW.PrintLast Go.Proofs.YtmgcmclcphfogaaDoorW.PrintMore Go.Proofs.YtmgcmclcphfogaaDoor.PX Go.Proofs.YtmgcmclcphfogaaDoor.B
theorem within_eq (a b c : Int) : impl_within.f a b c = some (decide (b ≤ a) && decide (a ≤ c)) := by
  unfold impl_within.f
  by_cases h : a ≥ b
  · rw [if_pos h, decide_eq_true (show b ≤ a from h), Bool.true_and]
  · rw [if_neg h, decide_eq_false (show ¬ b ≤ a from h), Bool.false_and]
end Go.Proofs.YtmgcmclcphfogaaDoor.B
namespace Go.Proofs.YtmgcmclcphfogaaDoor.B
open Go Go.RowKit Go.Proofs.YtmgcmclcphfogaaDoorW.PrintWords Go.Proofs.YtmgcmclcphfogaaDoorW.PrintLast Go.Proofs.YtmgcmclcphfogaaDoorW.PrintMore Go.Proofs.YtmgcmclcphfogaaDoor.PX Go.Proofs.YtmgcmclcphfogaaDoor.B
theorem isTime_eq (t : Int) : impl_isTime.f t = some (isTimeB t) := by
  unfold impl_isTime.f
  rw [within_eq]
  rfl
theorem impl_isKey_eq (r b : ByteArray) (t : Int) (hr : r.size ≤ 9223372036854775807) (hb : b.size ≤ 9223372036854775807) : LG fun k => impl_isKey.f k r b t = some (isKeyB r b t) := by
  refine ((impl_isName_eq r hr).and (impl_isName_eq b hb)).mono fun k ⟨h1, h2⟩ => ?_
  unfold impl_isKey.f isKeyB
  simp only [h1, h2, isTime_eq, Option.bind_some]
  cases isNameB r <;> cases isNameB b <;> simp
end Go.Proofs.YtmgcmclcphfogaaDoor.B
namespace Go.Proofs.YtmgcmclcphfogaaDoor.B
open Go Go.RowKit Go.Proofs.YtmgcmclcphfogaaDoorW.PrintWords Go.Proofs.YtmgcmclcphfogaaDoorW.PrintLast Go.Proofs.YtmgcmclcphfogaaDoorW.PrintMore Go.Proofs.YtmgcmclcphfogaaDoor.PX Go.Proofs.YtmgcmclcphfogaaDoor.B
theorem impl_isCell_eq (r b : ByteArray) (t v : Int) (g : Bool) (hr : r.size ≤ 9223372036854775807) (hb : b.size ≤ 9223372036854775807) : LG fun k => impl_isCell.f k r b t v g = some (isCellB r b t v g) := by
  refine (impl_isKey_eq r b t hr hb).mono fun k h => ?_
  unfold impl_isCell.f isCellB
  simp only [h, impl_isWord_eq, Option.bind_some]
  cases isKeyB r b t <;> cases isWordB v <;> cases g <;> simp
end Go.Proofs.YtmgcmclcphfogaaDoor.B
namespace Go.Proofs.YtmgcmclcphfogaaDoor.B
open Go Go.RowKit Go.Proofs.YtmgcmclcphfogaaDoorW.PrintWords Go.Proofs.YtmgcmclcphfogaaDoorW.PrintLast Go.Proofs.YtmgcmclcphfogaaDoorW.PrintMore Go.Proofs.YtmgcmclcphfogaaDoor.PX Go.Proofs.YtmgcmclcphfogaaDoor.B
def cellTextB (r b : ByteArray) (t v : Int) (g : Bool) : ByteArray := (((((r ++ (⟨#[32]⟩ : ByteArray)) ++ b) ++ (⟨#[32]⟩ : ByteArray)) ++ itoaB t) ++ (⟨#[32]⟩ : ByteArray)) ++ (if g = true then (⟨#[45]⟩ : ByteArray) else itoaB v)
theorem isCellB_small {r b : ByteArray} {t v : Int} {g : Bool} (h : isCellB r b t v g = true) : r.size ≤ 8 ∧ b.size ≤ 8 ∧ 0 ≤ t ∧ t ≤ 1000000 ∧ -2147483648 ≤ v ∧ v ≤ 2147483647 ∧ 1 ≤ r.size ∧ 1 ≤ b.size := by
  unfold isCellB isKeyB isNameB isTimeB isWordB at h
  simp only [Bool.and_eq_true, decide_eq_true_eq] at h
  omega
theorem blank_size : (⟨#[32]⟩ : ByteArray).size = 1 := rfl
theorem spec_l4Show_eq (r b : ByteArray) (t v : Int) (g : Bool) (h : isCellB r b t v g = true) : LG fun k => spec_l4Show.f k r b t v g = some (cellTextB r b t v g) := by
  have hs := isCellB_small h
  have hT : I64 t := by unfold I64; omega
  have hV : I64 v := by unfold I64; omega
  have zt := itoaB_size _ hT
  have zv := itoaB_size _ hV
  refine ((l1Int_eq t hT).and (l1Int_eq v hV)).mono fun k ⟨h1, h2⟩ => ?_
  unfold spec_l4Show.f cellTextB
  rw [h1, h2]
  cases g
  · simp only [Option.bind_some, ByteArray.size_append, blank_size, if_neg (show ¬ (false = true) by decide)]
    repeat rw [if_pos (by omega)]
  · simp only [Option.bind_some, ByteArray.size_append, blank_size, if_true]
    repeat rw [if_pos (by omega)]
theorem impl_showCell_eq (r b : ByteArray) (t v : Int) (g : Bool) (h : isCellB r b t v g = true) : impl_showCell.f r b t v g = some (cellTextB r b t v g) := by
  have hs := isCellB_small h
  have hT : I64 t := by unfold I64; omega
  have hV : I64 v := by unfold I64; omega
  have zt := itoaB_size _ hT
  have zv := itoaB_size _ hV
  unfold impl_showCell.f cellTextB
  rw [decimal_eq _ hT, decimal_eq _ hV]
  cases g
  · simp only [Option.bind_some, ByteArray.size_append, blank_size, if_neg (show ¬ (false = true) by decide)]
    repeat rw [if_pos (by omega)]
  · simp only [Option.bind_some, ByteArray.size_append, blank_size, if_true]
    repeat rw [if_pos (by omega)]
def CellTextB (r b : ByteArray) (t v : Int) (g : Bool) : ByteArray := if isCellB r b t v g = true then cellTextB r b t v g else ⟨#[]⟩
end Go.Proofs.YtmgcmclcphfogaaDoor.B
namespace Go.Proofs.YtmgcmclcphfogaaDoor.B
open Go Go.RowKit Go.Proofs.YtmgcmclcphfogaaDoorW.PrintWords Go.Proofs.YtmgcmclcphfogaaDoorW.PrintLast Go.Proofs.YtmgcmclcphfogaaDoorW.PrintMore Go.Proofs.YtmgcmclcphfogaaDoor.PX Go.Proofs.YtmgcmclcphfogaaDoor.B
def markStep (h : Int) (c : UInt8) : Int := (131 * h + (c.toNat : Int) + 1) % 65521
def markRun (h : Int) (l : List UInt8) : Int := l.foldl markStep h
def markOf (s : ByteArray) : Int := markRun 7 s.data.toList
theorem markStep_range (h : Int) (c : UInt8) : 0 ≤ markStep h c ∧ markStep h c < 65521 := by
  unfold markStep
  omega
theorem markRun_range (l : List UInt8) : ∀ h : Int, 0 ≤ h → h < 65521 → 0 ≤ markRun h l ∧ markRun h l < 65521 := by
  induction l with
  | nil => intro h h0 h1; exact ⟨h0, h1⟩
  | cons c l ih => intro h h0 h1; exact ih _ (markStep_range h c).1 (markStep_range h c).2
theorem mark_term (h : Int) (c : UInt8) (h0 : 0 ≤ h) (h1 : h < 65521) : Int.tmod (wrap64 ((wrap64 ((wrap64 (131 * h)) + (wrap64 (c.toNat : Int)))) + 1)) 65521 = markStep h c := by
  have hc := c.toNat_lt
  rw [w64 (n := 131 * h) (by omega) (by omega), w64 (n := (c.toNat : Int)) (by omega) (by omega), w64 (n := 131 * h + (c.toNat : Int)) (by omega) (by omega), w64 (by omega) (by omega)]
  unfold markStep
  rw [Int.tmod_eq_emod_of_nonneg (by omega)]
theorem markRun_at (l : List UInt8) (i : Nat) (h : i < l.length) (m : Int) : markRun m (l.drop i) = markRun (markStep m l[i]) (l.drop (i + 1)) := by
  rw [List.drop_eq_getElem_cons h]
  rfl
end Go.Proofs.YtmgcmclcphfogaaDoor.B
namespace Go.Proofs.YtmgcmclcphfogaaDoor.B
open Go Go.RowKit Go.Proofs.YtmgcmclcphfogaaDoorW.PrintWords Go.Proofs.YtmgcmclcphfogaaDoorW.PrintLast Go.Proofs.YtmgcmclcphfogaaDoorW.PrintMore Go.Proofs.YtmgcmclcphfogaaDoor.PX Go.Proofs.YtmgcmclcphfogaaDoor.B
/-- where a byte is for the first time -/
def idx (c : UInt8) : List UInt8 → Option Nat
  | [] => none
  | b :: l => if b = c then some 0 else (idx c l).map (· + 1)
theorem index_idx (c : UInt8) : ∀ l : List UInt8, Lib.index l [c] = match idx c l with | none => -1 | some i => (i : Int)
  | [] => rfl
  | b :: l => by
    have ih := index_idx c l
    unfold Lib.index idx
    by_cases h : b = c
    · subst h; simp [List.isPrefixOf]
    · have : ([c].isPrefixOf (b :: l)) = false := by simp [List.isPrefixOf]; exact fun e => h e.symm
      rw [this, if_neg h, ih]
      cases idx c l with
      | none => rfl
      | some i =>
        have : ((i : Int) == -1) = false := by rw [beq_eq_false_iff_ne]; omega
        simp [this]
theorem indexByte_idx (c : UInt8) : ∀ l : List UInt8, Lib.indexByte l c = match idx c l with | none => -1 | some i => (i : Int)
  | [] => rfl
  | b :: l => by
    have ih := indexByte_idx c l
    unfold Lib.indexByte idx
    by_cases h : b = c
    · subst h; simp
    · have : (b == c) = false := by simpa using h
      rw [this, if_neg h, ih]
      cases idx c l with
      | none => rfl
      | some i =>
        have : ((i : Int) == -1) = false := by rw [beq_eq_false_iff_ne]; omega
        simp [this]
theorem idx_none {c : UInt8} : ∀ {l : List UInt8}, idx c l = none → c ∉ l
  | [], _ => by simp
  | b :: l, h => by
    unfold idx at h
    by_cases hb : b = c
    · rw [if_pos hb] at h; cases h
    · rw [if_neg hb] at h
      have := idx_none (by simpa using h)
      simp only [List.mem_cons, not_or]
      exact ⟨fun e => hb e.symm, this⟩
theorem idx_some {c : UInt8} : ∀ {l : List UInt8} {i : Nat}, idx c l = some i → i < l.length ∧ c ∉ l.take i ∧ l[i]? = some c
  | [], _, h => by cases h
  | b :: l, i, h => by
    unfold idx at h
    by_cases hb : b = c
    · rw [if_pos hb] at h; cases h; subst hb; simp
    · rw [if_neg hb] at h
      obtain ⟨j, hj, rfl⟩ := Option.map_eq_some_iff.1 h
      obtain ⟨h1, h2, h3⟩ := idx_some hj
      refine ⟨by simpa using h1, ?_, by simpa using h3⟩
      rw [List.take_succ_cons, List.mem_cons, not_or]
      exact ⟨fun e => hb e.symm, h2⟩
theorem idx_not {c : UInt8} {l : List UInt8} (h : c ∉ l) : idx c l = none := by
  cases e : idx c l with
  | none => rfl
  | some i => exact absurd (List.mem_of_getElem? (idx_some e).2.2) h
theorem idx_of {c : UInt8} : ∀ {l : List UInt8} {i : Nat}, c ∉ l.take i → l[i]? = some c → idx c l = some i
  | [], _, _, h => by simp at h
  | b :: l, 0, _, h => by simp at h; subst h; simp [idx]
  | b :: l, i + 1, h0, h => by
    rw [List.take_succ_cons, List.mem_cons, not_or] at h0
    have := idx_of h0.2 (by simpa using h)
    unfold idx
    rw [if_neg (fun e => h0.1 e.symm), this]; rfl
/-- what stands behind so many blanks -/
def after : Nat → List UInt8 → Option (List UInt8)
  | 0, l => some l
  | _ + 1, [] => none
  | n + 1, c :: l => if c = 32 then after n l else after (n + 1) l
theorem after_cons (n : Nat) (c : UInt8) (l : List UInt8) : after (n + 1) (c :: l) = if c = 32 then after n l else after (n + 1) l := rfl
theorem idx_cons (c b : UInt8) (l : List UInt8) : idx c (b :: l) = if b = c then some 0 else (idx c l).map (· + 1) := rfl
theorem after_idx (n : Nat) : ∀ l : List UInt8, after (n + 1) l = (idx 32 l).bind fun i => after n (l.drop (i + 1))
  | [] => rfl
  | c :: l => by
    have ih := after_idx n l
    rw [after_cons, idx_cons]
    by_cases h : c = 32
    · rw [if_pos h, if_pos h]; rfl
    · rw [if_neg h, if_neg h, ih]
      cases idx 32 l <;> rfl
theorem splitK_succ (k : Nat) (s : List UInt8) : Lib.splitK [32] 0 (k + 1) s = if Lib.index s [32] == -1 then [s] else s.take ((Lib.index s [32]).toNat + 0) :: Lib.splitK [32] 0 k (s.drop ((Lib.index s [32]).toNat + 1)) := rfl
theorem splitK_step (k : Nat) (l : List UInt8) : Lib.splitK [32] 0 (k + 1) l = match idx 32 l with | none => [l] | some i => l.take i :: Lib.splitK [32] 0 k (l.drop (i + 1)) := by
  rw [splitK_succ, index_idx]
  cases idx 32 l with
  | none => rfl
  | some i =>
    have : ((i : Int) == -1) = false := by rw [beq_eq_false_iff_ne]; omega
    simp only [this]
    rw [if_neg (by decide), Int.toNat_natCast, Nat.add_zero]
theorem splitK_some {l t : List UInt8} (h : after 2 l = some t) : ∃ a b, Lib.splitK [32] 0 2 l = [a, b, t] := by
  rw [after_idx] at h
  rw [splitK_step]
  cases e : idx 32 l with
  | none => rw [e] at h; cases h
  | some i =>
    rw [e] at h
    simp only [Option.bind_some] at h
    rw [after_idx] at h
    cases e2 : idx 32 (l.drop (i + 1)) with
    | none => rw [e2] at h; cases h
    | some j =>
      rw [e2] at h
      simp only [Option.bind_some, after, Option.some.injEq] at h
      refine ⟨l.take i, (l.drop (i + 1)).take j, ?_⟩
      simp only []
      rw [splitK_step, e2]
      simp only [Lib.splitK]
      rw [h]
theorem splitK_none {l : List UInt8} (h : after 2 l = none) : (Lib.splitK [32] 0 2 l).length ≤ 2 := by
  rw [after_idx] at h
  rw [splitK_step]
  cases e : idx 32 l with
  | none => simp
  | some i =>
    rw [e] at h
    simp only [Option.bind_some] at h
    rw [after_idx] at h
    simp only []
    rw [splitK_step]
    cases e2 : idx 32 (l.drop (i + 1)) with
    | none => simp
    | some j => rw [e2] at h; simp [after] at h
theorem after_short {l : List UInt8} (h : l.length ≤ 1) : after 2 l = none := by
  match l, h with
  | [], _ => rfl
  | [c], _ => unfold after; split <;> rfl
def plainB (t : ByteArray) : Bool := (idx 10 t.data.toList).isNone && decide (t.size ≤ 300)
def frameB (t : ByteArray) : ByteArray := ((((itoaB (t.size : Int) ++ (⟨#[32]⟩ : ByteArray)) ++ itoaB (markOf t)) ++ (⟨#[32]⟩ : ByteArray)) ++ t) ++ (⟨#[10]⟩ : ByteArray)
def framedB (t : ByteArray) : ByteArray := if plainB t = true then frameB t else ⟨#[]⟩
theorem markOf_range (t : ByteArray) : 0 ≤ markOf t ∧ markOf t < 65521 := markRun_range _ 7 (by omega) (by omega)
theorem itoaB_small (n : Int) (m : Nat) (h0 : 0 ≤ n) (h : n < ((10 ^ (m + 1) : Nat) : Int)) : (itoaB n).size ≤ m + 1 := by
  have e : (itoaB n).size = (Lib.itoa n).length := by rw [← size_len]; simp [itoaB]
  rw [e]
  unfold Lib.itoa
  rw [if_neg (by omega)]
  exact decDigits_len m n.toNat (by omega)
theorem frameB_size (t : ByteArray) (h : t.size ≤ 300) : (frameB t).size ≤ t.size + 11 := by
  have h1 := itoaB_small (t.size : Int) 2 (by omega) (by omega)
  have h2 := markOf_range t
  have h3 := itoaB_small (markOf t) 4 (by omega) (by omega)
  unfold frameB
  simp only [ByteArray.size_append, show (⟨#[32]⟩ : ByteArray).size = 1 from rfl, show (⟨#[10]⟩ : ByteArray).size = 1 from rfl]
  omega
theorem frameB_pos (t : ByteArray) : 1 ≤ (frameB t).size := by
  unfold frameB
  simp only [ByteArray.size_append, show (⟨#[10]⟩ : ByteArray).size = 1 from rfl]
  omega
/-- the text of the frame at a place -/
def firstB (s : ByteArray) (p : Nat) : Option ByteArray :=
  (idx 10 (s.data.toList.drop p)).bind fun e => (after 2 ((s.data.toList.drop p).take e)).bind fun t =>
    if plainB ⟨t.toArray⟩ = true ∧ (frameB ⟨t.toArray⟩).data.toList = (s.data.toList.drop p).take e ++ [10] then some ⟨t.toArray⟩ else none
theorem firstB_some {s : ByteArray} {p : Nat} {t : ByteArray} (h : firstB s p = some t) : plainB t = true ∧ ∃ e, idx 10 (s.data.toList.drop p) = some e ∧ (frameB t).data.toList = (s.data.toList.drop p).take e ++ [10] ∧ (frameB t).size = e + 1 ∧ after 2 ((s.data.toList.drop p).take e) = some t.data.toList := by
  unfold firstB at h
  obtain ⟨e, he, h⟩ := Option.bind_eq_some_iff.1 h
  obtain ⟨t', ht, h⟩ := Option.bind_eq_some_iff.1 h
  split at h
  · rename_i hc
    obtain rfl := Option.some.inj h
    refine ⟨hc.1, e, he, hc.2, ?_, by simpa using ht⟩
    have := congrArg List.length hc.2
    rw [size_len, List.length_append, List.length_take, List.length_singleton] at this
    have := (idx_some he).1
    omega
  · cases h
theorem firstB_le {s : ByteArray} {p : Nat} {t : ByteArray} (hp : p ≤ s.size) (h : firstB s p = some t) : p + (frameB t).size ≤ s.size := by
  obtain ⟨_, e, he, _, h2, _⟩ := firstB_some h
  have := (idx_some he).1
  rw [List.length_drop, size_len] at this
  omega
/-- the texts of the frames from a place on, and the place behind them -/
def framesB (s : ByteArray) : Nat → Nat → List ByteArray × Nat
  | 0, p => ([], p)
  | f + 1, p => match firstB s p with
    | none => ([], p)
    | some t => (t :: (framesB s f (p + (frameB t).size)).1, (framesB s f (p + (frameB t).size)).2)
def framesOf (s : ByteArray) : List ByteArray × Nat := framesB s (s.size + 1) 0
end Go.Proofs.YtmgcmclcphfogaaDoor.B
namespace Go.Proofs.YtmgcmclcphfogaaDoor.B
open Go Go.RowKit Go.Proofs.YtmgcmclcphfogaaDoorW.PrintWords Go.Proofs.YtmgcmclcphfogaaDoorW.PrintLast Go.Proofs.YtmgcmclcphfogaaDoorW.PrintMore Go.Proofs.YtmgcmclcphfogaaDoor.PX Go.Proofs.YtmgcmclcphfogaaDoor.B
/-! the order of texts -/
theorem bl_irrefl : ∀ a : List UInt8, Op.bytesLess a a = false
  | [] => rfl
  | c :: a => by simp [Op.bytesLess, bl_irrefl a]
theorem bl_trans : ∀ a b c : List UInt8, Op.bytesLess a b = true → Op.bytesLess b c = true → Op.bytesLess a c = true
  | _, _, [], _, h => by simp [Op.bytesLess] at h
  | _, [], _ :: _, h, _ => by simp [Op.bytesLess] at h
  | [], _ :: _, _ :: _, _, _ => by simp [Op.bytesLess]
  | x :: a, y :: b, z :: c, h, g => by
    simp only [Op.bytesLess, Bool.or_eq_true, decide_eq_true_eq, Bool.and_eq_true, beq_iff_eq] at h g ⊢
    rcases h with h | ⟨rfl, h⟩
    · rcases g with g | ⟨rfl, g⟩
      · exact .inl (UInt8.lt_trans h g)
      · exact .inl h
    · rcases g with g | ⟨rfl, g⟩
      · exact .inl g
      · exact .inr ⟨rfl, bl_trans a b c h g⟩
theorem cb_cases : ∀ a b : List UInt8, (Lib.compareBytes a b = -1 ∧ Op.bytesLess a b = true) ∨ (Lib.compareBytes a b = 0 ∧ a = b) ∨ (Lib.compareBytes a b = 1 ∧ Op.bytesLess b a = true)
  | [], [] => by simp [Lib.compareBytes]
  | [], _ :: _ => by simp [Lib.compareBytes, Op.bytesLess]
  | _ :: _, [] => by simp [Lib.compareBytes, Op.bytesLess]
  | x :: a, y :: b => by
    simp only [Lib.compareBytes, Op.bytesLess]
    by_cases h : x < y
    · simp [h]
    · by_cases g : y < x
      · simp [h, g]
      · have e : x = y := by
          have h1 : ¬ x.toNat < y.toNat := h
          have h2 : ¬ y.toNat < x.toNat := g
          exact UInt8.toNat_inj.mp (by omega)
        subst e
        rcases cb_cases a b with ⟨h1, h2⟩ | ⟨h1, h2⟩ | ⟨h1, h2⟩
        · simp [h1, h2]
        · subst h2
          simp [h1]
        · simp [h1, h2]
theorem bl_asymm (a b : List UInt8) (h : Op.bytesLess a b = true) : Op.bytesLess b a = false := by
  cases e : Op.bytesLess b a
  · rfl
  · have := bl_trans a b a h e
    rw [bl_irrefl] at this
    exact absurd this (by simp)
theorem bl_tri (a b : List UInt8) : Op.bytesLess a b = true ∨ a = b ∨ Op.bytesLess b a = true := by
  rcases cb_cases a b with h | h | h
  · exact .inl h.2
  · exact .inr (.inl h.2)
  · exact .inr (.inr h.2)
end Go.Proofs.YtmgcmclcphfogaaDoor.B
namespace Go.Proofs.YtmgcmclcphfogaaDoor.B
open Go Go.RowKit Go.Proofs.YtmgcmclcphfogaaDoorW.PrintWords Go.Proofs.YtmgcmclcphfogaaDoorW.PrintLast Go.Proofs.YtmgcmclcphfogaaDoorW.PrintMore Go.Proofs.YtmgcmclcphfogaaDoor.PX Go.Proofs.YtmgcmclcphfogaaDoor.B
/-- a key comes ahead of another one -/
def klt (a b : S26) : Bool :=
  if a.f0 = b.f0 then (if a.f1 = b.f1 then decide (a.f2 > b.f2) else Op.bytesLess a.f1.toList b.f1.toList) else Op.bytesLess a.f0.toList b.f0.toList
theorem klt_irrefl (a : S26) : klt a a = false := by simp [klt]
theorem tl_ne {s t : ByteArray} (h : s ≠ t) : s.toList ≠ t.toList := fun e => h ((toList_inj s t).mp e)
theorem bl_ne {s t : ByteArray} (h : Op.bytesLess s.toList t.toList = true) : s ≠ t := by
  rintro rfl
  rw [bl_irrefl] at h
  exact absurd h (by simp)
theorem klt_iff (a b : S26) : klt a b = true ↔ Op.bytesLess a.f0.toList b.f0.toList = true ∨ (a.f0 = b.f0 ∧ (Op.bytesLess a.f1.toList b.f1.toList = true ∨ (a.f1 = b.f1 ∧ b.f2 < a.f2))) := by
  unfold klt
  by_cases h : a.f0 = b.f0
  · rw [if_pos h]
    have e : Op.bytesLess a.f0.toList b.f0.toList = false := by rw [h]; exact bl_irrefl _
    by_cases g : a.f1 = b.f1
    · rw [if_pos g]
      have e2 : Op.bytesLess a.f1.toList b.f1.toList = false := by rw [g]; exact bl_irrefl _
      simp [h, g, e, e2, bl_irrefl]
    · rw [if_neg g]
      simp [h, g, bl_irrefl]
  · rw [if_neg h]
    simp [h]
theorem klt_trans (a b c : S26) (h : klt a b = true) (g : klt b c = true) : klt a c = true := by
  rw [klt_iff] at h g ⊢
  rcases h with h | ⟨h0, h⟩
  · rcases g with g | ⟨g0, g⟩
    · exact .inl (bl_trans _ _ _ h g)
    · exact .inl (by rw [← g0]; exact h)
  · rcases g with g | ⟨g0, g⟩
    · exact .inl (by rw [h0]; exact g)
    · refine .inr ⟨h0.trans g0, ?_⟩
      rcases h with h | ⟨h1, h⟩
      · rcases g with g | ⟨g1, g⟩
        · exact .inl (bl_trans _ _ _ h g)
        · exact .inl (by rw [← g1]; exact h)
      · rcases g with g | ⟨g1, g⟩
        · exact .inl (by rw [h1]; exact g)
        · exact .inr ⟨h1.trans g1, by omega⟩
theorem klt_asymm (a b : S26) (h : klt a b = true) : klt b a = false := by
  cases e : klt b a
  · rfl
  · have := klt_trans a b a h e
    rw [klt_irrefl] at this
    exact absurd this (by simp)
theorem klt_tri (a b : S26) : klt a b = true ∨ a = b ∨ klt b a = true := by
  rw [klt_iff, klt_iff]
  rcases bl_tri a.f0.toList b.f0.toList with h | h | h
  · exact .inl (.inl h)
  · have h0 := (toList_inj _ _).mp h
    rcases bl_tri a.f1.toList b.f1.toList with g | g | g
    · exact .inl (.inr ⟨h0, .inl g⟩)
    · have g0 := (toList_inj _ _).mp g
      rcases Int.lt_trichotomy a.f2 b.f2 with t | t | t
      · exact .inr (.inr (.inr ⟨h0.symm, .inr ⟨g0.symm, t⟩⟩))
      · refine .inr (.inl ?_)
        obtain ⟨a0, a1, a2⟩ := a
        obtain ⟨b0, b1, b2⟩ := b
        simp only at h0 g0 t
        subst h0 g0 t
        rfl
      · exact .inl (.inr ⟨h0, .inr ⟨g0, t⟩⟩)
    · exact .inr (.inr (.inr ⟨h0.symm, .inl g⟩))
  · exact .inr (.inr (.inl h))
/-- the comparison of two keys as a number -/
def kcmp (a b : S26) : Int := if klt a b = true then -1 else if a.f0 = b.f0 ∧ a.f1 = b.f1 ∧ a.f2 = b.f2 then 0 else 1
theorem key_ext (a b : S26) : (a.f0 = b.f0 ∧ a.f1 = b.f1 ∧ a.f2 = b.f2) ↔ a = b := by
  obtain ⟨a0, a1, a2⟩ := a
  obtain ⟨b0, b1, b2⟩ := b
  constructor
  · rintro ⟨h0, h1, h2⟩
    simp only at h0 h1 h2
    subst h0 h1 h2
    rfl
  · rintro h
    injection h with h0 h1 h2
    exact ⟨h0, h1, h2⟩
theorem kcmp_neg (a b : S26) : (kcmp a b < 0) ↔ klt a b = true := by
  unfold kcmp
  by_cases h : klt a b = true
  · simp [h]
  · rw [if_neg h]
    split <;> simp_all
theorem kcmp_zero (a b : S26) : (kcmp a b = 0) ↔ a = b := by
  rw [← key_ext]
  unfold kcmp
  by_cases h : klt a b = true
  · rw [if_pos h]
    constructor
    · intro e
      omega
    · intro e
      obtain rfl := (key_ext a b).mp e
      rw [klt_irrefl] at h
      exact absurd h (by simp)
  · rw [if_neg h]
    split <;> simp_all
end Go.Proofs.YtmgcmclcphfogaaDoor.B
namespace Go.Proofs.YtmgcmclcphfogaaDoor.B
open Go Go.RowKit Go.Proofs.YtmgcmclcphfogaaDoorW.PrintWords Go.Proofs.YtmgcmclcphfogaaDoorW.PrintLast Go.Proofs.YtmgcmclcphfogaaDoorW.PrintMore Go.Proofs.YtmgcmclcphfogaaDoor.PX Go.Proofs.YtmgcmclcphfogaaDoor.B
/-- a cell's parts -/
def cellOkB (x : S34) : Bool := isCellB x.f0.f0 x.f0.f1 x.f0.f2 x.f1 x.f2
def cellsRun (p : Option S26) : List S34 → Bool
  | [] => true
  | x :: r => cellOkB x && ((match p with | none => true | some q => klt q x.f0) && cellsRun (some x.f0) r)
def cellsOkB (l : List S34) : Bool := cellsRun none l && decide (l.length ≤ 200)
def cellAhead (l : List S34) (i : Nat) : Option S26 := if i = 0 then none else (l[i - 1]?).map (fun x => x.f0)
theorem rdI_Cell (xs : List S34) (i : Nat) (h : i < xs.length) : rd_T34 xs (i : Int) = xs[i] := getD_nat xs _ i h
theorem cellsRun_at (l : List S34) (i : Nat) (h : i < l.length) : cellsRun (cellAhead l i) (l.drop i) =
    (cellOkB l[i] && ((if i = 0 then true else klt (rd_T34 l ((i - 1 : Nat) : Int)).f0 (l[i]).f0) && cellsRun (cellAhead l (i + 1)) (l.drop (i + 1)))) := by
  rw [List.drop_eq_getElem_cons h]
  have e : cellAhead l (i + 1) = some (l[i]).f0 := by simp [cellAhead, List.getElem?_eq_getElem h]
  rw [e]
  by_cases h0 : i = 0
  · subst h0
    simp [cellsRun, cellAhead]
  · have h1 : i - 1 < l.length := by omega
    rw [rdI_Cell l (i - 1) h1]
    simp [cellsRun, cellAhead, h0, List.getElem?_eq_getElem h1]
def CellSz (l : List S34) : Prop := ∀ x ∈ l, x.f0.f0.size ≤ 9223372036854775807 ∧ x.f0.f1.size ≤ 9223372036854775807
end Go.Proofs.YtmgcmclcphfogaaDoor.B
namespace Go.Proofs.YtmgcmclcphfogaaDoor.B
open Go Go.RowKit Go.Proofs.YtmgcmclcphfogaaDoorW.PrintWords Go.Proofs.YtmgcmclcphfogaaDoorW.PrintLast Go.Proofs.YtmgcmclcphfogaaDoorW.PrintMore Go.Proofs.YtmgcmclcphfogaaDoor.PX Go.Proofs.YtmgcmclcphfogaaDoor.B
theorem dec_no10 (u : Nat) : (10 : UInt8) ∉ Lib.decDigits u := by
  induction u using Nat.strongRecOn with
  | _ u ih =>
    have hd : ∀ d : Nat, d < 10 → (10 : UInt8) ≠ UInt8.ofNat (48 + d) := by
      intro d hd e
      have := congrArg UInt8.toNat e
      rw [UInt8.toNat_ofNat', show (10 : UInt8).toNat = 10 from rfl] at this
      omega
    by_cases h : u < 10
    · rw [decDigits_small h]; simpa using hd u h
    · rw [decDigits_big h, List.mem_append, not_or]
      exact ⟨ih (u / 10) (by omega), by simpa using hd (u % 10) (by omega)⟩
theorem itoa_no10 (n : Int) : (10 : UInt8) ∉ (itoaB n).data.toList := by
  rw [show (itoaB n).data.toList = Lib.itoa n by simp [itoaB]]
  unfold Lib.itoa
  split
  · rw [List.mem_cons, not_or]; exact ⟨by decide, dec_no10 _⟩
  · exact dec_no10 _
theorem name_no10 {s : ByteArray} (h : isNameB s = true) : (10 : UInt8) ∉ s.data.toList := by
  unfold isNameB at h
  simp only [Bool.and_eq_true] at h
  intro hm
  have := List.all_eq_true.1 h.1 _ hm
  simp at this
theorem cellText_plain {r b : ByteArray} {t v : Int} {g : Bool} (h : isCellB r b t v g = true) : plainB (cellTextB r b t v g) = true ∧ (cellTextB r b t v g).size ≤ 60 := by
  have hs := isCellB_small h
  have zt := itoaB_size t (by unfold I64; omega)
  have zv := itoaB_size v (by unfold I64; omega)
  have hk : isKeyB r b t = true := by unfold isCellB at h; simp only [Bool.and_eq_true] at h; exact h.1
  have hr : isNameB r = true := by unfold isKeyB at hk; simp only [Bool.and_eq_true] at hk; exact hk.1
  have hb : isNameB b = true := by unfold isKeyB at hk; simp only [Bool.and_eq_true] at hk; exact hk.2.1
  have hsz : (cellTextB r b t v g).size ≤ 60 := by
    unfold cellTextB
    cases g
    · simp only [ByteArray.size_append, blank_size, if_neg (show ¬ (false = true) by decide)]; omega
    · simp only [ByteArray.size_append, blank_size, if_true, show (⟨#[45]⟩ : ByteArray).size = 1 from rfl]; omega
  refine ⟨?_, hsz⟩
  have hno : (10 : UInt8) ∉ (cellTextB r b t v g).data.toList := by
    unfold cellTextB
    simp only [app_data, List.mem_append, not_or]
    refine ⟨⟨⟨⟨⟨⟨name_no10 hr, by decide⟩, name_no10 hb⟩, by decide⟩, itoa_no10 t⟩, by decide⟩, ?_⟩
    cases g
    · rw [if_neg (by decide)]; exact itoa_no10 v
    · rw [if_pos rfl]; decide
  unfold plainB
  rw [idx_not hno, decide_eq_true (by omega)]
  rfl
def cellTx (x : S34) : ByteArray := cellTextB x.f0.f0 x.f0.f1 x.f0.f2 x.f1 x.f2
def shelfL : List S34 → List UInt8
  | [] => []
  | x :: l => (frameB (cellTx x)).data.toList ++ shelfL l
def shelfTextB (l : List S34) : ByteArray := if cellsOkB l = true then ⟨(shelfL l).toArray⟩ else ⟨#[]⟩
theorem cellsRun_all (l : List S34) : ∀ p, cellsRun p l = true → ∀ x ∈ l, cellOkB x = true := by
  induction l with
  | nil => intro p _ x hx; simp at hx
  | cons y l ih =>
    intro p h x hx
    unfold cellsRun at h
    simp only [Bool.and_eq_true] at h
    rcases List.mem_cons.1 hx with rfl | hx
    · exact h.1
    · exact ih _ h.2.2 x hx
theorem cellsOk_all {l : List S34} (h : cellsOkB l = true) : (∀ x ∈ l, cellOkB x = true) ∧ l.length ≤ 200 := by
  unfold cellsOkB at h
  simp only [Bool.and_eq_true, decide_eq_true_eq] at h
  exact ⟨cellsRun_all l none h.1, h.2⟩
end Go.Proofs.YtmgcmclcphfogaaDoor.B
namespace Go.Proofs.YtmgcmclcphfogaaDoor.B
open Go Go.RowKit Go.Proofs.YtmgcmclcphfogaaDoorW.PrintWords Go.Proofs.YtmgcmclcphfogaaDoorW.PrintLast Go.Proofs.YtmgcmclcphfogaaDoorW.PrintMore Go.Proofs.YtmgcmclcphfogaaDoor.PX Go.Proofs.YtmgcmclcphfogaaDoor.B
theorem spec_Mark_l0 (s : ByteArray) (hs : s.size ≤ 9223372036854775807) (d : Nat) : ∀ (i : Nat) (m : Int), i ≤ s.size → s.size - i = d → 0 ≤ m → m < 65521 →
    LG fun k => spec_Mark.l0 k s m (i : Int) = some (markRun m (s.data.toList.drop i)) := by
  have hl := size_len s
  induction d with
  | zero =>
    intro i m h1 h2 _ _
    refine LG.step fun j => ?_
    simp only [spec_Mark.l0]
    rw [if_neg (by omega), List.drop_of_length_le (by omega)]
    rfl
  | succ d ih =>
    intro i m h1 h2 m0 m1
    have hi : i < s.data.toList.length := by omega
    have hr := markStep_range m (s.data.toList[i])
    refine (ih (i + 1) (markStep m (s.data.toList[i])) (by omega) (by omega) hr.1 hr.2).up fun j hj => ?_
    simp only [spec_Mark.l0]
    rw [if_pos (by omega), if_pos (by omega), bt_get s i hi, mark_term _ _ m0 m1, markRun_at _ i hi, w64 (n := (i : Int) + 1) (by omega) (by omega)]
    simpa using hj
theorem spec_Mark_eq (s : ByteArray) (hs : s.size ≤ 9223372036854775807) : LG fun k => spec_Mark.f k s = some (markOf s) :=
  spec_Mark_l0 s hs s.size 0 7 (by omega) (by omega) (by omega) (by omega)
theorem impl_mark_l0 (s : ByteArray) (hs : s.size ≤ 9223372036854775807) (d : Nat) : ∀ (i : Nat) (m : Int), i ≤ s.size → s.size - i = d → 0 ≤ m → m < 65521 →
    LG fun k => impl_mark.l0 k s m (s.size : Int) (i : Int) = some (markRun m (s.data.toList.drop i)) := by
  have hl := size_len s
  induction d with
  | zero =>
    intro i m h1 h2 _ _
    refine LG.step fun j => ?_
    simp only [impl_mark.l0]
    rw [if_neg (by omega), List.drop_of_length_le (by omega)]
    rfl
  | succ d ih =>
    intro i m h1 h2 m0 m1
    have hi : i < s.data.toList.length := by omega
    have hr := markStep_range m (s.data.toList[i])
    refine (ih (i + 1) (markStep m (s.data.toList[i])) (by omega) (by omega) hr.1 hr.2).up fun j hj => ?_
    simp only [impl_mark.l0]
    rw [if_pos (by omega), if_pos (by omega), if_pos (by omega), bt_get s i hi, mark_term _ _ m0 m1, markRun_at _ i hi, w64 (n := (i : Int) + 1) (by omega) (by omega)]
    simpa using hj
theorem impl_mark_eq (s : ByteArray) (hs : s.size ≤ 9223372036854775807) : LG fun k => impl_mark.f k s = some (markOf s) :=
  impl_mark_l0 s hs s.size 0 7 (by omega) (by omega) (by omega) (by omega)
end Go.Proofs.YtmgcmclcphfogaaDoor.B
namespace Go.Proofs.YtmgcmclcphfogaaDoor.B
open Go Go.RowKit Go.Proofs.YtmgcmclcphfogaaDoorW.PrintWords Go.Proofs.YtmgcmclcphfogaaDoorW.PrintLast Go.Proofs.YtmgcmclcphfogaaDoorW.PrintMore Go.Proofs.YtmgcmclcphfogaaDoor.PX Go.Proofs.YtmgcmclcphfogaaDoor.B
theorem l3Frame_eq (s : ByteArray) (hs : s.size ≤ 1000000000) : LG fun k => spec_l3Frame.f k s = some (frameB s) := by
  have hm := markOf_range s
  have h1 : I64 (s.size : Int) := by unfold I64; omega
  have h2 : I64 (markOf s) := by unfold I64; omega
  have z1 := itoaB_size _ h1
  have z2 := itoaB_size _ h2
  refine (((l1Int_eq _ h1).and (l1Int_eq _ h2)).and (spec_Mark_eq s (by omega))).mono fun k ⟨⟨g1, g2⟩, g3⟩ => ?_
  unfold spec_l3Frame.f frameB
  rw [g1]
  simp only [Option.bind_some, g3, g2, ByteArray.size_append, show (⟨#[32]⟩ : ByteArray).size = 1 from rfl]
  repeat rw [if_pos (by omega)]
end Go.Proofs.YtmgcmclcphfogaaDoor.B
namespace Go.Proofs.YtmgcmclcphfogaaDoor.B
open Go Go.RowKit Go.Proofs.YtmgcmclcphfogaaDoorW.PrintWords Go.Proofs.YtmgcmclcphfogaaDoorW.PrintLast Go.Proofs.YtmgcmclcphfogaaDoorW.PrintMore Go.Proofs.YtmgcmclcphfogaaDoor.PX Go.Proofs.YtmgcmclcphfogaaDoor.B
theorem impl_framed_j0 (s : ByteArray) (hs : s.size ≤ 1000000000) : LG fun k => impl_framed.j0 k s false = some (frameB s) := by
  have hm := markOf_range s
  have h1 : I64 (s.size : Int) := by unfold I64; omega
  have h2 : I64 (markOf s) := by unfold I64; omega
  have z1 := itoaB_size _ h1
  have z2 := itoaB_size _ h2
  refine (impl_mark_eq s (by omega)).up fun k g3 => ?_
  simp only [impl_framed.j0]
  rw [if_neg (by decide), decimal_eq _ h1]
  unfold frameB
  simp only [Option.bind_some, g3, decimal_eq _ h2, ByteArray.size_append, show (⟨#[32]⟩ : ByteArray).size = 1 from rfl]
  repeat rw [if_pos (by omega)]
theorem impl_framed_eq (s : ByteArray) (hs : s.size ≤ 1000000000) : LG fun k => impl_framed.f k s = some (framedB s) := by
  have hn : LG fun k => impl_framed.j0 k s true = some (⟨#[]⟩ : ByteArray) := LG.step fun j => by simp only [impl_framed.j0]; rw [if_pos trivial]
  refine (hn.and (impl_framed_j0 s hs)).mono fun k ⟨g1, g2⟩ => ?_
  unfold impl_framed.f framedB plainB
  by_cases h : s.size ≤ 300
  · rw [if_neg (by omega)]
    unfold strings_Contains.f
    rw [if_pos (show (⟨#[10]⟩ : ByteArray).size = 1 from rfl)]
    simp only [Option.bind_some]
    rw [show ((⟨#[10]⟩ : ByteArray).data.toList.getD 0 0) = 10 from rfl, indexByte_idx]
    cases e : idx 10 s.data.toList with
    | none => simp only [Option.isNone_none, Bool.true_and, decide_eq_true h, if_true]; rw [show decide ((0 : Int) ≤ -1) = false by decide]; exact g2
    | some i => simp only [Option.isNone_some, Bool.false_and]; rw [decide_eq_true (show (0 : Int) ≤ (i : Int) by omega), if_neg (by decide)]; exact g1
  · rw [if_pos (by omega), decide_eq_false h, Bool.and_false, if_neg (by decide)]
    exact g1
end Go.Proofs.YtmgcmclcphfogaaDoor.B
namespace Go.Proofs.YtmgcmclcphfogaaDoor.B
open Go Go.RowKit Go.Proofs.YtmgcmclcphfogaaDoorW.PrintWords Go.Proofs.YtmgcmclcphfogaaDoorW.PrintLast Go.Proofs.YtmgcmclcphfogaaDoorW.PrintMore Go.Proofs.YtmgcmclcphfogaaDoor.PX Go.Proofs.YtmgcmclcphfogaaDoor.B
theorem l2Less_eq (r1 b1 : ByteArray) (t1 : Int) (r2 b2 : ByteArray) (t2 : Int) : spec_l2Less.f r1 b1 t1 r2 b2 t2 = some (klt ⟨r1, b1, t1⟩ ⟨r2, b2, t2⟩) := by
  unfold spec_l2Less.f klt
  simp only [toList_inj]
  split
  · split <;> rfl
  · rfl
theorem cmp64_eq (a b : Int) : cmp_Compare_int64.f a b = some (if a < b then -1 else if a > b then 1 else 0) := by
  unfold cmp_Compare_int64.f cmp_isNaN_int64.f
  simp
  split
  · rfl
  · split <;> rfl
theorem or3_eq (a b c : Int) : LG fun k => cmp_Or_int.f k [a, b, c] = some (if a = 0 then (if b = 0 then c else b) else a) := by
  refine ⟨4, fun k hk => ?_⟩
  obtain ⟨j, rfl⟩ : ∃ j, k = j + 4 := ⟨k - 4, by omega⟩
  unfold cmp_Or_int.f
  have e1 : wrap64 1 = 1 := w64 (by omega) (by omega)
  have e2 : wrap64 2 = 2 := w64 (by omega) (by omega)
  have e3 : wrap64 3 = 3 := w64 (by omega) (by omega)
  by_cases ha : a = 0
  · by_cases hb : b = 0
    · by_cases hc : c = 0
      · simp [cmp_Or_int.l0, rd, ha, hb, hc, e1, e2, e3]
      · simp [cmp_Or_int.l0, rd, ha, hb, hc, e1, e2]
    · simp [cmp_Or_int.l0, rd, ha, hb, e1]
  · simp [cmp_Or_int.l0, rd, ha]
theorem compareKeys_eq (r1 b1 : ByteArray) (t1 : Int) (r2 b2 : ByteArray) (t2 : Int) : LG fun k => impl_compareKeys.f k r1 b1 t1 r2 b2 t2 = some (kcmp ⟨r1, b1, t1⟩ ⟨r2, b2, t2⟩) := by
  refine (or3_eq (Lib.compareBytes r1.data.toList r2.data.toList) (Lib.compareBytes b1.data.toList b2.data.toList) (if t2 < t1 then -1 else if t2 > t1 then 1 else 0)).mono fun k hk => ?_
  unfold impl_compareKeys.f strings_Compare.f
  simp only [Option.bind_some, cmp64_eq, hk]
  congr 1
  have key : ∀ s t : ByteArray, s.data.toList = t.data.toList ↔ s = t := fun s t => by rw [← toList_eq, ← toList_eq]; exact toList_inj s t
  unfold kcmp klt
  simp only [toList_eq]
  rcases cb_cases r1.data.toList r2.data.toList with ⟨h1, h2⟩ | ⟨h1, h2⟩ | ⟨h1, h2⟩
  · have hn : ¬ r1 = r2 := fun e => by rw [e, bl_irrefl] at h2; exact absurd h2 (by simp)
    simp [h1, h2, hn]
  · have h0 := (key _ _).mp h2
    subst h0
    rcases cb_cases b1.data.toList b2.data.toList with ⟨g1, g2⟩ | ⟨g1, g2⟩ | ⟨g1, g2⟩
    · have hn : ¬ b1 = b2 := fun e => by rw [e, bl_irrefl] at g2; exact absurd g2 (by simp)
      simp [h1, g1, g2, hn]
    · have g0 := (key _ _).mp g2
      subst g0
      simp only [h1, g1, if_true]
      by_cases ht : t2 < t1
      · simp [ht]
      · by_cases hu : t1 < t2
        · simp [ht, hu, show ¬ t1 = t2 by omega]
        · have : t1 = t2 := by omega
          simp [this]
    · have hn : ¬ b1 = b2 := fun e => by rw [e, bl_irrefl] at g2; exact absurd g2 (by simp)
      have hb : Op.bytesLess b1.data.toList b2.data.toList = false := bl_asymm _ _ g2
      simp [h1, g1, hb, hn]
  · have hn : ¬ r1 = r2 := fun e => by rw [e, bl_irrefl] at h2; exact absurd h2 (by simp)
    have hb : Op.bytesLess r1.data.toList r2.data.toList = false := bl_asymm _ _ h2
    simp [h1, hb, hn]
end Go.Proofs.YtmgcmclcphfogaaDoor.B
namespace Go.Proofs.YtmgcmclcphfogaaDoor.B
open Go Go.RowKit Go.Proofs.YtmgcmclcphfogaaDoorW.PrintWords Go.Proofs.YtmgcmclcphfogaaDoorW.PrintLast Go.Proofs.YtmgcmclcphfogaaDoorW.PrintMore Go.Proofs.YtmgcmclcphfogaaDoor.PX Go.Proofs.YtmgcmclcphfogaaDoor.B
theorem spec_CellsOk_l0 (l : List S34) (hl : l.length ≤ 9223372036854775807) (hs : CellSz l) (d : Nat) : ∀ i : Nat, l.length - i = d → i ≤ l.length →
    LG fun k => spec_CellsOk.l0 k l (i : Int) = some (cellsRun (cellAhead l i) (l.drop i) && decide (l.length ≤ 200)) := by
  induction d with
  | zero =>
    intro i h1 h2
    refine LG.step fun j => ?_
    simp only [spec_CellsOk.l0]
    rw [if_neg (by omega), List.drop_of_length_le (by omega)]
    simp only [cellsRun, Bool.true_and]
    congr 1
    rw [Bool.eq_iff_iff]
    simp only [decide_eq_true_eq]
    omega
  | succ d ih =>
    intro i h1 h2
    have hi : i < l.length := by omega
    have hz := hs _ (List.getElem_mem hi)
    refine ((ih (i + 1) (by omega) (by omega)).and (spec_CellOk_eq (l[i]).f0.f0 (l[i]).f0.f1 (l[i]).f0.f2 (l[i]).f1 (l[i]).f2 hz.1 hz.2)).up fun j ⟨hj, hn⟩ => ?_
    simp only [spec_CellsOk.l0]
    rw [if_pos (by omega), if_pos (by omega), cellsRun_at l i hi, rdI_Cell l i hi, hn]
    simp only [Option.bind_some, l2Less_eq]
    rw [show isCellB (l[i]).f0.f0 (l[i]).f0.f1 (l[i]).f0.f2 (l[i]).f1 (l[i]).f2 = cellOkB l[i] from rfl]
    cases cellOkB l[i] with
    | false => simp
    | true =>
      simp only [if_true, Bool.true_and]
      have e1 : wrap64 ((i : Int) + 1) = ((i + 1 : Nat) : Int) := by rw [w64 (by omega) (by omega)]; omega
      by_cases h0 : i = 0
      · rw [if_neg (by omega), if_pos h0, e1, hj, Bool.true_and]
      · have e : wrap64 ((i : Int) - 1) = ((i - 1 : Nat) : Int) := by rw [w64 (by omega) (by omega)]; omega
        rw [if_pos (by omega), e, if_pos (by omega), if_pos (by omega), if_neg h0, e1, hj]
        cases klt (rd_T34 l ((i - 1 : Nat) : Int)).f0 (l[i]).f0 <;> simp
theorem spec_CellsOk_eq (l : List S34) (hl : l.length ≤ 9223372036854775807) (hs : CellSz l) : LG fun k => spec_CellsOk.f k l = some (cellsOkB l) := by
  simpa [spec_CellsOk.f, cellsOkB, cellAhead] using spec_CellsOk_l0 l hl hs l.length 0 (by omega) (by omega)
end Go.Proofs.YtmgcmclcphfogaaDoor.B
namespace Go.Proofs.YtmgcmclcphfogaaDoor.B
open Go Go.RowKit Go.Proofs.YtmgcmclcphfogaaDoorW.PrintWords Go.Proofs.YtmgcmclcphfogaaDoorW.PrintLast Go.Proofs.YtmgcmclcphfogaaDoorW.PrintMore Go.Proofs.YtmgcmclcphfogaaDoor.PX Go.Proofs.YtmgcmclcphfogaaDoor.B
theorem impl_areCells_l0 (l : List S34) (hl : l.length ≤ 9223372036854775807) (hs : CellSz l) (d : Nat) : ∀ i : Nat, l.length - i = d → i ≤ l.length →
    LG fun k => impl_areCells.l0 k l l (l.length : Int) (i : Int) = some (cellsRun (cellAhead l i) (l.drop i) && decide (l.length ≤ 200)) := by
  induction d with
  | zero =>
    intro i h1 h2
    refine LG.step fun j => ?_
    simp only [impl_areCells.l0]
    rw [if_neg (by omega), List.drop_of_length_le (by omega)]
    simp only [cellsRun, Bool.true_and]
    congr 1
    rw [Bool.eq_iff_iff]
    simp only [decide_eq_true_eq]
    omega
  | succ d ih =>
    intro i h1 h2
    have hi : i < l.length := by omega
    have hz := hs _ (List.getElem_mem hi)
    refine (((ih (i + 1) (by omega) (by omega)).and (impl_isCell_eq (l[i]).f0.f0 (l[i]).f0.f1 (l[i]).f0.f2 (l[i]).f1 (l[i]).f2 hz.1 hz.2)).and
      (compareKeys_eq (rd_T34 l ((i - 1 : Nat) : Int)).f0.f0 (rd_T34 l ((i - 1 : Nat) : Int)).f0.f1 (rd_T34 l ((i - 1 : Nat) : Int)).f0.f2 (l[i]).f0.f0 (l[i]).f0.f1 (l[i]).f0.f2)).up fun j ⟨⟨hj, hn⟩, hc⟩ => ?_
    simp only [impl_areCells.l0]
    rw [if_pos (by omega), if_pos (by omega), if_pos (by omega), cellsRun_at l i hi, rdI_Cell l i hi, hn]
    simp only [Option.bind_some]
    rw [show isCellB (l[i]).f0.f0 (l[i]).f0.f1 (l[i]).f0.f2 (l[i]).f1 (l[i]).f2 = cellOkB l[i] from rfl]
    cases cellOkB l[i] with
    | false => simp
    | true =>
      simp only [if_true, Bool.true_and]
      have e1 : wrap64 ((i : Int) + 1) = ((i + 1 : Nat) : Int) := by rw [w64 (by omega) (by omega)]; omega
      by_cases h0 : i = 0
      · rw [if_neg (by omega), if_pos h0, e1, hj, Bool.true_and]
      · have e : wrap64 ((i : Int) - 1) = ((i - 1 : Nat) : Int) := by rw [w64 (by omega) (by omega)]; omega
        rw [if_pos (by omega), e, if_pos (by omega), if_pos (by omega), if_neg h0, e1, hj, hc]
        simp only [Option.bind_some]
        have hk := kcmp_neg (rd_T34 l ((i - 1 : Nat) : Int)).f0 (l[i]).f0
        have hkk : kcmp ⟨(rd_T34 l ((i - 1 : Nat) : Int)).f0.f0, (rd_T34 l ((i - 1 : Nat) : Int)).f0.f1, (rd_T34 l ((i - 1 : Nat) : Int)).f0.f2⟩ ⟨(l[i]).f0.f0, (l[i]).f0.f1, (l[i]).f0.f2⟩ = kcmp (rd_T34 l ((i - 1 : Nat) : Int)).f0 (l[i]).f0 := rfl
        rw [hkk]
        cases hb : klt (rd_T34 l ((i - 1 : Nat) : Int)).f0 (l[i]).f0 with
        | false =>
          rw [hb] at hk
          rw [if_pos (by have : ¬ kcmp (rd_T34 l ((i - 1 : Nat) : Int)).f0 (l[i]).f0 < 0 := fun h => by simpa using hk.mp h
                         omega)]
          simp
        | true =>
          rw [hb] at hk
          rw [if_neg (by have := hk.mpr rfl
                         omega)]
          simp
theorem impl_areCells_eq (l : List S34) (hl : l.length ≤ 9223372036854775807) (hs : CellSz l) : LG fun k => impl_areCells.f k l = some (cellsOkB l) := by
  simpa [impl_areCells.f, cellsOkB, cellAhead] using impl_areCells_l0 l hl hs l.length 0 (by omega) (by omega)
end Go.Proofs.YtmgcmclcphfogaaDoor.B
namespace Go.Proofs.YtmgcmclcphfogaaDoor.B
open Go Go.RowKit Go.Proofs.YtmgcmclcphfogaaDoorW.PrintWords Go.Proofs.YtmgcmclcphfogaaDoorW.PrintLast Go.Proofs.YtmgcmclcphfogaaDoorW.PrintMore Go.Proofs.YtmgcmclcphfogaaDoor.PX Go.Proofs.YtmgcmclcphfogaaDoor.B
theorem impl_shelfText_g (l : List S34) : ∀ acc : List UInt8, (∀ x ∈ l, cellOkB x = true) → acc.length + l.length * 100 ≤ 1000000 →
    LG fun k => impl_shelfText.g k l acc = some (acc ++ shelfL l) := by
  induction l with
  | nil => intro acc _ _; exact LG.all fun k => by simp [impl_shelfText.g, shelfL]
  | cons x l ih =>
    intro acc h hz
    have hx : isCellB x.f0.f0 x.f0.f1 x.f0.f2 x.f1 x.f2 = true := h x (List.mem_cons_self ..)
    obtain ⟨hp, hs⟩ := cellText_plain hx
    have hf := frameB_size (cellTx x) (by unfold cellTx; omega)
    have hfs : (frameB (cellTx x)).size ≤ 71 := by unfold cellTx at hf ⊢; omega
    have hfr : framedB (cellTx x) = frameB (cellTx x) := by unfold framedB; rw [if_pos (by unfold cellTx; exact hp)]
    rw [List.length_cons] at hz
    refine ((ih (acc ++ (frameB (cellTx x)).data.toList) (fun y hy => h y (List.mem_cons_of_mem _ hy)) (by rw [List.length_append, size_len]; omega)).and (impl_framed_eq (cellTx x) (by unfold cellTx; omega))).mono fun k ⟨h1, h2⟩ => ?_
    simp only [impl_shelfText.g]
    rw [impl_showCell_eq _ _ _ _ _ hx, Option.bind_some]
    rw [show cellTextB x.f0.f0 x.f0.f1 x.f0.f2 x.f1 x.f2 = cellTx x from rfl, h2, Option.bind_some, hfr, if_pos (by omega), h1]
    simp [shelfL]
theorem impl_ShelfText_eq (l : List S34) (hl : l.length ≤ 9223372036854775807) (hs : CellSz l) : LG fun k => impl_ShelfText.f k l = some (shelfTextB l) := by
  unfold shelfTextB
  by_cases h : cellsOkB l = true
  · obtain ⟨ha, hlen⟩ := cellsOk_all h
    refine ((impl_areCells_eq l hl hs).and (impl_shelfText_g l [] ha (by simp; omega))).mono fun k ⟨h1, h2⟩ => ?_
    unfold impl_ShelfText.f impl_shelfText.f
    rw [h1, Option.bind_some, if_pos h, if_pos (by omega), h2, if_pos h]
    rfl
  · refine (impl_areCells_eq l hl hs).mono fun k h1 => ?_
    unfold impl_ShelfText.f
    rw [h1, Option.bind_some, if_neg h, if_neg h]
theorem spec_ShelfText_l0 (l : List S34) (hs : CellSz l) (hok : cellsOkB l = true) (d : Nat) : ∀ (i : Nat) (s : ByteArray), i ≤ l.length → l.length - i = d → s.size + (l.length - i) * 100 ≤ 1000000 →
    LG fun k => spec_ShelfText.l0 k l s (i : Int) = some ⟨(s.data.toList ++ shelfL (l.drop i)).toArray⟩ := by
  obtain ⟨ha, hlen⟩ := cellsOk_all hok
  induction d with
  | zero =>
    intro i s h1 h2 h3
    have hj : LG fun k => spec_ShelfText.j1 k l s (i : Int) false = some ⟨(s.data.toList ++ shelfL (l.drop i)).toArray⟩ := by
      refine LG.step fun j => ?_
      simp only [spec_ShelfText.j1]
      rw [if_neg (by decide), List.drop_of_length_le (by omega)]
      exact congrArg some (ba_ext (by simp [shelfL]))
    refine hj.up fun j hj => ?_
    simp only [spec_ShelfText.l0]
    rw [if_neg (by omega)]
    exact hj
  | succ d ih =>
    intro i s h1 h2 h3
    have hi : i < l.length := by omega
    have hx : isCellB l[i].f0.f0 l[i].f0.f1 l[i].f0.f2 l[i].f1 l[i].f2 = true := ha _ (List.getElem_mem hi)
    obtain ⟨hp, hsz⟩ := cellText_plain hx
    have hf := frameB_size (cellTx l[i]) (by unfold cellTx; omega)
    have hfs : (frameB (cellTx l[i])).size ≤ 71 := by unfold cellTx at hf ⊢; omega
    have hn := ih (i + 1) (s ++ frameB (cellTx l[i])) (by omega) (by omega) (by rw [ByteArray.size_append]; omega)
    have hj : LG fun k => spec_ShelfText.j1 k l s (i : Int) true = some ⟨(s.data.toList ++ shelfL (l.drop i)).toArray⟩ := by
      refine ((hn.and (spec_l4Show_eq _ _ _ _ _ hx)).and (l3Frame_eq (cellTx l[i]) (by unfold cellTx; omega))).up fun j ⟨⟨g1, g2⟩, g3⟩ => ?_
      simp only [spec_ShelfText.j1]
      rw [if_pos trivial, if_pos (by omega), if_pos (by omega), rdI_Cell l i hi, g2, Option.bind_some, show cellTextB l[i].f0.f0 l[i].f0.f1 l[i].f0.f2 l[i].f1 l[i].f2 = cellTx l[i] from rfl, g3, Option.bind_some, if_pos (by omega), w64 (by omega) (by omega)]
      rw [show ((i : Int) + 1) = ((i + 1 : Nat) : Int) by omega, g1, List.drop_eq_getElem_cons hi]
      exact congrArg some (ba_ext (by simp [shelfL]))
    refine (hj.and (spec_CellsOk_eq l (by omega) hs)).up fun j ⟨g1, g2⟩ => ?_
    simp only [spec_ShelfText.l0]
    rw [if_pos (by omega), g2, Option.bind_some, hok]
    exact g1
theorem spec_ShelfText_eq (l : List S34) (hl : l.length ≤ 9223372036854775807) (hs : CellSz l) : LG fun k => spec_ShelfText.f k l = some (shelfTextB l) := by
  unfold shelfTextB
  by_cases h : cellsOkB l = true
  · obtain ⟨ha, hlen⟩ := cellsOk_all h
    rw [if_pos h]
    exact (spec_ShelfText_l0 l hs h l.length 0 ⟨#[]⟩ (by omega) (by omega) (by show 0 + _ ≤ _; omega)).mono fun k hk => by unfold spec_ShelfText.f; simpa using hk
  · rw [if_neg h]
    have hj : LG fun k => spec_ShelfText.j1 k l (⟨#[]⟩ : ByteArray) 0 false = some (⟨#[]⟩ : ByteArray) := LG.step fun j => by simp only [spec_ShelfText.j1]; rw [if_neg (by decide)]
    refine ((hj.and (spec_CellsOk_eq l hl hs)).up fun j ⟨g1, g2⟩ => ?_ : LG fun k => spec_ShelfText.l0 k l (⟨#[]⟩ : ByteArray) 0 = some (⟨#[]⟩ : ByteArray))
    simp only [spec_ShelfText.l0]
    by_cases h0 : 0 < (l.length : Int)
    · rw [if_pos h0, g2, Option.bind_some, Bool.eq_false_iff.2 h]; exact g1
    · rw [if_neg h0]; exact g1
end Go.Proofs.YtmgcmclcphfogaaDoor.B
namespace Go.Proofs.YtmgcmclcphfogaaDoor.B
open Go Go.RowKit Go.Proofs.YtmgcmclcphfogaaDoorW.PrintWords Go.Proofs.YtmgcmclcphfogaaDoorW.PrintLast Go.Proofs.YtmgcmclcphfogaaDoorW.PrintMore Go.Proofs.YtmgcmclcphfogaaDoor.PX Go.Proofs.YtmgcmclcphfogaaDoor.B
theorem szKey_some (r b : ByteArray) (t left : Int) : ∃ q, laws_szKey.f r b t left = some q := by
  unfold laws_szKey.f
  split
  · exact ⟨_, rfl⟩
  · split <;> exact ⟨_, rfl⟩
end Go.Proofs.YtmgcmclcphfogaaDoor.B
namespace Go.Proofs.YtmgcmclcphfogaaDoor.B
open Go Go.RowKit Go.Proofs.YtmgcmclcphfogaaDoorW.PrintWords Go.Proofs.YtmgcmclcphfogaaDoorW.PrintLast Go.Proofs.YtmgcmclcphfogaaDoorW.PrintMore Go.Proofs.YtmgcmclcphfogaaDoor.PX Go.Proofs.YtmgcmclcphfogaaDoor.B
theorem szCell_some (r b : ByteArray) (t v : Int) (g : Bool) (left : Int) : ∃ q, laws_szCell.f r b t v g left = some q := by
  obtain ⟨q, hq⟩ := szKey_some r b t left
  unfold laws_szCell.f
  rw [hq]
  simp only [Option.bind_some]
  split <;> exact ⟨_, rfl⟩
end Go.Proofs.YtmgcmclcphfogaaDoor.B
namespace Go.Proofs.YtmgcmclcphfogaaDoor.B
open Go Go.RowKit Go.Proofs.YtmgcmclcphfogaaDoorW.PrintWords Go.Proofs.YtmgcmclcphfogaaDoorW.PrintLast Go.Proofs.YtmgcmclcphfogaaDoorW.PrintMore Go.Proofs.YtmgcmclcphfogaaDoor.PX Go.Proofs.YtmgcmclcphfogaaDoor.B
def toK (x : S23) : S26 := ⟨x.f0, x.f1, x.f2⟩
def toC (x : S30) : S34 := ⟨toK x.f0, x.f1, x.f2⟩
theorem rdL_Cell (xs : List S30) (i : Nat) (h : i < xs.length) : rd_T30 xs (i : Int) = xs[i] := getD_nat xs _ i h
theorem szKey_le (r b : ByteArray) (t left : Int) (hr : r.size ≤ 9223372036854775807) (hb : b.size ≤ 9223372036854775807) (h0 : 0 ≤ left) (h1 : left ≤ 1048576) : ∃ q, laws_szKey.f r b t left = some q ∧ q ≤ left := by
  unfold laws_szKey.f
  rw [w64 (n := left - r.size) (by omega) (by omega)]
  by_cases h : left - (r.size : Int) < 0
  · rw [if_pos h]
    exact ⟨-1, rfl, by omega⟩
  · rw [if_neg h, w64 (by omega) (by omega)]
    split
    · exact ⟨-1, rfl, by omega⟩
    · exact ⟨_, rfl, by omega⟩
theorem szCell_le (r b : ByteArray) (t v : Int) (g : Bool) (left : Int) (hr : r.size ≤ 9223372036854775807) (hb : b.size ≤ 9223372036854775807) (h0 : 0 ≤ left) (h1 : left ≤ 1048576) : ∃ q, laws_szCell.f r b t v g left = some q ∧ q ≤ left := by
  obtain ⟨q, hq, hle⟩ := szKey_le r b t left hr hb h0 h1
  unfold laws_szCell.f
  rw [hq]
  simp only [Option.bind_some]
  split
  · exact ⟨-1, rfl, by omega⟩
  · exact ⟨q, rfl, hle⟩
def CellSzL (l : List S30) : Prop := ∀ x ∈ l, x.f0.f0.size ≤ 9223372036854775807 ∧ x.f0.f1.size ≤ 9223372036854775807
theorem szCellS_l0 (l : List S30) (hl : l.length ≤ 1048576) (hs : CellSzL l) (d : Nat) : ∀ (i : Nat) (left : Int), l.length - i = d → i ≤ l.length → 0 ≤ left → left ≤ 1048576 →
    ∃ r, (LG fun k => laws_szCellS.l0 k l left (i : Int) = some r) ∧ r ≤ left := by
  induction d with
  | zero =>
    intro i left h1 h2 _ _
    refine ⟨left, LG.step fun j => ?_, by omega⟩
    simp only [laws_szCellS.l0]
    rw [if_neg (by omega)]
  | succ d ih =>
    intro i left h1 h2 h3 h4
    have hi : i < l.length := by omega
    have hz := hs _ (List.getElem_mem hi)
    obtain ⟨r, hr, hle⟩ := szCell_le (l[i]).f0.f0 (l[i]).f0.f1 (l[i]).f0.f2 (l[i]).f1 (l[i]).f2 left hz.1 hz.2 h3 h4
    by_cases hn : r < 0
    · refine ⟨-1, LG.step fun j => ?_, by omega⟩
      simp only [laws_szCellS.l0]
      rw [if_pos (by omega), if_pos (by omega), rdL_Cell l i hi, hr]
      simp only [Option.bind_some]
      rw [if_pos hn]
    · obtain ⟨q, hq, hqr⟩ := ih (i + 1) r (by omega) (by omega) (by omega) (by omega)
      refine ⟨q, hq.up fun j hj => ?_, by omega⟩
      simp only [laws_szCellS.l0]
      rw [if_pos (by omega), if_pos (by omega), rdL_Cell l i hi, hr]
      simp only [Option.bind_some]
      rw [if_neg hn, w64 (by omega) (by omega)]
      simpa using hj
theorem szCellS_gen (l : List S30) (left : Int) (h0 : 0 ≤ left) (h1 : left ≤ 1048576) (hm : l.length ≤ 9223372036854775807) (hs : CellSzL l) : ∃ r, (LG fun k => laws_szCellS.f k l left = some r) ∧ r ≤ left ∧ (0 ≤ r → l.length ≤ 1048576) := by
  by_cases h : (l.length : Int) ≤ left
  · obtain ⟨r, hr, hle⟩ := szCellS_l0 l (by omega) hs l.length 0 (left - l.length) (by omega) (by omega) (by omega) (by omega)
    refine ⟨r, hr.mono fun k hk => ?_, by omega, fun _ => by omega⟩
    unfold laws_szCellS.f
    rw [w64 (by omega) (by omega), if_neg (by omega)]
    exact hk
  · refine ⟨-1, LG.all fun k => ?_, by omega, by omega⟩
    unfold laws_szCellS.f
    rw [w64 (by omega) (by omega), if_pos (by omega)]
theorem szCellS_eq (l : List S30) (hm : l.length ≤ 9223372036854775807) (hs : CellSzL l) : ∃ r, (LG fun k => laws_szCellS.f k l 1048576 = some r) ∧ (0 ≤ r → l.length ≤ 1048576) := by
  obtain ⟨r, hr, _, h⟩ := szCellS_gen l 1048576 (by omega) (by omega) hm hs
  exact ⟨r, hr, h⟩
theorem toCell_eq (x : S30) : laws_toCell.f x.f0.f0 x.f0.f1 x.f0.f2 x.f1 x.f2 = some ((toC x).f0.f0, (toC x).f0.f1, (toC x).f0.f2, (toC x).f1, (toC x).f2) := by
  unfold laws_toCell.f laws_toKey.f
  rfl
theorem toCellS_l0 (l : List S30) (hl : l.length ≤ 1048576) (d : Nat) : ∀ (i : Nat) (x : List S34), l.length - i = d → i ≤ l.length → x.length = l.length → x.take i = (l.map toC).take i →
    LG fun k => laws_toCellS.l0 k l x (i : Int) = some (l.map toC) := by
  induction d with
  | zero =>
    intro i x h1 h2 h3 h4
    refine LG.step fun j => ?_
    obtain rfl : i = l.length := by omega
    simp only [laws_toCellS.l0]
    rw [if_neg (by omega), take_all h3 (by simp) h4]
  | succ d ih =>
    intro i x h1 h2 h3 h4
    have hi : i < l.length := by omega
    refine (ih (i + 1) (x.set i (toC l[i])) (by omega) (by omega) (by simpa using h3) ?_).up fun j hj => ?_
    · rw [set_take _ _ _ (by omega), take_map_succ _ _ _ hi, h4]
    · simp only [laws_toCellS.l0]
      rw [if_pos (by omega), if_pos (by omega), rdL_Cell l i hi, toCell_eq]
      simp only [Option.bind_some]
      rw [if_pos (by omega), w64 (by omega) (by omega)]
      simpa using hj
theorem toCellS_eq (l : List S30) (hl : l.length ≤ 1048576) : LG fun k => laws_toCellS.f k l = some (l.map toC) := by
  refine (toCellS_l0 l hl l.length 0 (List.replicate l.length z34) (by omega) (by omega) (by simp) (by simp)).mono fun k hk => ?_
  unfold laws_toCellS.f
  rw [if_pos (by omega), if_pos (by omega), Int.toNat_natCast]
  exact hk
theorem eqCell_self (r b : ByteArray) (t v : Int) (g : Bool) : laws_eqCell.f r b t v g r b t v g = some true := by
  unfold laws_eqCell.f laws_eqKey.f
  simp
theorem eqCellS_l0 (l : List S34) (hl : l.length ≤ 9223372036854775807) (d : Nat) : ∀ i : Nat, l.length - i = d → i ≤ l.length → LG fun k => laws_eqCellS.l0 k l l (i : Int) = some true := by
  induction d with
  | zero =>
    intro i h1 h2
    refine LG.step fun j => ?_
    simp only [laws_eqCellS.l0]
    rw [if_neg (by omega)]
  | succ d ih =>
    intro i h1 h2
    refine (ih (i + 1) (by omega) (by omega)).up fun j hj => ?_
    simp only [laws_eqCellS.l0]
    rw [if_pos (by omega), if_pos (by omega), if_pos (by omega), eqCell_self]
    simp only [Option.bind_some, if_true]
    rw [w64 (by omega) (by omega)]
    simpa using hj
theorem eqCellS_self (l : List S34) (hl : l.length ≤ 9223372036854775807) : LG fun k => laws_eqCellS.f k l l = some true := by
  refine (eqCellS_l0 l hl l.length 0 (by omega) (by omega)).mono fun k hk => ?_
  unfold laws_eqCellS.f
  rw [if_pos rfl]
  exact hk
theorem toC_sz (l : List S30) (h : CellSzL l) : CellSz (l.map toC) := by
  intro x hx
  obtain ⟨y, hy, rfl⟩ := List.mem_map.mp hx
  exact h y hy
end Go.Proofs.YtmgcmclcphfogaaDoor.B
namespace Go.Proofs.YtmgcmclcphfogaaDoor.Pure
open Go Go.RowKit Go.Proofs.YtmgcmclcphfogaaDoorW.PrintWords Go.Proofs.YtmgcmclcphfogaaDoorW.PrintLast Go.Proofs.YtmgcmclcphfogaaDoorW.PrintMore Go.Proofs.YtmgcmclcphfogaaDoor.PX Go.Proofs.YtmgcmclcphfogaaDoor.B
theorem FnExactShelfText : FnExactShelfText_Pure := by
  intro l hl
  have hz : CellSzL l := fun x hx => ⟨(hl.2 x hx).1.1, (hl.2 x hx).1.2.1⟩
  obtain ⟨r, hr, hle⟩ := szCellS_eq l hl.1 hz
  by_cases h0 : r < 0
  · obtain ⟨k, hk⟩ := hr.rounds
    refine ⟨k, ?_⟩
    unfold laws_FnExactShelfText.f
    simp only [hk, Option.bind_some, if_pos h0]
  · have hlen := hle (by omega)
    have hml : (l.map toC).length ≤ 9223372036854775807 := by rw [List.length_map]; omega
    have hms := toC_sz l hz
    obtain ⟨k, hk, h1, h2, h3, h4⟩ := (hr.and ((toCellS_eq l hlen).and ((spec_ShelfText_eq (l.map toC) hml hms).and ((impl_ShelfText_eq (l.map toC) hml hms).and (eqCellS_self (l.map toC) hml))))).rounds
    refine ⟨k, ?_⟩
    unfold laws_FnExactShelfText.f
    simp only [hk, h1, h2, h3, h4, Option.bind_some, if_neg h0, if_true]
end Go.Proofs.YtmgcmclcphfogaaDoor.Pure
