import Derived.Test.YtmgcmclcphfogaaDoorPXx0
import Derived.Test.YtmgcmclcphfogaaDoorPXx2
import Derived.Test.YtmgcmclcphfogaaDoorPXx3
import Derived.Test.YtmgcmclcphfogaaDoorPXx5
import Derived.Test.YtmgcmclcphfogaaDoorPXx6
import Derived.Test.YtmgcmclcphfogaaDoorPXx7
import Derived.Test.YtmgcmclcphfogaaDoorStFnExactShowCell
import Derived.Lib.ItoaNum
import Derived.Test.YtmgcmclcphfogaaDoorWMore
set_option linter.unusedVariables false
set_option linter.unusedSimpArgs false
namespace Go.Proofs.YtmgcmclcphfogaaDoor.B
open Go Go.RowKit Go.Proofs.YtmgcmclcphfogaaDoorW.PrintWords Go.Proofs.YtmgcmclcphfogaaDoorW.PrintLast Go.Proofs.YtmgcmclcphfogaaDoorW.PrintMore Go.Proofs.YtmgcmclcphfogaaDoor.PX
/-- From some number of rounds on. -/
def LG (p : Nat → Prop) : Prop := ∃ K, ∀ k, K ≤ k → p k
namespace LG
theorem all {p : Nat → Prop} (h : ∀ k, p k) : LG p := ⟨0, fun k _ => h k⟩
theorem step {p : Nat → Prop} (h : ∀ j, p (j + 1)) : LG p := ⟨1, fun k hk => by
  obtain ⟨j, rfl⟩ : ∃ j, k = j + 1 := ⟨k - 1, by omega⟩
  exact h j⟩
theorem and {p q : Nat → Prop} (h : LG p) (g : LG q) : LG fun k => p k ∧ q k := by
  obtain ⟨a, h⟩ := h
  obtain ⟨b, g⟩ := g
  exact ⟨max a b, fun k hk => ⟨h k (by omega), g k (by omega)⟩⟩
theorem mono {p q : Nat → Prop} (h : LG p) (g : ∀ k, p k → q k) : LG q := by
  obtain ⟨a, h⟩ := h
  exact ⟨a, fun k hk => g k (h k hk)⟩
/-- One round: what holds of j holds of j + 1 rounds. -/
theorem up {p q : Nat → Prop} (h : LG p) (g : ∀ j, p j → q (j + 1)) : LG q := by
  obtain ⟨a, h⟩ := h
  refine ⟨a + 1, fun k hk => ?_⟩
  obtain ⟨j, rfl⟩ : ∃ j, k = j + 1 := ⟨k - 1, by omega⟩
  exact g j (h j (by omega))
theorem rounds {p : Nat → Prop} (h : LG p) : ∃ k, p k := by
  obtain ⟨a, h⟩ := h
  exact ⟨a, h a (Nat.le_refl _)⟩
end LG
def I64 (n : Int) : Prop := -9223372036854775808 ≤ n ∧ n ≤ 9223372036854775807
theorem i64_of {n : Int} (h : (Lit.int .i64 n).wf = true) : I64 n := by
  simp only [Lit.wf, IntKind.min, IntKind.max, IntKind.signed, IntKind.bits, Bool.and_eq_true, decide_eq_true_eq, if_true] at h
  unfold I64
  omega
theorem w64 {n : Int} (h0 : -9223372036854775808 ≤ n) (h1 : n ≤ 9223372036854775807) : wrap64 n = n := by
  unfold wrap64
  omega
theorem bt_get (s : ByteArray) (i : Nat) (h : i < s.data.toList.length) : bt s (i : Int) = ((s.data.toList[i]).toNat : Int) := by
  have hs : (i : Int).toNat < s.size := by
    have : s.size = s.data.toList.length := by rw [Array.length_toList]; rfl
    omega
  unfold bt
  rw [dif_pos hs]
  rfl
theorem size_len (s : ByteArray) : s.data.toList.length = s.size := by rw [Array.length_toList]; rfl
end Go.Proofs.YtmgcmclcphfogaaDoor.B
namespace Go.Proofs.YtmgcmclcphfogaaDoor.B
open Go Go.RowKit Go.Proofs.YtmgcmclcphfogaaDoorW.PrintWords Go.Proofs.YtmgcmclcphfogaaDoorW.PrintLast Go.Proofs.YtmgcmclcphfogaaDoorW.PrintMore Go.Proofs.YtmgcmclcphfogaaDoor.PX Go.Proofs.YtmgcmclcphfogaaDoor.B
theorem getD_nat {α : Type} (xs : List α) (z : α) (i : Nat) (h : i < xs.length) : xs.getD (i : Int).toNat z = xs[i] := by
  rw [Int.toNat_natCast, List.getD_eq_getElem?_getD, List.getElem?_eq_getElem h]
  rfl
theorem set_take {α : Type} (xs : List α) (i : Nat) (v : α) (h : i < xs.length) : (xs.set i v).take (i + 1) = xs.take i ++ [v] := by
  rw [List.take_succ_eq_append_getElem (by simpa using h), List.take_set_of_le (Nat.le_refl i), List.getElem_set_self]
theorem take_map_succ {α β : Type} (f : α → β) (xs : List α) (i : Nat) (h : i < xs.length) : (xs.map f).take (i + 1) = (xs.map f).take i ++ [f xs[i]] := by
  rw [List.take_succ_eq_append_getElem (by simpa using h), List.getElem_map]
theorem take_all {α : Type} {xs ys : List α} {n : Nat} (hx : xs.length = n) (hy : ys.length = n) (h : xs.take n = ys.take n) : xs = ys := by
  rw [List.take_of_length_le (by omega), List.take_of_length_le (by omega)] at h
  exact h
theorem toList_eq (s : ByteArray) : s.toList = s.data.toList := by
  first | exact ByteArray.toList_eq s | simp
theorem toList_inj (s t : ByteArray) : s.toList = t.toList ↔ s = t := by
  rw [toList_eq, toList_eq]
  constructor
  · intro h
    obtain ⟨⟨l⟩⟩ := s
    obtain ⟨⟨m⟩⟩ := t
    simp at h
    rw [h]
  · rintro rfl
    rfl
end Go.Proofs.YtmgcmclcphfogaaDoor.B
namespace Go.Proofs.YtmgcmclcphfogaaDoor.B
open Go Go.RowKit Go.Proofs.YtmgcmclcphfogaaDoorW.PrintWords Go.Proofs.YtmgcmclcphfogaaDoorW.PrintLast Go.Proofs.YtmgcmclcphfogaaDoorW.PrintMore Go.Proofs.YtmgcmclcphfogaaDoor.PX Go.Proofs.YtmgcmclcphfogaaDoor.B
/-- the decimal text of a number -/
def itoaB (n : Int) : ByteArray := ⟨(Lib.itoa n).toArray⟩
theorem ba_ext {s t : ByteArray} (h : s.data.toList = t.data.toList) : s = t := by
  obtain ⟨⟨l⟩⟩ := s
  obtain ⟨⟨m⟩⟩ := t
  simp at h
  rw [h]
theorem app_data (s t : ByteArray) : (s ++ t).data.toList = s.data.toList ++ t.data.toList := by simp
theorem digit_data (d : Nat) (h : d < 10) : (strOfNums [((48 : Int) + d) % 256]).data.toList = [UInt8.ofNat (48 + d)] := by
  have e : ((48 : Int) + d) % 256 = ((48 + d : Nat) : Int) := by omega
  rw [e]
  show [UInt8.ofNat ((48 + d : Nat) : Int).toNat] = _
  rw [Int.toNat_natCast]
theorem decDigits_small {u : Nat} (h : u < 10) : Lib.decDigits u = [UInt8.ofNat (48 + u)] := by rw [Lib.decDigits, dif_pos h]
theorem decDigits_big {u : Nat} (h : ¬ u < 10) : Lib.decDigits u = Lib.decDigits (u / 10) ++ [UInt8.ofNat (48 + u % 10)] := by rw [Lib.decDigits, dif_neg h]
/-- what the loop adds ahead of the digits that are there -/
def decAcc (u : Nat) (s : List UInt8) : List UInt8 := if u = 0 ∧ s ≠ [] then s else Lib.decDigits u ++ s
theorem decAcc_step (u : Nat) (s : List UInt8) (h : s = [] ∨ u ≠ 0) : decAcc (u / 10) (UInt8.ofNat (48 + u % 10) :: s) = decAcc u s := by
  unfold decAcc
  rw [if_neg (show ¬ (u = 0 ∧ s ≠ []) from fun ⟨a, b⟩ => by rcases h with h | h <;> contradiction)]
  by_cases hu : u < 10
  · rw [if_pos ⟨by omega, by simp⟩, decDigits_small hu, Nat.mod_eq_of_lt hu]
    rfl
  · rw [if_neg (fun ⟨a, _⟩ => by omega), decDigits_big hu]
    simp
def sgn (neg : Bool) : List UInt8 := if neg = true then [45] else []
theorem l1Int_fin (s : ByteArray) (neg : Bool) (h : s.data.toList ≠ []) (hs : s.size ≤ 1000) : LG fun k => spec_l1Int.l0 k 0 s neg = some ⟨(sgn neg ++ s.data.toList).toArray⟩ := by
  have g : LG fun k => spec_l1Int.j1 k 0 s neg false = some ⟨(sgn neg ++ s.data.toList).toArray⟩ := by
    refine LG.step fun j => ?_
    simp only [spec_l1Int.j1]
    rw [if_neg (by decide)]
    cases neg with
    | true => rw [if_pos rfl, if_pos (by omega)]; exact congrArg some (ba_ext (by simp [sgn]))
    | false => rw [if_neg (by decide)]; exact congrArg some (ba_ext (by simp [sgn]))
  refine g.up fun j hj => ?_
  simp only [spec_l1Int.l0]
  rw [if_neg (by rw [toList_eq]; exact h)]
  simpa using hj
theorem l1Int_round (x : Int) (s : ByteArray) (neg : Bool) (hx : I64 x) (h : s.data.toList = [] ∨ x ≠ 0) (hs : s.size ≤ 1000) {r : ByteArray}
    (g : LG fun k => spec_l1Int.l0 k (Int.tdiv x 10) (strOfNums [((48 : Int) + (x.natAbs % 10 : Nat)) % 256] ++ s) neg = some r) : LG fun k => spec_l1Int.l0 k x s neg = some r := by
  have hd : wrap64 (Int.tdiv x 10) = Int.tdiv x 10 := by
    rcases Int.le_total 0 x with h0 | h0
    · rw [Int.tdiv_eq_ediv_of_nonneg h0]; unfold I64 at hx; exact w64 (by omega) (by omega)
    · obtain ⟨y, rfl⟩ : ∃ y : Int, x = -y := ⟨-x, by omega⟩
      rw [Int.neg_tdiv, Int.tdiv_eq_ediv_of_nonneg (by omega)]; unfold I64 at hx; exact w64 (by omega) (by omega)
  have hz : ∀ n : Int, (strOfNums [n]).size = 1 := fun _ => rfl
  have j1 : LG fun k => spec_l1Int.j1 k x s neg true = some r := by
    refine g.up fun j hj => ?_
    simp only [spec_l1Int.j1]
    rw [if_pos trivial]
    by_cases hn : Int.tmod x 10 < 0
    · have e : wrap64 (48 + wrap64 (-(Int.tmod x 10))) = (48 : Int) + (x.natAbs % 10 : Nat) := by
        have hx0 : x < 0 := by
          rcases Int.lt_or_le x 0 with h0 | h0
          · exact h0
          · rw [Int.tmod_eq_emod_of_nonneg h0] at hn; omega
        obtain ⟨y, rfl⟩ : ∃ y : Int, x = -y := ⟨-x, by omega⟩
        rw [Int.neg_tmod, Int.tmod_eq_emod_of_nonneg (by omega), Int.neg_neg, w64 (n := y % 10) (by omega) (by omega), w64 (by omega) (by omega)]
        omega
      rw [if_pos hn]
      simp only [Option.bind_some]
      rw [e, hz, if_pos (by omega), hd]
      exact hj
    · have e : wrap64 (48 + (Int.tmod x 10)) = (48 : Int) + (x.natAbs % 10 : Nat) := by
        rcases Int.le_total 0 x with h0 | h0
        · rw [Int.tmod_eq_emod_of_nonneg h0, w64 (by omega) (by omega)]; omega
        · obtain ⟨y, rfl⟩ : ∃ y : Int, x = -y := ⟨-x, by omega⟩
          rw [Int.neg_tmod, Int.tmod_eq_emod_of_nonneg (by omega)] at hn ⊢
          rw [w64 (by omega) (by omega)]; omega
      rw [if_neg hn]
      simp only [Option.bind_some]
      rw [e, hz, if_pos (by omega), hd]
      exact hj
  refine j1.up fun j hj => ?_
  simp only [spec_l1Int.l0]
  by_cases he : s.toList = []
  · rw [if_pos he]; exact hj
  · rw [if_neg he]
    have : (x != 0) = true := by
      rcases h with h | h
      · exact absurd (by rw [toList_eq]; exact h) he
      · simpa using h
    rw [this]; exact hj
theorem natAbs_tdiv10 (x : Int) : (Int.tdiv x 10).natAbs = x.natAbs / 10 := by
  rcases Int.le_total 0 x with h0 | h0
  · rw [Int.tdiv_eq_ediv_of_nonneg h0]; omega
  · obtain ⟨y, rfl⟩ : ∃ y : Int, x = -y := ⟨-x, by omega⟩
    rw [Int.neg_tdiv, Int.tdiv_eq_ediv_of_nonneg (by omega)]; omega
theorem l1Int_l0 (neg : Bool) (m : Nat) : ∀ (x : Int) (s : ByteArray), I64 x → x.natAbs < 10 ^ m → s.size + m ≤ 900 →
    LG fun k => spec_l1Int.l0 k x s neg = some ⟨(sgn neg ++ decAcc x.natAbs s.data.toList).toArray⟩ := by
  induction m with
  | zero =>
    intro x s hI hx hs
    obtain rfl : x = 0 := by simp at hx; omega
    by_cases he : s.data.toList = []
    · refine l1Int_round 0 s neg hI (.inl he) (by omega) ?_
      have := l1Int_fin (strOfNums [((48 : Int) + ((0 : Int).natAbs % 10 : Nat)) % 256] ++ s) neg (by rw [app_data, digit_data _ (by decide)]; simp) (by rw [ByteArray.size_append]; show 1 + _ ≤ _; omega)
      have e : decAcc (Int.natAbs 0) s.data.toList = (strOfNums [((48 : Int) + ((0 : Int).natAbs % 10 : Nat)) % 256] ++ s).data.toList := by
        rw [app_data, digit_data _ (by decide), he]; unfold decAcc; simp [decDigits_small]
      rw [e]; exact this
    · have e : decAcc (Int.natAbs 0) s.data.toList = s.data.toList := by unfold decAcc; rw [if_pos ⟨rfl, he⟩]
      rw [e]; exact l1Int_fin s neg he (by omega)
  | succ m ih =>
    intro x s hI hx hs
    by_cases he : s.data.toList ≠ [] ∧ x = 0
    · obtain ⟨he, rfl⟩ := he
      have e : decAcc (Int.natAbs 0) s.data.toList = s.data.toList := by unfold decAcc; rw [if_pos ⟨rfl, he⟩]
      rw [e]; exact l1Int_fin s neg he (by omega)
    · have h : s.data.toList = [] ∨ x ≠ 0 := by
        by_cases h1 : s.data.toList = []
        · exact .inl h1
        · exact .inr fun h2 => he ⟨h1, h2⟩
      refine l1Int_round x s neg hI h (by omega) ?_
      have hb : x.natAbs / 10 < 10 ^ m := by rw [Nat.pow_succ] at hx; omega
      have := ih (Int.tdiv x 10) (strOfNums [((48 : Int) + (x.natAbs % 10 : Nat)) % 256] ++ s) (by
        have hq := natAbs_tdiv10 x
        unfold I64 at hI ⊢
        omega) (by rw [natAbs_tdiv10]; exact hb) (by rw [ByteArray.size_append]; show 1 + _ + _ ≤ _; omega)
      rw [natAbs_tdiv10, app_data, digit_data _ (by omega)] at this
      rw [← decAcc_step x.natAbs s.data.toList (h.imp id (by omega))]
      exact this
theorem l1Int_eq (n : Int) (h : I64 n) : LG fun k => spec_l1Int.f k n = some (itoaB n) := by
  have := l1Int_l0 (decide (n < 0)) 20 n ⟨#[]⟩ h (by unfold I64 at h; omega) (by decide)
  have e : (⟨(sgn (decide (n < 0)) ++ decAcc n.natAbs []).toArray⟩ : ByteArray) = itoaB n := by
    unfold itoaB Lib.itoa decAcc sgn
    by_cases h0 : n < 0
    · simp [h0]
    · have : n.natAbs = n.toNat := by omega
      simp [h0, this]
  rw [← e]
  exact this
theorem decDigits_len (m : Nat) : ∀ u : Nat, u < 10 ^ (m + 1) → (Lib.decDigits u).length ≤ m + 1 := by
  induction m with
  | zero => intro u h; rw [decDigits_small (by simpa using h)]; simp
  | succ m ih =>
    intro u h
    by_cases hu : u < 10
    · rw [decDigits_small hu]; simp
    · rw [decDigits_big hu, List.length_append, List.length_singleton]
      have := ih (u / 10) (by rw [Nat.pow_succ] at h; omega)
      omega
theorem decDigits_pos (u : Nat) : 1 ≤ (Lib.decDigits u).length := by
  by_cases hu : u < 10
  · rw [decDigits_small hu]; simp
  · rw [decDigits_big hu]; simp
theorem itoaB_size (n : Int) (h : I64 n) : 1 ≤ (itoaB n).size ∧ (itoaB n).size ≤ 20 := by
  have e : (itoaB n).size = (Lib.itoa n).length := by rw [← size_len]; simp [itoaB]
  rw [e]
  unfold Lib.itoa
  unfold I64 at h
  split
  · have h1 := decDigits_len 18 n.natAbs (by omega)
    simp only [List.length_cons]
    omega
  · have h1 := decDigits_len 18 n.toNat (by omega)
    have h2 := decDigits_pos n.toNat
    omega
end Go.Proofs.YtmgcmclcphfogaaDoor.B
namespace Go.Proofs.YtmgcmclcphfogaaDoor.B
open Go Go.RowKit Go.Proofs.YtmgcmclcphfogaaDoorW.PrintWords Go.Proofs.YtmgcmclcphfogaaDoorW.PrintLast Go.Proofs.YtmgcmclcphfogaaDoorW.PrintMore Go.Proofs.YtmgcmclcphfogaaDoor.PX Go.Proofs.YtmgcmclcphfogaaDoor.B
theorem decimal_eq (n : Int) (h : I64 n) : impl_decimal.f n = some (itoaB n) := by
  unfold I64 at h
  unfold impl_decimal.f strconv_FormatInt_120.f
  rw [if_pos rfl, if_pos h.1, if_pos h.2]
  rfl
end Go.Proofs.YtmgcmclcphfogaaDoor.B
namespace Go.Proofs.YtmgcmclcphfogaaDoor.B
open Go Go.RowKit Go.Proofs.YtmgcmclcphfogaaDoorW.PrintWords Go.Proofs.YtmgcmclcphfogaaDoorW.PrintLast Go.Proofs.YtmgcmclcphfogaaDoorW.PrintMore Go.Proofs.YtmgcmclcphfogaaDoor.PX Go.Proofs.YtmgcmclcphfogaaDoor.B
/-- all bytes are from a to z -/
def nameRun (l : List UInt8) : Bool := l.all fun c => decide (97 ≤ c.toNat) && decide (c.toNat ≤ 122)
def isNameB (s : ByteArray) : Bool := nameRun s.data.toList && (decide (1 ≤ s.size) && decide (s.size ≤ 8))
theorem nameRun_at (l : List UInt8) (i : Nat) (h : i < l.length) : nameRun (l.drop i) = (decide (97 ≤ (l[i]).toNat) && decide ((l[i]).toNat ≤ 122) && nameRun (l.drop (i + 1))) := by
  rw [List.drop_eq_getElem_cons h]
  simp only [nameRun, List.all_cons]
end Go.Proofs.YtmgcmclcphfogaaDoor.B
namespace Go.Proofs.YtmgcmclcphfogaaDoor.B
open Go Go.RowKit Go.Proofs.YtmgcmclcphfogaaDoorW.PrintWords Go.Proofs.YtmgcmclcphfogaaDoorW.PrintLast Go.Proofs.YtmgcmclcphfogaaDoorW.PrintMore Go.Proofs.YtmgcmclcphfogaaDoor.PX Go.Proofs.YtmgcmclcphfogaaDoor.B
def isWordB (n : Int) : Bool := decide (-2147483648 ≤ n) && decide (n ≤ 2147483647)
theorem l1In_eq (a b c : Int) : spec_l1In.f a b c = some (decide (b ≤ a) && decide (a ≤ c)) := by
  unfold spec_l1In.f
  by_cases h : a ≥ b
  · rw [if_pos h, decide_eq_true (show b ≤ a from h), Bool.true_and]
  · rw [if_neg h, decide_eq_false (show ¬ b ≤ a from h), Bool.false_and]
theorem l1Word_eq (n : Int) : spec_l1Word.f n = some (isWordB n) := by
  unfold spec_l1Word.f
  rw [l1In_eq]
  rfl
theorem w32_range (n : Int) : -2147483648 ≤ wrap32 n ∧ wrap32 n ≤ 2147483647 := by
  unfold wrap32
  omega
theorem impl_wrap_eq (n : Int) : impl_wrap.f n = some (wrap32 n) := by
  have := w32_range n
  unfold impl_wrap.f
  rw [w64 (by omega) (by omega)]
theorem isWordB_wrap (n : Int) : (n == wrap32 n) = isWordB n := by
  unfold isWordB
  rw [Bool.eq_iff_iff]
  simp only [beq_iff_eq, Bool.and_eq_true, decide_eq_true_eq]
  unfold wrap32
  omega
theorem impl_isWord_eq (n : Int) : impl_isWord.f n = some (isWordB n) := by
  unfold impl_isWord.f
  rw [impl_wrap_eq]
  simp only [Option.bind_some]
  rw [isWordB_wrap]
end Go.Proofs.YtmgcmclcphfogaaDoor.B
namespace Go.Proofs.YtmgcmclcphfogaaDoor.B
open Go Go.RowKit Go.Proofs.YtmgcmclcphfogaaDoorW.PrintWords Go.Proofs.YtmgcmclcphfogaaDoorW.PrintLast Go.Proofs.YtmgcmclcphfogaaDoorW.PrintMore Go.Proofs.YtmgcmclcphfogaaDoor.PX Go.Proofs.YtmgcmclcphfogaaDoor.B
theorem spec_NameOk_l0 (s : ByteArray) (hs : s.size ≤ 9223372036854775807) (d : Nat) : ∀ i : Nat, i ≤ s.size → s.size - i = d →
    LG fun k => spec_NameOk.l0 k s (i : Int) = some (nameRun (s.data.toList.drop i) && (decide (1 ≤ s.size) && decide (s.size ≤ 8))) := by
  have hl := size_len s
  induction d with
  | zero =>
    intro i h1 h2
    refine LG.step fun j => ?_
    obtain rfl : i = s.size := by omega
    simp only [spec_NameOk.l0]
    rw [if_neg (by omega), l1In_eq]
    have e : nameRun (s.data.toList.drop s.size) = true := by rw [List.drop_of_length_le (by omega)]; rfl
    rw [e, Bool.true_and, Option.bind_some]
    congr 1
    rw [Bool.eq_iff_iff]
    simp only [Bool.and_eq_true, decide_eq_true_eq]
    omega
  | succ d ih =>
    intro i h1 h2
    have hi : i < s.data.toList.length := by omega
    refine (ih (i + 1) (by omega) (by omega)).up fun j hj => ?_
    simp only [spec_NameOk.l0]
    rw [if_pos (by omega), if_pos (by omega), bt_get s i hi, nameRun_at _ i hi]
    by_cases ha : (97 : Nat) ≤ (s.data.toList[i]).toNat
    · rw [if_neg (by omega)]
      by_cases hb : (s.data.toList[i]).toNat ≤ 122
      · rw [if_neg (by omega), w64 (by omega) (by omega), decide_eq_true ha, decide_eq_true hb]
        simpa using hj
      · rw [if_pos (by omega), decide_eq_false hb]
        simp
    · rw [if_pos (by omega), decide_eq_false ha]
      simp
theorem spec_NameOk_eq (s : ByteArray) (hs : s.size ≤ 9223372036854775807) : LG fun k => spec_NameOk.f k s = some (isNameB s) :=
  spec_NameOk_l0 s hs s.size 0 (by omega) (by omega)
end Go.Proofs.YtmgcmclcphfogaaDoor.B
namespace Go.Proofs.YtmgcmclcphfogaaDoor.B
open Go Go.RowKit Go.Proofs.YtmgcmclcphfogaaDoorW.PrintWords Go.Proofs.YtmgcmclcphfogaaDoorW.PrintLast Go.Proofs.YtmgcmclcphfogaaDoorW.PrintMore Go.Proofs.YtmgcmclcphfogaaDoor.PX Go.Proofs.YtmgcmclcphfogaaDoor.B
def isTimeB (t : Int) : Bool := decide (0 ≤ t) && decide (t ≤ 1000000)
def isKeyB (r b : ByteArray) (t : Int) : Bool := isNameB r && (isNameB b && isTimeB t)
end Go.Proofs.YtmgcmclcphfogaaDoor.B
namespace Go.Proofs.YtmgcmclcphfogaaDoor.B
open Go Go.RowKit Go.Proofs.YtmgcmclcphfogaaDoorW.PrintWords Go.Proofs.YtmgcmclcphfogaaDoorW.PrintLast Go.Proofs.YtmgcmclcphfogaaDoorW.PrintMore Go.Proofs.YtmgcmclcphfogaaDoor.PX Go.Proofs.YtmgcmclcphfogaaDoor.B
theorem l2Time_eq (t : Int) : spec_l2Time.f t = some (isTimeB t) := by
  unfold spec_l2Time.f
  rw [l1In_eq]
  rfl
theorem spec_KeyOk_eq (r b : ByteArray) (t : Int) (hr : r.size ≤ 9223372036854775807) (hb : b.size ≤ 9223372036854775807) : LG fun k => spec_KeyOk.f k r b t = some (isKeyB r b t) := by
  refine ((spec_NameOk_eq r hr).and (spec_NameOk_eq b hb)).mono fun k ⟨h1, h2⟩ => ?_
  unfold spec_KeyOk.f isKeyB
  simp only [h1, h2, l2Time_eq, Option.bind_some]
  cases isNameB r <;> cases isNameB b <;> simp
end Go.Proofs.YtmgcmclcphfogaaDoor.B
namespace Go.Proofs.YtmgcmclcphfogaaDoor.B
open Go Go.RowKit Go.Proofs.YtmgcmclcphfogaaDoorW.PrintWords Go.Proofs.YtmgcmclcphfogaaDoorW.PrintLast Go.Proofs.YtmgcmclcphfogaaDoorW.PrintMore Go.Proofs.YtmgcmclcphfogaaDoor.PX Go.Proofs.YtmgcmclcphfogaaDoor.B
def isCellB (r b : ByteArray) (t v : Int) (g : Bool) : Bool := isKeyB r b t && (isWordB v && (!g || v == 0))
end Go.Proofs.YtmgcmclcphfogaaDoor.B
namespace Go.Proofs.YtmgcmclcphfogaaDoor.B
open Go Go.RowKit Go.Proofs.YtmgcmclcphfogaaDoorW.PrintWords Go.Proofs.YtmgcmclcphfogaaDoorW.PrintLast Go.Proofs.YtmgcmclcphfogaaDoorW.PrintMore Go.Proofs.YtmgcmclcphfogaaDoor.PX Go.Proofs.YtmgcmclcphfogaaDoor.B
theorem spec_CellOk_eq (r b : ByteArray) (t v : Int) (g : Bool) (hr : r.size ≤ 9223372036854775807) (hb : b.size ≤ 9223372036854775807) : LG fun k => spec_CellOk.f k r b t v g = some (isCellB r b t v g) := by
  refine (spec_KeyOk_eq r b t hr hb).mono fun k h => ?_
  unfold spec_CellOk.f isCellB
  simp only [h, l1Word_eq, Option.bind_some]
  cases isKeyB r b t <;> cases isWordB v <;> cases g <;> simp
end Go.Proofs.YtmgcmclcphfogaaDoor.B
namespace Go.Proofs.YtmgcmclcphfogaaDoor.B
open Go Go.RowKit Go.Proofs.YtmgcmclcphfogaaDoorW.PrintWords Go.Proofs.YtmgcmclcphfogaaDoorW.PrintLast Go.Proofs.YtmgcmclcphfogaaDoorW.PrintMore Go.Proofs.YtmgcmclcphfogaaDoor.PX Go.Proofs.YtmgcmclcphfogaaDoor.B
theorem impl_isName_l0 (s : ByteArray) (hs : s.size ≤ 9223372036854775807) (d : Nat) : ∀ i : Nat, i ≤ s.size → s.size - i = d →
    LG fun k => impl_isName.l0 k s (s.size : Int) (i : Int) = some (nameRun (s.data.toList.drop i) && (decide (1 ≤ s.size) && decide (s.size ≤ 8))) := by
  have hl := size_len s
  induction d with
  | zero =>
    intro i h1 h2
    refine LG.step fun j => ?_
    obtain rfl : i = s.size := by omega
    simp only [impl_isName.l0]
    rw [if_neg (by omega)]
    have e : nameRun (s.data.toList.drop s.size) = true := by rw [List.drop_of_length_le (by omega)]; rfl
    rw [e, Bool.true_and]
    by_cases h : 1 ≤ s.size
    · rw [if_pos (by omega), decide_eq_true h, Bool.true_and]
      congr 1
      rw [Bool.eq_iff_iff]
      simp only [decide_eq_true_eq]
      omega
    · rw [if_neg (by omega), decide_eq_false h, Bool.false_and]
  | succ d ih =>
    intro i h1 h2
    have hi : i < s.data.toList.length := by omega
    refine (ih (i + 1) (by omega) (by omega)).up fun j hj => ?_
    simp only [impl_isName.l0]
    rw [if_pos (by omega), if_pos (by omega), if_pos (by omega), bt_get s i hi, nameRun_at _ i hi]
    by_cases ha : (97 : Nat) ≤ (s.data.toList[i]).toNat
    · rw [if_neg (by omega)]
      by_cases hb : (s.data.toList[i]).toNat ≤ 122
      · rw [if_neg (by omega), w64 (by omega) (by omega), decide_eq_true ha, decide_eq_true hb]
        simpa using hj
      · rw [if_pos (by omega), decide_eq_false hb]
        simp
    · rw [if_pos (by omega), decide_eq_false ha]
      simp
theorem impl_isName_eq (s : ByteArray) (hs : s.size ≤ 9223372036854775807) : LG fun k => impl_isName.f k s = some (isNameB s) :=
  impl_isName_l0 s hs s.size 0 (by omega) (by omega)
end Go.Proofs.YtmgcmclcphfogaaDoor.B
namespace Go.Proofs.YtmgcmclcphfogaaDoor.B
open Go Go.RowKit Go.Proofs.YtmgcmclcphfogaaDoorW.PrintWords Go.Proofs.YtmgcmclcphfogaaDoorW.PrintLast Go.Proofs.YtmgcmclcphfogaaDoorW.PrintMore Go.Proofs.YtmgcmclcphfogaaDoor.PX Go.Proofs.YtmgcmclcphfogaaDoor.B
theorem within_eq (a b c : Int) : impl_within.f a b c = some (decide (b ≤ a) && decide (a ≤ c)) := by
  unfold impl_within.f
  by_cases h : a ≥ b
  · rw [if_pos h, decide_eq_true (show b ≤ a from h), Bool.true_and]
  · rw [if_neg h, decide_eq_false (show ¬ b ≤ a from h), Bool.false_and]
end Go.Proofs.YtmgcmclcphfogaaDoor.B
namespace Go.Proofs.YtmgcmclcphfogaaDoor.B
open Go Go.RowKit Go.Proofs.YtmgcmclcphfogaaDoorW.PrintWords Go.Proofs.YtmgcmclcphfogaaDoorW.PrintLast Go.Proofs.YtmgcmclcphfogaaDoorW.PrintMore Go.Proofs.YtmgcmclcphfogaaDoor.PX Go.Proofs.YtmgcmclcphfogaaDoor.B
theorem isTime_eq (t : Int) : impl_isTime.f t = some (isTimeB t) := by
  unfold impl_isTime.f
  rw [within_eq]
  rfl
theorem impl_isKey_eq (r b : ByteArray) (t : Int) (hr : r.size ≤ 9223372036854775807) (hb : b.size ≤ 9223372036854775807) : LG fun k => impl_isKey.f k r b t = some (isKeyB r b t) := by
  refine ((impl_isName_eq r hr).and (impl_isName_eq b hb)).mono fun k ⟨h1, h2⟩ => ?_
  unfold impl_isKey.f isKeyB
  simp only [h1, h2, isTime_eq, Option.bind_some]
  cases isNameB r <;> cases isNameB b <;> simp
end Go.Proofs.YtmgcmclcphfogaaDoor.B
namespace Go.Proofs.YtmgcmclcphfogaaDoor.B
open Go Go.RowKit Go.Proofs.YtmgcmclcphfogaaDoorW.PrintWords Go.Proofs.YtmgcmclcphfogaaDoorW.PrintLast Go.Proofs.YtmgcmclcphfogaaDoorW.PrintMore Go.Proofs.YtmgcmclcphfogaaDoor.PX Go.Proofs.YtmgcmclcphfogaaDoor.B
theorem impl_isCell_eq (r b : ByteArray) (t v : Int) (g : Bool) (hr : r.size ≤ 9223372036854775807) (hb : b.size ≤ 9223372036854775807) : LG fun k => impl_isCell.f k r b t v g = some (isCellB r b t v g) := by
  refine (impl_isKey_eq r b t hr hb).mono fun k h => ?_
  unfold impl_isCell.f isCellB
  simp only [h, impl_isWord_eq, Option.bind_some]
  cases isKeyB r b t <;> cases isWordB v <;> cases g <;> simp
end Go.Proofs.YtmgcmclcphfogaaDoor.B
namespace Go.Proofs.YtmgcmclcphfogaaDoor.B
open Go Go.RowKit Go.Proofs.YtmgcmclcphfogaaDoorW.PrintWords Go.Proofs.YtmgcmclcphfogaaDoorW.PrintLast Go.Proofs.YtmgcmclcphfogaaDoorW.PrintMore Go.Proofs.YtmgcmclcphfogaaDoor.PX Go.Proofs.YtmgcmclcphfogaaDoor.B
def cellTextB (r b : ByteArray) (t v : Int) (g : Bool) : ByteArray := (((((r ++ (⟨#[32]⟩ : ByteArray)) ++ b) ++ (⟨#[32]⟩ : ByteArray)) ++ itoaB t) ++ (⟨#[32]⟩ : ByteArray)) ++ (if g = true then (⟨#[45]⟩ : ByteArray) else itoaB v)
theorem isCellB_small {r b : ByteArray} {t v : Int} {g : Bool} (h : isCellB r b t v g = true) : r.size ≤ 8 ∧ b.size ≤ 8 ∧ 0 ≤ t ∧ t ≤ 1000000 ∧ -2147483648 ≤ v ∧ v ≤ 2147483647 ∧ 1 ≤ r.size ∧ 1 ≤ b.size := by
  unfold isCellB isKeyB isNameB isTimeB isWordB at h
  simp only [Bool.and_eq_true, decide_eq_true_eq] at h
  omega
theorem blank_size : (⟨#[32]⟩ : ByteArray).size = 1 := rfl
theorem spec_l4Show_eq (r b : ByteArray) (t v : Int) (g : Bool) (h : isCellB r b t v g = true) : LG fun k => spec_l4Show.f k r b t v g = some (cellTextB r b t v g) := by
  have hs := isCellB_small h
  have hT : I64 t := by unfold I64; omega
  have hV : I64 v := by unfold I64; omega
  have zt := itoaB_size _ hT
  have zv := itoaB_size _ hV
  refine ((l1Int_eq t hT).and (l1Int_eq v hV)).mono fun k ⟨h1, h2⟩ => ?_
  unfold spec_l4Show.f cellTextB
  rw [h1, h2]
  cases g
  · simp only [Option.bind_some, ByteArray.size_append, blank_size, if_neg (show ¬ (false = true) by decide)]
    repeat rw [if_pos (by omega)]
  · simp only [Option.bind_some, ByteArray.size_append, blank_size, if_true]
    repeat rw [if_pos (by omega)]
theorem impl_showCell_eq (r b : ByteArray) (t v : Int) (g : Bool) (h : isCellB r b t v g = true) : impl_showCell.f r b t v g = some (cellTextB r b t v g) := by
  have hs := isCellB_small h
  have hT : I64 t := by unfold I64; omega
  have hV : I64 v := by unfold I64; omega
  have zt := itoaB_size _ hT
  have zv := itoaB_size _ hV
  unfold impl_showCell.f cellTextB
  rw [decimal_eq _ hT, decimal_eq _ hV]
  cases g
  · simp only [Option.bind_some, ByteArray.size_append, blank_size, if_neg (show ¬ (false = true) by decide)]
    repeat rw [if_pos (by omega)]
  · simp only [Option.bind_some, ByteArray.size_append, blank_size, if_true]
    repeat rw [if_pos (by omega)]
def CellTextB (r b : ByteArray) (t v : Int) (g : Bool) : ByteArray := if isCellB r b t v g = true then cellTextB r b t v g else ⟨#[]⟩
theorem spec_ShowCell_eq (r b : ByteArray) (t v : Int) (g : Bool) (hr : r.size ≤ 9223372036854775807) (hb : b.size ≤ 9223372036854775807) : LG fun k => spec_ShowCell.f k r b t v g = some (CellTextB r b t v g) := by
  unfold CellTextB
  by_cases h : isCellB r b t v g = true
  · refine ((spec_CellOk_eq r b t v g hr hb).and (spec_l4Show_eq r b t v g h)).mono fun k ⟨h1, h2⟩ => ?_
    unfold spec_ShowCell.f
    rw [h1, h, if_pos rfl]
    simp only [Option.bind_some, if_true, h2]
  · refine (spec_CellOk_eq r b t v g hr hb).mono fun k h1 => ?_
    unfold spec_ShowCell.f
    rw [h1, if_neg h]
    simp only [Option.bind_some]
    rw [if_neg h]
theorem impl_ShowCell_eq (r b : ByteArray) (t v : Int) (g : Bool) (hr : r.size ≤ 9223372036854775807) (hb : b.size ≤ 9223372036854775807) : LG fun k => impl_ShowCell.f k r b t v g = some (CellTextB r b t v g) := by
  unfold CellTextB
  refine (impl_isCell_eq r b t v g hr hb).mono fun k h1 => ?_
  unfold impl_ShowCell.f
  rw [h1]
  simp only [Option.bind_some]
  by_cases h : isCellB r b t v g = true
  · rw [if_pos h, if_pos h, impl_showCell_eq r b t v g h]; rfl
  · rw [if_neg h, if_neg h]
end Go.Proofs.YtmgcmclcphfogaaDoor.B
namespace Go.Proofs.YtmgcmclcphfogaaDoor.B
open Go Go.RowKit Go.Proofs.YtmgcmclcphfogaaDoorW.PrintWords Go.Proofs.YtmgcmclcphfogaaDoorW.PrintLast Go.Proofs.YtmgcmclcphfogaaDoorW.PrintMore Go.Proofs.YtmgcmclcphfogaaDoor.PX Go.Proofs.YtmgcmclcphfogaaDoor.B
theorem szKey_some (r b : ByteArray) (t left : Int) : ∃ q, laws_szKey.f r b t left = some q := by
  unfold laws_szKey.f
  split
  · exact ⟨_, rfl⟩
  · split <;> exact ⟨_, rfl⟩
end Go.Proofs.YtmgcmclcphfogaaDoor.B
namespace Go.Proofs.YtmgcmclcphfogaaDoor.B
open Go Go.RowKit Go.Proofs.YtmgcmclcphfogaaDoorW.PrintWords Go.Proofs.YtmgcmclcphfogaaDoorW.PrintLast Go.Proofs.YtmgcmclcphfogaaDoorW.PrintMore Go.Proofs.YtmgcmclcphfogaaDoor.PX Go.Proofs.YtmgcmclcphfogaaDoor.B
theorem szCell_some (r b : ByteArray) (t v : Int) (g : Bool) (left : Int) : ∃ q, laws_szCell.f r b t v g left = some q := by
  obtain ⟨q, hq⟩ := szKey_some r b t left
  unfold laws_szCell.f
  rw [hq]
  simp only [Option.bind_some]
  split <;> exact ⟨_, rfl⟩
end Go.Proofs.YtmgcmclcphfogaaDoor.B
namespace Go.Proofs.YtmgcmclcphfogaaDoor.Pure
open Go Go.RowKit Go.Proofs.YtmgcmclcphfogaaDoorW.PrintWords Go.Proofs.YtmgcmclcphfogaaDoorW.PrintLast Go.Proofs.YtmgcmclcphfogaaDoorW.PrintMore Go.Proofs.YtmgcmclcphfogaaDoor.PX Go.Proofs.YtmgcmclcphfogaaDoor.B
theorem FnExactShowCell : FnExactShowCell_Pure := by
  intro r b t v g hr hb _ _
  obtain ⟨q, hq⟩ := szCell_some r b t v g 1048576
  obtain ⟨k, h1, h2⟩ := ((spec_ShowCell_eq r b t v g hr hb).and (impl_ShowCell_eq r b t v g hr hb)).rounds
  refine ⟨k, ?_⟩
  unfold laws_FnExactShowCell.f laws_toCell.f laws_toKey.f
  simp only [hq, h1, h2, Option.bind_some]
  split
  · rfl
  · simp
end Go.Proofs.YtmgcmclcphfogaaDoor.Pure
