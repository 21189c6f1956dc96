import Derived.Test.YtmgcmclcphfogaaDoorPXx0
import Derived.Test.YtmgcmclcphfogaaDoorPXx2
import Derived.Test.YtmgcmclcphfogaaDoorPXx3
import Derived.Test.YtmgcmclcphfogaaDoorPXx5
import Derived.Test.YtmgcmclcphfogaaDoorPXx12
import Derived.Test.YtmgcmclcphfogaaDoorPXx13
import Derived.Test.YtmgcmclcphfogaaDoorStFnExactReadWord
import Derived.Lib.ItoaNum
import Derived.Lib.ParseIntB
import Derived.Test.YtmgcmclcphfogaaDoorWMore
set_option linter.unusedVariables false
set_option linter.unusedSimpArgs false
namespace Go.Proofs.YtmgcmclcphfogaaDoor.B
open Go Go.RowKit Go.Proofs.YtmgcmclcphfogaaDoorW.PrintWords Go.Proofs.YtmgcmclcphfogaaDoorW.PrintLast Go.Proofs.YtmgcmclcphfogaaDoorW.PrintMore Go.Proofs.YtmgcmclcphfogaaDoor.PX
/-- From some number of rounds on. -/
def LG (p : Nat → Prop) : Prop := ∃ K, ∀ k, K ≤ k → p k
namespace LG
theorem all {p : Nat → Prop} (h : ∀ k, p k) : LG p := ⟨0, fun k _ => h k⟩
theorem step {p : Nat → Prop} (h : ∀ j, p (j + 1)) : LG p := ⟨1, fun k hk => by
  obtain ⟨j, rfl⟩ : ∃ j, k = j + 1 := ⟨k - 1, by omega⟩
  exact h j⟩
theorem and {p q : Nat → Prop} (h : LG p) (g : LG q) : LG fun k => p k ∧ q k := by
  obtain ⟨a, h⟩ := h
  obtain ⟨b, g⟩ := g
  exact ⟨max a b, fun k hk => ⟨h k (by omega), g k (by omega)⟩⟩
theorem mono {p q : Nat → Prop} (h : LG p) (g : ∀ k, p k → q k) : LG q := by
  obtain ⟨a, h⟩ := h
  exact ⟨a, fun k hk => g k (h k hk)⟩
/-- One round: what holds of j holds of j + 1 rounds. -/
theorem up {p q : Nat → Prop} (h : LG p) (g : ∀ j, p j → q (j + 1)) : LG q := by
  obtain ⟨a, h⟩ := h
  refine ⟨a + 1, fun k hk => ?_⟩
  obtain ⟨j, rfl⟩ : ∃ j, k = j + 1 := ⟨k - 1, by omega⟩
  exact g j (h j (by omega))
theorem rounds {p : Nat → Prop} (h : LG p) : ∃ k, p k := by
  obtain ⟨a, h⟩ := h
  exact ⟨a, h a (Nat.le_refl _)⟩
end LG
def I64 (n : Int) : Prop := -9223372036854775808 ≤ n ∧ n ≤ 9223372036854775807
theorem i64_of {n : Int} (h : (Lit.int .i64 n).wf = true) : I64 n := by
  simp only [Lit.wf, IntKind.min, IntKind.max, IntKind.signed, IntKind.bits, Bool.and_eq_true, decide_eq_true_eq, if_true] at h
  unfold I64
  omega
theorem w64 {n : Int} (h0 : -9223372036854775808 ≤ n) (h1 : n ≤ 9223372036854775807) : wrap64 n = n := by
  unfold wrap64
  omega
theorem bt_get (s : ByteArray) (i : Nat) (h : i < s.data.toList.length) : bt s (i : Int) = ((s.data.toList[i]).toNat : Int) := by
  have hs : (i : Int).toNat < s.size := by
    have : s.size = s.data.toList.length := by rw [Array.length_toList]; rfl
    omega
  unfold bt
  rw [dif_pos hs]
  rfl
theorem size_len (s : ByteArray) : s.data.toList.length = s.size := by rw [Array.length_toList]; rfl
end Go.Proofs.YtmgcmclcphfogaaDoor.B
namespace Go.Proofs.YtmgcmclcphfogaaDoor.B
open Go Go.RowKit Go.Proofs.YtmgcmclcphfogaaDoorW.PrintWords Go.Proofs.YtmgcmclcphfogaaDoorW.PrintLast Go.Proofs.YtmgcmclcphfogaaDoorW.PrintMore Go.Proofs.YtmgcmclcphfogaaDoor.PX Go.Proofs.YtmgcmclcphfogaaDoor.B
theorem getD_nat {α : Type} (xs : List α) (z : α) (i : Nat) (h : i < xs.length) : xs.getD (i : Int).toNat z = xs[i] := by
  rw [Int.toNat_natCast, List.getD_eq_getElem?_getD, List.getElem?_eq_getElem h]
  rfl
theorem set_take {α : Type} (xs : List α) (i : Nat) (v : α) (h : i < xs.length) : (xs.set i v).take (i + 1) = xs.take i ++ [v] := by
  rw [List.take_succ_eq_append_getElem (by simpa using h), List.take_set_of_le (Nat.le_refl i), List.getElem_set_self]
theorem take_map_succ {α β : Type} (f : α → β) (xs : List α) (i : Nat) (h : i < xs.length) : (xs.map f).take (i + 1) = (xs.map f).take i ++ [f xs[i]] := by
  rw [List.take_succ_eq_append_getElem (by simpa using h), List.getElem_map]
theorem take_all {α : Type} {xs ys : List α} {n : Nat} (hx : xs.length = n) (hy : ys.length = n) (h : xs.take n = ys.take n) : xs = ys := by
  rw [List.take_of_length_le (by omega), List.take_of_length_le (by omega)] at h
  exact h
theorem toList_eq (s : ByteArray) : s.toList = s.data.toList := by
  first | exact ByteArray.toList_eq s | simp
theorem toList_inj (s t : ByteArray) : s.toList = t.toList ↔ s = t := by
  rw [toList_eq, toList_eq]
  constructor
  · intro h
    obtain ⟨⟨l⟩⟩ := s
    obtain ⟨⟨m⟩⟩ := t
    simp at h
    rw [h]
  · rintro rfl
    rfl
end Go.Proofs.YtmgcmclcphfogaaDoor.B
namespace Go.Proofs.YtmgcmclcphfogaaDoor.B
open Go Go.RowKit Go.Proofs.YtmgcmclcphfogaaDoorW.PrintWords Go.Proofs.YtmgcmclcphfogaaDoorW.PrintLast Go.Proofs.YtmgcmclcphfogaaDoorW.PrintMore Go.Proofs.YtmgcmclcphfogaaDoor.PX Go.Proofs.YtmgcmclcphfogaaDoor.B
/-- the decimal text of a number -/
def itoaB (n : Int) : ByteArray := ⟨(Lib.itoa n).toArray⟩
theorem ba_ext {s t : ByteArray} (h : s.data.toList = t.data.toList) : s = t := by
  obtain ⟨⟨l⟩⟩ := s
  obtain ⟨⟨m⟩⟩ := t
  simp at h
  rw [h]
theorem app_data (s t : ByteArray) : (s ++ t).data.toList = s.data.toList ++ t.data.toList := by simp
theorem digit_data (d : Nat) (h : d < 10) : (strOfNums [((48 : Int) + d) % 256]).data.toList = [UInt8.ofNat (48 + d)] := by
  have e : ((48 : Int) + d) % 256 = ((48 + d : Nat) : Int) := by omega
  rw [e]
  show [UInt8.ofNat ((48 + d : Nat) : Int).toNat] = _
  rw [Int.toNat_natCast]
theorem decDigits_small {u : Nat} (h : u < 10) : Lib.decDigits u = [UInt8.ofNat (48 + u)] := by rw [Lib.decDigits, dif_pos h]
theorem decDigits_big {u : Nat} (h : ¬ u < 10) : Lib.decDigits u = Lib.decDigits (u / 10) ++ [UInt8.ofNat (48 + u % 10)] := by rw [Lib.decDigits, dif_neg h]
/-- what the loop adds ahead of the digits that are there -/
def decAcc (u : Nat) (s : List UInt8) : List UInt8 := if u = 0 ∧ s ≠ [] then s else Lib.decDigits u ++ s
theorem decAcc_step (u : Nat) (s : List UInt8) (h : s = [] ∨ u ≠ 0) : decAcc (u / 10) (UInt8.ofNat (48 + u % 10) :: s) = decAcc u s := by
  unfold decAcc
  rw [if_neg (show ¬ (u = 0 ∧ s ≠ []) from fun ⟨a, b⟩ => by rcases h with h | h <;> contradiction)]
  by_cases hu : u < 10
  · rw [if_pos ⟨by omega, by simp⟩, decDigits_small hu, Nat.mod_eq_of_lt hu]
    rfl
  · rw [if_neg (fun ⟨a, _⟩ => by omega), decDigits_big hu]
    simp
def sgn (neg : Bool) : List UInt8 := if neg = true then [45] else []
theorem l1Int_fin (s : ByteArray) (neg : Bool) (h : s.data.toList ≠ []) (hs : s.size ≤ 1000) : LG fun k => spec_l1Int.l0 k 0 s neg = some ⟨(sgn neg ++ s.data.toList).toArray⟩ := by
  have g : LG fun k => spec_l1Int.j1 k 0 s neg false = some ⟨(sgn neg ++ s.data.toList).toArray⟩ := by
    refine LG.step fun j => ?_
    simp only [spec_l1Int.j1]
    rw [if_neg (by decide)]
    cases neg with
    | true => rw [if_pos rfl, if_pos (by omega)]; exact congrArg some (ba_ext (by simp [sgn]))
    | false => rw [if_neg (by decide)]; exact congrArg some (ba_ext (by simp [sgn]))
  refine g.up fun j hj => ?_
  simp only [spec_l1Int.l0]
  rw [if_neg (by rw [toList_eq]; exact h)]
  simpa using hj
theorem l1Int_round (x : Int) (s : ByteArray) (neg : Bool) (hx : I64 x) (h : s.data.toList = [] ∨ x ≠ 0) (hs : s.size ≤ 1000) {r : ByteArray}
    (g : LG fun k => spec_l1Int.l0 k (Int.tdiv x 10) (strOfNums [((48 : Int) + (x.natAbs % 10 : Nat)) % 256] ++ s) neg = some r) : LG fun k => spec_l1Int.l0 k x s neg = some r := by
  have hd : wrap64 (Int.tdiv x 10) = Int.tdiv x 10 := by
    rcases Int.le_total 0 x with h0 | h0
    · rw [Int.tdiv_eq_ediv_of_nonneg h0]; unfold I64 at hx; exact w64 (by omega) (by omega)
    · obtain ⟨y, rfl⟩ : ∃ y : Int, x = -y := ⟨-x, by omega⟩
      rw [Int.neg_tdiv, Int.tdiv_eq_ediv_of_nonneg (by omega)]; unfold I64 at hx; exact w64 (by omega) (by omega)
  have hz : ∀ n : Int, (strOfNums [n]).size = 1 := fun _ => rfl
  have j1 : LG fun k => spec_l1Int.j1 k x s neg true = some r := by
    refine g.up fun j hj => ?_
    simp only [spec_l1Int.j1]
    rw [if_pos trivial]
    by_cases hn : Int.tmod x 10 < 0
    · have e : wrap64 (48 + wrap64 (-(Int.tmod x 10))) = (48 : Int) + (x.natAbs % 10 : Nat) := by
        have hx0 : x < 0 := by
          rcases Int.lt_or_le x 0 with h0 | h0
          · exact h0
          · rw [Int.tmod_eq_emod_of_nonneg h0] at hn; omega
        obtain ⟨y, rfl⟩ : ∃ y : Int, x = -y := ⟨-x, by omega⟩
        rw [Int.neg_tmod, Int.tmod_eq_emod_of_nonneg (by omega), Int.neg_neg, w64 (n := y % 10) (by omega) (by omega), w64 (by omega) (by omega)]
        omega
      rw [if_pos hn]
      simp only [Option.bind_some]
      rw [e, hz, if_pos (by omega), hd]
      exact hj
    · have e : wrap64 (48 + (Int.tmod x 10)) = (48 : Int) + (x.natAbs % 10 : Nat) := by
        rcases Int.le_total 0 x with h0 | h0
        · rw [Int.tmod_eq_emod_of_nonneg h0, w64 (by omega) (by omega)]; omega
        · obtain ⟨y, rfl⟩ : ∃ y : Int, x = -y := ⟨-x, by omega⟩
          rw [Int.neg_tmod, Int.tmod_eq_emod_of_nonneg (by omega)] at hn ⊢
          rw [w64 (by omega) (by omega)]; omega
      rw [if_neg hn]
      simp only [Option.bind_some]
      rw [e, hz, if_pos (by omega), hd]
      exact hj
  refine j1.up fun j hj => ?_
  simp only [spec_l1Int.l0]
  by_cases he : s.toList = []
  · rw [if_pos he]; exact hj
  · rw [if_neg he]
    have : (x != 0) = true := by
      rcases h with h | h
      · exact absurd (by rw [toList_eq]; exact h) he
      · simpa using h
    rw [this]; exact hj
theorem natAbs_tdiv10 (x : Int) : (Int.tdiv x 10).natAbs = x.natAbs / 10 := by
  rcases Int.le_total 0 x with h0 | h0
  · rw [Int.tdiv_eq_ediv_of_nonneg h0]; omega
  · obtain ⟨y, rfl⟩ : ∃ y : Int, x = -y := ⟨-x, by omega⟩
    rw [Int.neg_tdiv, Int.tdiv_eq_ediv_of_nonneg (by omega)]; omega
theorem l1Int_l0 (neg : Bool) (m : Nat) : ∀ (x : Int) (s : ByteArray), I64 x → x.natAbs < 10 ^ m → s.size + m ≤ 900 →
    LG fun k => spec_l1Int.l0 k x s neg = some ⟨(sgn neg ++ decAcc x.natAbs s.data.toList).toArray⟩ := by
  induction m with
  | zero =>
    intro x s hI hx hs
    obtain rfl : x = 0 := by simp at hx; omega
    by_cases he : s.data.toList = []
    · refine l1Int_round 0 s neg hI (.inl he) (by omega) ?_
      have := l1Int_fin (strOfNums [((48 : Int) + ((0 : Int).natAbs % 10 : Nat)) % 256] ++ s) neg (by rw [app_data, digit_data _ (by decide)]; simp) (by rw [ByteArray.size_append]; show 1 + _ ≤ _; omega)
      have e : decAcc (Int.natAbs 0) s.data.toList = (strOfNums [((48 : Int) + ((0 : Int).natAbs % 10 : Nat)) % 256] ++ s).data.toList := by
        rw [app_data, digit_data _ (by decide), he]; unfold decAcc; simp [decDigits_small]
      rw [e]; exact this
    · have e : decAcc (Int.natAbs 0) s.data.toList = s.data.toList := by unfold decAcc; rw [if_pos ⟨rfl, he⟩]
      rw [e]; exact l1Int_fin s neg he (by omega)
  | succ m ih =>
    intro x s hI hx hs
    by_cases he : s.data.toList ≠ [] ∧ x = 0
    · obtain ⟨he, rfl⟩ := he
      have e : decAcc (Int.natAbs 0) s.data.toList = s.data.toList := by unfold decAcc; rw [if_pos ⟨rfl, he⟩]
      rw [e]; exact l1Int_fin s neg he (by omega)
    · have h : s.data.toList = [] ∨ x ≠ 0 := by
        by_cases h1 : s.data.toList = []
        · exact .inl h1
        · exact .inr fun h2 => he ⟨h1, h2⟩
      refine l1Int_round x s neg hI h (by omega) ?_
      have hb : x.natAbs / 10 < 10 ^ m := by rw [Nat.pow_succ] at hx; omega
      have := ih (Int.tdiv x 10) (strOfNums [((48 : Int) + (x.natAbs % 10 : Nat)) % 256] ++ s) (by
        have hq := natAbs_tdiv10 x
        unfold I64 at hI ⊢
        omega) (by rw [natAbs_tdiv10]; exact hb) (by rw [ByteArray.size_append]; show 1 + _ + _ ≤ _; omega)
      rw [natAbs_tdiv10, app_data, digit_data _ (by omega)] at this
      rw [← decAcc_step x.natAbs s.data.toList (h.imp id (by omega))]
      exact this
theorem l1Int_eq (n : Int) (h : I64 n) : LG fun k => spec_l1Int.f k n = some (itoaB n) := by
  have := l1Int_l0 (decide (n < 0)) 20 n ⟨#[]⟩ h (by unfold I64 at h; omega) (by decide)
  have e : (⟨(sgn (decide (n < 0)) ++ decAcc n.natAbs []).toArray⟩ : ByteArray) = itoaB n := by
    unfold itoaB Lib.itoa decAcc sgn
    by_cases h0 : n < 0
    · simp [h0]
    · have : n.natAbs = n.toNat := by omega
      simp [h0, this]
  rw [← e]
  exact this
theorem decDigits_len (m : Nat) : ∀ u : Nat, u < 10 ^ (m + 1) → (Lib.decDigits u).length ≤ m + 1 := by
  induction m with
  | zero => intro u h; rw [decDigits_small (by simpa using h)]; simp
  | succ m ih =>
    intro u h
    by_cases hu : u < 10
    · rw [decDigits_small hu]; simp
    · rw [decDigits_big hu, List.length_append, List.length_singleton]
      have := ih (u / 10) (by rw [Nat.pow_succ] at h; omega)
      omega
theorem decDigits_pos (u : Nat) : 1 ≤ (Lib.decDigits u).length := by
  by_cases hu : u < 10
  · rw [decDigits_small hu]; simp
  · rw [decDigits_big hu]; simp
theorem itoaB_size (n : Int) (h : I64 n) : 1 ≤ (itoaB n).size ∧ (itoaB n).size ≤ 20 := by
  have e : (itoaB n).size = (Lib.itoa n).length := by rw [← size_len]; simp [itoaB]
  rw [e]
  unfold Lib.itoa
  unfold I64 at h
  split
  · have h1 := decDigits_len 18 n.natAbs (by omega)
    simp only [List.length_cons]
    omega
  · have h1 := decDigits_len 18 n.toNat (by omega)
    have h2 := decDigits_pos n.toNat
    omega
end Go.Proofs.YtmgcmclcphfogaaDoor.B
namespace Go.Proofs.YtmgcmclcphfogaaDoor.B
open Go Go.RowKit Go.Proofs.YtmgcmclcphfogaaDoorW.PrintWords Go.Proofs.YtmgcmclcphfogaaDoorW.PrintLast Go.Proofs.YtmgcmclcphfogaaDoorW.PrintMore Go.Proofs.YtmgcmclcphfogaaDoor.PX Go.Proofs.YtmgcmclcphfogaaDoor.B
def isWordB (n : Int) : Bool := decide (-2147483648 ≤ n) && decide (n ≤ 2147483647)
theorem l1In_eq (a b c : Int) : spec_l1In.f a b c = some (decide (b ≤ a) && decide (a ≤ c)) := by
  unfold spec_l1In.f
  by_cases h : a ≥ b
  · rw [if_pos h, decide_eq_true (show b ≤ a from h), Bool.true_and]
  · rw [if_neg h, decide_eq_false (show ¬ b ≤ a from h), Bool.false_and]
theorem l1Word_eq (n : Int) : spec_l1Word.f n = some (isWordB n) := by
  unfold spec_l1Word.f
  rw [l1In_eq]
  rfl
theorem w32_range (n : Int) : -2147483648 ≤ wrap32 n ∧ wrap32 n ≤ 2147483647 := by
  unfold wrap32
  omega
theorem impl_wrap_eq (n : Int) : impl_wrap.f n = some (wrap32 n) := by
  have := w32_range n
  unfold impl_wrap.f
  rw [w64 (by omega) (by omega)]
theorem isWordB_wrap (n : Int) : (n == wrap32 n) = isWordB n := by
  unfold isWordB
  rw [Bool.eq_iff_iff]
  simp only [beq_iff_eq, Bool.and_eq_true, decide_eq_true_eq]
  unfold wrap32
  omega
theorem impl_isWord_eq (n : Int) : impl_isWord.f n = some (isWordB n) := by
  unfold impl_isWord.f
  rw [impl_wrap_eq]
  simp only [Option.bind_some]
  rw [isWordB_wrap]
end Go.Proofs.YtmgcmclcphfogaaDoor.B
namespace Go.Proofs.YtmgcmclcphfogaaDoor.B
open Go Go.RowKit Go.Proofs.YtmgcmclcphfogaaDoorW.PrintWords Go.Proofs.YtmgcmclcphfogaaDoorW.PrintLast Go.Proofs.YtmgcmclcphfogaaDoorW.PrintMore Go.Proofs.YtmgcmclcphfogaaDoor.PX Go.Proofs.YtmgcmclcphfogaaDoor.B
/-- the number of digits laid behind a number -/
def valFrom (acc : Nat) (ds : List UInt8) : Nat := ds.foldl (fun a c => a * 10 + (c.toNat - 48)) acc
def digitB (c : UInt8) : Bool := decide (48 ≤ c.toNat) && decide (c.toNat ≤ 57)
theorem valFrom_cons (acc : Nat) (c : UInt8) (l : List UInt8) : valFrom acc (c :: l) = valFrom (acc * 10 + (c.toNat - 48)) l := by unfold valFrom; rw [List.foldl_cons]
theorem valFrom_snoc (acc : Nat) (l : List UInt8) (c : UInt8) : valFrom acc (l ++ [c]) = valFrom acc l * 10 + (c.toNat - 48) := by simp [valFrom, List.foldl_append]
theorem valFrom_ge (l : List UInt8) : ∀ acc, acc ≤ valFrom acc l := by
  induction l with
  | nil => intro acc; exact Nat.le_refl _
  | cons c l ih => intro acc; have := ih (acc * 10 + (c.toNat - 48)); rw [valFrom_cons]; omega
theorem digit_val (d : Nat) (h : d < 10) : (UInt8.ofNat (48 + d)).toNat = 48 + d := by
  rw [UInt8.toNat_ofNat']; omega
theorem snoc_ind {P : List UInt8 → Prop} (h0 : P []) (h1 : ∀ l c, P l → P (l ++ [c])) : ∀ l, P l := by
  intro l
  have : ∀ n, ∀ l : List UInt8, l.length = n → P l := by
    intro n
    induction n with
    | zero => intro l hl; obtain rfl := List.length_eq_zero_iff.1 hl; exact h0
    | succ n ih =>
      intro l hl
      have hne : l ≠ [] := by intro e; rw [e] at hl; simp at hl
      rw [← List.dropLast_concat_getLast hne]
      exact h1 _ _ (ih _ (by rw [List.length_dropLast]; omega))
  exact this _ l rfl
theorem val_dec : ∀ u : Nat, valFrom 0 (Lib.decDigits u) = u := by
  intro u
  induction u using Nat.strongRecOn with
  | _ u ih =>
    by_cases h : u < 10
    · rw [decDigits_small h]; simp only [valFrom, List.foldl_cons, List.foldl_nil]; rw [digit_val u h]; omega
    · rw [decDigits_big h, valFrom_snoc, ih (u / 10) (by omega), digit_val _ (by omega)]; omega
theorem dec_digits : ∀ u : Nat, (Lib.decDigits u).all digitB = true := by
  intro u
  induction u using Nat.strongRecOn with
  | _ u ih =>
    by_cases h : u < 10
    · rw [decDigits_small h]; simp only [List.all_cons, List.all_nil, Bool.and_true, digitB]; rw [digit_val u h]; simp; omega
    · rw [decDigits_big h, List.all_append, ih (u / 10) (by omega)]
      simp only [List.all_cons, List.all_nil, Bool.and_true, Bool.true_and, digitB]; rw [digit_val _ (by omega)]; simp; omega
theorem dec_head : ∀ u : Nat, 1 ≤ u → (Lib.decDigits u).head? ≠ some 48 := by
  intro u
  induction u using Nat.strongRecOn with
  | _ u ih =>
    intro hu
    by_cases h : u < 10
    · rw [decDigits_small h]
      intro e
      have := congrArg UInt8.toNat (Option.some.inj e)
      rw [digit_val u h, show (48 : UInt8).toNat = 48 from rfl] at this
      omega
    · rw [decDigits_big h]
      have hne : Lib.decDigits (u / 10) ≠ [] := by intro e; have := decDigits_pos (u / 10); rw [e] at this; simp at this
      rw [List.head?_append]
      cases e : (Lib.decDigits (u / 10)).head? with
      | none => exact absurd (List.head?_eq_none_iff.1 e) hne
      | some c => simp only [Option.some_or]; rw [← e]; exact ih (u / 10) (by omega) (by omega)
/-- digits without a nought ahead are the text of their number -/
theorem dec_val : ∀ ds : List UInt8, ds ≠ [] → ds.all digitB = true → (ds.head? = some 48 → ds.length = 1) → Lib.decDigits (valFrom 0 ds) = ds := by
  refine snoc_ind (by intro h; exact absurd rfl h) ?_
  intro l c ih _ hd hh
  rw [List.all_append, Bool.and_eq_true] at hd
  have hc : digitB c = true := by simpa using hd.2
  have hc2 : 48 ≤ c.toNat ∧ c.toNat ≤ 57 := by unfold digitB at hc; simpa using hc
  have hcc : UInt8.ofNat (48 + (c.toNat - 48)) = c := by
    apply UInt8.toNat_inj.1
    rw [digit_val _ (by omega)]; omega
  rw [valFrom_snoc]
  by_cases hl : l = []
  · subst hl
    simp only [valFrom, List.foldl_nil, List.nil_append]
    rw [decDigits_small (by omega), Nat.zero_mul, Nat.zero_add, hcc]
  · have hh' : l.head? ≠ some 48 := by
      intro e
      have := hh (by rw [List.head?_append, e]; rfl)
      rw [List.length_append, List.length_singleton] at this
      exact hl (List.length_eq_zero_iff.1 (by omega))
    have hih := ih hl hd.1 (fun e => absurd e hh')
    have hpos : 1 ≤ valFrom 0 l := by
      rcases Nat.eq_zero_or_pos (valFrom 0 l) with h0 | h0
      · rw [h0, decDigits_small (by decide)] at hih
        exact absurd (by rw [← hih]; rfl) hh'
      · exact h0
    rw [decDigits_big (by omega), show (valFrom 0 l * 10 + (c.toNat - 48)) / 10 = valFrom 0 l by omega, show (valFrom 0 l * 10 + (c.toNat - 48)) % 10 = c.toNat - 48 by omega, hih, hcc]
theorem parseM_ok (ds : List UInt8) : ∀ acc : Nat, ds.all digitB = true → valFrom acc ds ≤ 1000000000000000000 → Lib.parseUintM (2 ^ 64 - 1) acc ds = .ok (valFrom acc ds) := by
  induction ds with
  | nil => intro acc _ _; rfl
  | cons c l ih =>
    intro acc hd hv
    rw [List.all_cons, Bool.and_eq_true] at hd
    have hc : 48 ≤ c.toNat ∧ c.toNat ≤ 57 := by have := hd.1; unfold digitB at this; simpa using this
    rw [valFrom_cons] at hv ⊢
    have := valFrom_ge l (acc * 10 + (c.toNat - 48))
    unfold Lib.parseUintM
    rw [if_pos hc, if_neg (by omega), if_neg (by omega)]
    exact ih _ hd.2 hv
theorem parse_itoa (v : Int) (h0 : -1000000000000000000 ≤ v) (h1 : v ≤ 1000000000000000000) : Lib.parseIntB 64 (Lib.itoa v) = .ok v := by
  have hB : ∀ u : Nat, u ≤ 1000000000000000000 → Lib.parseUintB 64 (Lib.decDigits u) = .ok u := by
    intro u hu
    unfold Lib.parseUintB
    have hne : Lib.decDigits u ≠ [] := by intro e; have := decDigits_pos u; rw [e] at this; simp at this
    rw [if_neg hne, parseM_ok _ 0 (dec_digits u) (by rw [val_dec]; exact hu), val_dec]
  unfold Lib.itoa
  by_cases hn : v < 0
  · rw [if_pos hn]
    unfold Lib.parseIntB
    simp only []
    rw [if_pos (.inr rfl), hB _ (by omega)]
    simp only []
    rw [if_neg (fun e => e.1 rfl), if_neg (by omega), if_pos (show (45 : UInt8).toNat = 45 from rfl)]
    congr 1
    omega
  · rw [if_neg hn]
    obtain ⟨c, l, hcl⟩ : ∃ c l, Lib.decDigits v.toNat = c :: l := by
      cases e : Lib.decDigits v.toNat with
      | nil => have := decDigits_pos v.toNat; rw [e] at this; simp at this
      | cons c l => exact ⟨c, l, rfl⟩
    have hc : 48 ≤ c.toNat := by
      have := dec_digits v.toNat
      rw [hcl, List.all_cons, Bool.and_eq_true] at this
      have := this.1
      unfold digitB at this
      simp at this
      omega
    have hb := hB v.toNat (by omega)
    rw [hcl] at hb ⊢
    unfold Lib.parseIntB
    simp only []
    rw [if_neg (by omega), hb]
    simp only []
    rw [if_neg (by omega), if_neg (by omega), if_neg (by omega)]
    congr 1
    omega
theorem parse_range {l : List UInt8} {v : Int} (h : Lib.parseIntB 64 l = .ok v) : I64 v := by
  cases l with
  | nil => exact absurd h (by simp [Lib.parseIntB])
  | cons c r =>
    unfold Lib.parseIntB at h
    simp only [] at h
    generalize Lib.parseUintB 64 _ = q at h
    cases q with
    | ok u =>
      simp only [] at h
      by_cases h1 : ¬ c.toNat = 45 ∧ 2 ^ (64 - 1) ≤ u
      · rw [if_pos h1] at h; cases h
      · rw [if_neg h1] at h
        by_cases h2 : c.toNat = 45 ∧ 2 ^ (64 - 1) < u
        · rw [if_pos h2] at h; cases h
        · rw [if_neg h2] at h
          injection h with h
          unfold I64
          by_cases h3 : c.toNat = 45
          · rw [if_pos h3] at h; omega
          · rw [if_neg h3] at h; omega
    | _ => cases h
/-- the word of a text -/
def wordOf (s : ByteArray) : Option Int := match Lib.parseIntB 64 s.data.toList with
  | .ok v => if itoaB v = s ∧ isWordB v = true then some v else none
  | _ => none
theorem wordOf_iff (s : ByteArray) (v : Int) : wordOf s = some v ↔ s = itoaB v ∧ isWordB v = true := by
  constructor
  · intro h
    unfold wordOf at h
    split at h
    · split at h
      · rename_i hc
        obtain rfl := Option.some.inj h
        exact ⟨hc.1.symm, hc.2⟩
      · cases h
    · cases h
  · rintro ⟨rfl, h⟩
    unfold wordOf
    have hb : -2147483648 ≤ v ∧ v ≤ 2147483647 := by unfold isWordB at h; simpa using h
    rw [show (itoaB v).data.toList = Lib.itoa v by simp [itoaB], parse_itoa v (by omega) (by omega)]
    exact if_pos ⟨rfl, h⟩
def wordR (s : ByteArray) : Int × Bool := match wordOf s with | some v => (v, true) | none => (0, false)
def sg (neg : Bool) (n : Nat) : Int := if neg = true then -(n : Int) else (n : Int)
theorem sg_t (n : Nat) : sg true n = -(n : Int) := rfl
theorem sg_f (n : Nat) : sg false n = (n : Int) := rfl
def okWord (ds : List UInt8) (neg : Bool) (tot : Nat) : Option Int :=
  if ds.all digitB = true ∧ ¬ (ds.head? = some 48 ∧ (neg = true ∨ 1 < tot)) then (if isWordB (sg neg (valFrom 0 ds)) = true then some (sg neg (valFrom 0 ds)) else none) else none
def gateW (ds : List UInt8) (neg : Bool) (tot : Nat) : Option Int := if 1 ≤ ds.length ∧ ds.length ≤ 10 then okWord ds neg tot else none
/-- the reference's way to read a word -/
def refWord (l : List UInt8) : Option Int := if l.head? = some 45 then gateW (l.drop 1) true l.length else gateW l false l.length
theorem okWord_parts {ds : List UInt8} {neg : Bool} {tot : Nat} {v : Int} (h : okWord ds neg tot = some v) : ds.all digitB = true ∧ ¬ (ds.head? = some 48 ∧ (neg = true ∨ 1 < tot)) ∧ v = sg neg (valFrom 0 ds) ∧ isWordB v = true := by
  unfold okWord at h
  by_cases c : ds.all digitB = true ∧ ¬ (ds.head? = some 48 ∧ (neg = true ∨ 1 < tot))
  · rw [if_pos c] at h
    by_cases w : isWordB (sg neg (valFrom 0 ds)) = true
    · rw [if_pos w] at h
      obtain rfl := Option.some.inj h
      exact ⟨c.1, c.2, rfl, w⟩
    · rw [if_neg w] at h; cases h
  · rw [if_neg c] at h; cases h
theorem gateW_parts {ds : List UInt8} {neg : Bool} {tot : Nat} {v : Int} (h : gateW ds neg tot = some v) : ds ≠ [] ∧ ds.all digitB = true ∧ ¬ (ds.head? = some 48 ∧ (neg = true ∨ 1 < tot)) ∧ v = sg neg (valFrom 0 ds) ∧ isWordB v = true := by
  unfold gateW at h
  by_cases c : 1 ≤ ds.length ∧ ds.length ≤ 10
  · rw [if_pos c] at h
    exact ⟨by intro e; rw [e] at c; simp at c, okWord_parts h⟩
  · rw [if_neg c] at h; cases h
theorem refWord_sound {l : List UInt8} {v : Int} (h : refWord l = some v) : l = Lib.itoa v ∧ isWordB v = true := by
  unfold refWord at h
  by_cases hn : l.head? = some 45
  · rw [if_pos hn] at h
    obtain ⟨hne, c3, c4, rfl, hw⟩ := gateW_parts h
    refine ⟨?_, hw⟩
    have hd := dec_val (l.drop 1) hne c3 (fun e => absurd ⟨e, .inl rfl⟩ c4)
    have hpos : 1 ≤ valFrom 0 (l.drop 1) := by
      rcases Nat.eq_zero_or_pos (valFrom 0 (l.drop 1)) with h0 | h0
      · rw [h0, decDigits_small (by decide)] at hd
        exact absurd ⟨by rw [← hd]; rfl, .inl rfl⟩ c4
      · exact h0
    rw [sg_t]
    unfold Lib.itoa
    rw [if_pos (by omega), Int.natAbs_neg, Int.natAbs_natCast, hd]
    cases l with
    | nil => simp at hn
    | cons a l => simp at hn; subst hn; rfl
  · rw [if_neg hn] at h
    obtain ⟨hne, c3, c4, rfl, hw⟩ := gateW_parts h
    refine ⟨?_, hw⟩
    have hd := dec_val l hne c3 (fun e => by
      have h1 : ¬ 1 < l.length := fun g => c4 ⟨e, .inr g⟩
      have h2 : l.length ≠ 0 := fun g => hne (List.length_eq_zero_iff.1 g)
      omega)
    rw [sg_f]
    unfold Lib.itoa
    rw [if_neg (by omega), Int.toNat_natCast, hd]
theorem refWord_itoa (v : Int) (h : isWordB v = true) : refWord (Lib.itoa v) = some v := by
  have hb : -2147483648 ≤ v ∧ v ≤ 2147483647 := by unfold isWordB at h; simpa using h
  unfold Lib.itoa
  by_cases hn : v < 0
  · rw [if_pos hn]
    have hl := decDigits_len 9 v.natAbs (by omega)
    have hp := decDigits_pos v.natAbs
    have hh := dec_head v.natAbs (by omega)
    have hs : sg true v.natAbs = v := by rw [sg_t]; omega
    unfold refWord
    rw [if_pos (show (45 :: Lib.decDigits v.natAbs).head? = some 45 from rfl)]
    unfold gateW okWord
    rw [List.drop_succ_cons, List.drop_zero, if_pos ⟨hp, hl⟩, if_pos ⟨dec_digits _, fun e => hh e.1⟩, val_dec, hs, if_pos h]
  · rw [if_neg hn]
    have hl := decDigits_len 9 v.toNat (by omega)
    have hp := decDigits_pos v.toNat
    have h45 : ¬ (Lib.decDigits v.toNat).head? = some 45 := by
      intro e
      have hd := dec_digits v.toNat
      cases hcs : Lib.decDigits v.toNat with
      | nil => rw [hcs] at e; cases e
      | cons a l =>
        rw [hcs] at e hd
        have ha : a = 45 := Option.some.inj e
        rw [ha, List.all_cons, Bool.and_eq_true] at hd
        exact absurd hd.1 (by decide)
    have h48 : (Lib.decDigits v.toNat).head? = some 48 → (Lib.decDigits v.toNat).length = 1 := by
      intro e
      rcases Nat.eq_zero_or_pos v.toNat with h0 | h0
      · rw [h0, decDigits_small (by decide)]; rfl
      · exact absurd e (dec_head _ h0)
    have hs : sg false v.toNat = v := by rw [sg_f]; omega
    have hno : ¬ ((Lib.decDigits v.toNat).head? = some 48 ∧ (false = true ∨ 1 < (Lib.decDigits v.toNat).length)) := by
      intro e
      have h1 := h48 e.1
      rcases e.2 with g | g
      · cases g
      · omega
    unfold refWord
    rw [if_neg h45]
    unfold gateW okWord
    rw [if_pos ⟨hp, hl⟩, if_pos ⟨dec_digits _, hno⟩, val_dec, hs, if_pos h]
theorem refWord_eq (s : ByteArray) : refWord s.data.toList = wordOf s := by
  cases h : refWord s.data.toList with
  | some v =>
    obtain ⟨h1, h2⟩ := refWord_sound h
    exact ((wordOf_iff s v).2 ⟨ba_ext (by rw [h1]; simp [itoaB]), h2⟩).symm
  | none =>
    cases g : wordOf s with
    | none => rfl
    | some v =>
      obtain ⟨rfl, h2⟩ := (wordOf_iff s v).1 g
      rw [show (itoaB v).data.toList = Lib.itoa v by simp [itoaB], refWord_itoa v h2] at h
      cases h
end Go.Proofs.YtmgcmclcphfogaaDoor.B
namespace Go.Proofs.YtmgcmclcphfogaaDoor.B
open Go Go.RowKit Go.Proofs.YtmgcmclcphfogaaDoorW.PrintWords Go.Proofs.YtmgcmclcphfogaaDoorW.PrintLast Go.Proofs.YtmgcmclcphfogaaDoorW.PrintMore Go.Proofs.YtmgcmclcphfogaaDoor.PX Go.Proofs.YtmgcmclcphfogaaDoor.B
theorem mt' {a b : Prop} (h : a → b) (g : ¬ b) : ¬ a := fun x => g (h x)
theorem digitB_iff (c : UInt8) : digitB c = true ↔ 48 ≤ c.toNat ∧ c.toNat ≤ 57 := by unfold digitB; simp
theorem ReadWord_j4 (neg z : Bool) (n : Nat) (hn2 : n ≤ 100000000000) : LG fun k => spec_ReadWord.j4 k neg (n : Int) z = some (if z = true then (0, false) else if isWordB (sg neg n) = true then (sg neg n, true) else (0, false)) := by
  refine LG.step fun j => ?_
  simp only [spec_ReadWord.j4]
  cases z with
  | false =>
    rw [if_neg (show ¬ (false = true) by decide), if_neg (show ¬ (false = true) by decide)]
    cases neg with
    | false =>
      rw [if_neg (show ¬ (false = true) by decide), l1Word_eq, Option.bind_some, sg_f]
      split <;> rfl
    | true =>
      rw [if_pos rfl, w64 (by omega) (by omega), l1Word_eq, Option.bind_some, sg_t]
      split <;> rfl
  | true => rw [if_pos rfl, if_pos rfl]
theorem valFrom_lt : ∀ l : List UInt8, l.all digitB = true → valFrom 0 l < 10 ^ l.length := by
  refine snoc_ind (P := fun l => l.all digitB = true → valFrom 0 l < 10 ^ l.length) ?_ ?_
  · intro _; decide
  · intro l c ih h
    rw [List.all_append, Bool.and_eq_true] at h
    have := ih h.1
    have hc : c.toNat ≤ 57 := by have := h.2; simp [digitB] at this; omega
    rw [valFrom_snoc, List.length_append, List.length_singleton, Nat.pow_succ]
    omega
theorem take_all_digits {l : List UInt8} {i : Nat} (h : (l.take i).all digitB = true) (hi : i < l.length) : (l.take (i + 1)).all digitB = digitB l[i] := by
  rw [List.take_succ_eq_append_getElem hi, List.all_append, h]
  simp
def outW (o : Option Int) : Int × Bool := match o with | some v => (v, true) | none => (0, false)
theorem ReadWord_l0 (s : ByteArray) (p : Nat) (neg : Bool) (hp : p < s.size) (hlen : s.size - p ≤ 10) (hp1 : p ≤ 1) (d : Nat) : ∀ i : Nat, p + i ≤ s.size → s.size - (p + i) = d → ((s.data.toList.drop p).take i).all digitB = true →
    LG fun k => spec_ReadWord.l0 k s (p : Int) neg (valFrom 0 ((s.data.toList.drop p).take i) : Int) ((p + i : Nat) : Int) = some (outW (okWord (s.data.toList.drop p) neg s.size)) := by
  have hl := size_len s
  have hdl : (s.data.toList.drop p).length = s.size - p := by rw [List.length_drop, hl]
  induction d with
  | zero =>
    intro i h1 h2 h3
    have hi : i = s.size - p := by omega
    have hall : (s.data.toList.drop p).take i = s.data.toList.drop p := List.take_of_length_le (by omega)
    rw [hall] at h3 ⊢
    have hv := valFrom_lt _ h3
    have hv2 : valFrom 0 (s.data.toList.drop p) ≤ 100000000000 := by
      have : 10 ^ (s.data.toList.drop p).length ≤ 10 ^ 10 := Nat.pow_le_pow_right (by decide) (by omega)
      omega
    have hpl : p < s.data.toList.length := by omega
    have hhead : (s.data.toList.drop p).head? = some s.data.toList[p] := by rw [List.head?_drop, List.getElem?_eq_getElem hpl]
    have hfin : ∀ z : Bool, (z = true ↔ ((s.data.toList.drop p).head? = some 48 ∧ (neg = true ∨ 1 < s.size))) → LG fun k => spec_ReadWord.j4 k neg (valFrom 0 (s.data.toList.drop p) : Int) z = some (outW (okWord (s.data.toList.drop p) neg s.size)) := by
      intro z hz
      refine (ReadWord_j4 neg z (valFrom 0 (s.data.toList.drop p)) (by omega)).mono fun k hk => ?_
      rw [hk]
      by_cases hzz : z = true
      · have e : okWord (s.data.toList.drop p) neg s.size = none := by unfold okWord; rw [if_neg (fun e => e.2 (hz.1 hzz))]
        rw [if_pos hzz, e]; rfl
      · rw [if_neg hzz]
        by_cases hw : isWordB (sg neg (valFrom 0 (s.data.toList.drop p))) = true
        · have e : okWord (s.data.toList.drop p) neg s.size = some (sg neg (valFrom 0 (s.data.toList.drop p))) := by unfold okWord; rw [if_pos ⟨h3, fun e => hzz (hz.2 e)⟩, if_pos hw]
          rw [if_pos hw, e]; rfl
        · have e : okWord (s.data.toList.drop p) neg s.size = none := by unfold okWord; rw [if_pos ⟨h3, fun e => hzz (hz.2 e)⟩, if_neg hw]
          rw [if_neg hw, e]; rfl
    have hcond : (bt s (p : Int) = 48) ↔ (s.data.toList.drop p).head? = some 48 := by
      rw [bt_get s p hpl, hhead]
      constructor
      · intro e; rw [show s.data.toList[p] = 48 from UInt8.toNat_inj.1 (by rw [show (48 : UInt8).toNat = 48 from rfl]; omega)]
      · intro e; rw [Option.some.inj e]; rfl
    by_cases c48 : bt s (p : Int) = 48
    · cases neg
      · refine (hfin (decide ((s.size : Int) > 1)) ⟨fun e => ⟨hcond.1 c48, .inr (by have := of_decide_eq_true e; omega)⟩, fun e => decide_eq_true (by have := e.2; simp at this; omega)⟩).up fun j hj => ?_
        simp only [spec_ReadWord.l0]
        rw [if_neg (by omega), if_pos (by omega), if_pos (by omega), if_pos c48, if_neg (by decide)]
        exact hj
      · refine (hfin true ⟨fun _ => ⟨hcond.1 c48, .inl rfl⟩, fun _ => rfl⟩).up fun j hj => ?_
        simp only [spec_ReadWord.l0]
        rw [if_neg (by omega), if_pos (by omega), if_pos (by omega), if_pos c48, if_pos trivial]
        exact hj
    · refine (hfin false ⟨(fun e => by cases e), (fun e => absurd (hcond.2 e.1) c48)⟩).up fun j hj => ?_
      simp only [spec_ReadWord.l0]
      rw [if_neg (by omega), if_pos (by omega), if_pos (by omega), if_neg c48]
      exact hj
  | succ d ih =>
    intro i h1 h2 h3
    have hlt : p + i < s.data.toList.length := by omega
    have hlt' : i < (s.data.toList.drop p).length := by omega
    have hget : (s.data.toList.drop p)[i] = s.data.toList[p + i] := by rw [List.getElem_drop]
    have htk := take_all_digits h3 hlt'
    by_cases hdg : digitB (s.data.toList[p + i]) = true
    · have hc := (digitB_iff _).1 hdg
      have hv := valFrom_lt _ h3
      have hv2 : valFrom 0 ((s.data.toList.drop p).take i) < 10 ^ 10 := Nat.lt_of_lt_of_le hv (Nat.pow_le_pow_right (by decide) (by rw [List.length_take]; omega))
      have := ih (i + 1) (by omega) (by omega) (by rw [htk, hget]; exact hdg)
      rw [List.take_succ_eq_append_getElem hlt', valFrom_snoc, hget] at this
      refine this.up fun j hj => ?_
      simp only [spec_ReadWord.l0]
      rw [if_pos (by omega), if_pos (by omega), bt_get s (p + i) hlt, if_neg (by omega), if_neg (by omega)]
      rw [w64 (n := (valFrom 0 ((s.data.toList.drop p).take i) : Int) * 10) (by omega) (by omega), w64 (n := (valFrom 0 ((s.data.toList.drop p).take i) : Int) * 10 + (((s.data.toList[p + i]).toNat : Int) - 48) % 256) (by omega) (by omega), w64 (n := ((p + i : Nat) : Int) + 1) (by omega) (by omega)]
      rw [show (valFrom 0 ((s.data.toList.drop p).take i) : Int) * 10 + (((s.data.toList[p + i]).toNat : Int) - 48) % 256 = ((valFrom 0 ((s.data.toList.drop p).take i) * 10 + ((s.data.toList[p + i]).toNat - 48) : Nat) : Int) by omega]
      exact hj
    · have hno : okWord (s.data.toList.drop p) neg s.size = none := by
        unfold okWord
        rw [if_neg]
        intro e
        exact hdg (by rw [← hget]; exact List.all_eq_true.1 e.1 _ (List.getElem_mem hlt'))
      rw [hno]
      refine LG.step fun j => ?_
      simp only [spec_ReadWord.l0]
      rw [if_pos (by omega), if_pos (by omega), bt_get s (p + i) hlt]
      by_cases h48 : ((s.data.toList[p + i]).toNat : Int) < 48
      · rw [if_pos h48]; rfl
      · have := mt' (digitB_iff _).2 hdg
        rw [if_neg h48, if_pos (by omega)]; rfl
theorem outW_ref (s : ByteArray) : outW (refWord s.data.toList) = wordR s := by
  rw [refWord_eq]; rfl
theorem ReadWord_j1 (s : ByteArray) (hs : s.size ≤ 9223372036854775807) (neg : Bool) (p : Nat) (hp : p ≤ s.size) (hp1 : p ≤ 1) (hneg : (neg = true ∧ p = 1 ∧ s.data.toList.head? = some 45) ∨ (neg = false ∧ p = 0 ∧ s.data.toList.head? ≠ some 45)) :
    LG fun k => spec_ReadWord.j1 k s (p : Int) neg = some (wordR s) := by
  have hl := size_len s
  have hdl : (s.data.toList.drop p).length = s.size - p := by rw [List.length_drop, hl]
  have hfail : refWord s.data.toList = none → LG fun k => spec_ReadWord.j2 k s (p : Int) neg 0 true = some (wordR s) := by
    intro h
    rw [← outW_ref, h]
    refine LG.step fun j => ?_
    simp only [spec_ReadWord.j2]
    rw [if_pos trivial]; rfl
  have href : refWord s.data.toList = if 1 ≤ s.size - p ∧ s.size - p ≤ 10 then okWord (s.data.toList.drop p) neg s.size else none := by
    unfold refWord
    rcases hneg with ⟨rfl, rfl, h45⟩ | ⟨rfl, rfl, h45⟩
    · rw [if_pos h45]
      unfold gateW
      rw [hdl, hl]
    · rw [if_neg h45]
      unfold gateW
      rw [hl]
      simp
  by_cases c1 : s.size - p < 1
  · refine (hfail (by rw [href, if_neg (by omega)])).up fun j hj => ?_
    simp only [spec_ReadWord.j1]
    rw [w64 (by omega) (by omega), if_pos (by omega)]
    exact hj
  · by_cases c2 : s.size - p > 10
    · refine (hfail (by rw [href, if_neg (by omega)])).up fun j hj => ?_
      simp only [spec_ReadWord.j1]
      rw [w64 (by omega) (by omega), if_neg (by omega), decide_eq_true (by omega)]
      exact hj
    · have := ReadWord_l0 s p neg (by omega) (by omega) hp1 (s.size - p) 0 (by omega) (by omega) (by simp)
      rw [← outW_ref, href, if_pos (by omega)]
      refine (this.up fun j hj => ?_ : LG fun k => spec_ReadWord.j2 k s (p : Int) neg 0 false = some (outW (okWord (s.data.toList.drop p) neg s.size))).up fun j hj => ?_
      · simp only [spec_ReadWord.j2]
        rw [if_neg (by decide)]
        simpa [valFrom] using hj
      · simp only [spec_ReadWord.j1]
        rw [w64 (by omega) (by omega), if_neg (by omega), decide_eq_false (by omega)]
        exact hj
theorem spec_ReadWord_eq (s : ByteArray) (hs : s.size ≤ 9223372036854775807) : LG fun k => spec_ReadWord.f k s = some (wordR s) := by
  have hl := size_len s
  have hplus : s.data.toList.head? ≠ some 45 → LG fun k => spec_ReadWord.j0 k s 0 false false = some (wordR s) := by
    intro h
    refine (ReadWord_j1 s hs false 0 (by omega) (by omega) (.inr ⟨rfl, rfl, h⟩)).up fun j hj => ?_
    simp only [spec_ReadWord.j0]
    rw [if_neg (by decide)]
    exact hj
  by_cases he : s.toList = []
  · have : s.data.toList = [] := by rw [← toList_eq]; exact he
    refine (hplus (by rw [this]; simp)).mono fun k hk => ?_
    unfold spec_ReadWord.f
    rw [if_pos he]; exact hk
  · have hpos : 0 < s.data.toList.length := by
      rcases Nat.eq_zero_or_pos s.data.toList.length with h | h
      · exact absurd (by rw [toList_eq]; exact List.length_eq_zero_iff.1 h) he
      · exact h
    have hhead : s.data.toList.head? = some s.data.toList[0] := by rw [List.head?_eq_getElem?, List.getElem?_eq_getElem hpos]
    have hb := bt_get s 0 hpos
    by_cases h45 : s.data.toList[0] = 45
    · refine ((ReadWord_j1 s hs true 1 (by omega) (by omega) (.inl ⟨rfl, rfl, by rw [hhead, h45]⟩)).up fun j hj => ?_ : LG fun k => spec_ReadWord.j0 k s 0 false true = some (wordR s)).mono fun k hk => ?_
      · simp only [spec_ReadWord.j0]
        rw [if_pos trivial]; exact hj
      · unfold spec_ReadWord.f
        rw [if_neg he, if_pos (by omega), show bt s 0 = 45 by rw [show (0 : Int) = ((0 : Nat) : Int) from rfl, hb, h45]; rfl]
        exact hk
    · refine (hplus (by rw [hhead]; intro e; exact h45 (Option.some.inj e))).mono fun k hk => ?_
      unfold spec_ReadWord.f
      have : (bt s 0 == 45) = false := by
        rw [beq_eq_false_iff_ne, show (0 : Int) = ((0 : Nat) : Int) from rfl, hb]
        intro e
        exact h45 (UInt8.toNat_inj.1 (by rw [show (45 : UInt8).toNat = 45 from rfl]; omega))
      rw [if_neg he, if_pos (by omega), this]
      exact hk
end Go.Proofs.YtmgcmclcphfogaaDoor.B
namespace Go.Proofs.YtmgcmclcphfogaaDoor.B
open Go Go.RowKit Go.Proofs.YtmgcmclcphfogaaDoorW.PrintWords Go.Proofs.YtmgcmclcphfogaaDoorW.PrintLast Go.Proofs.YtmgcmclcphfogaaDoorW.PrintMore Go.Proofs.YtmgcmclcphfogaaDoor.PX Go.Proofs.YtmgcmclcphfogaaDoor.B
theorem decimal_eq (n : Int) (h : I64 n) : impl_decimal.f n = some (itoaB n) := by
  unfold I64 at h
  unfold impl_decimal.f strconv_FormatInt_120.f
  rw [if_pos rfl, if_pos h.1, if_pos h.2]
  rfl
end Go.Proofs.YtmgcmclcphfogaaDoor.B
namespace Go.Proofs.YtmgcmclcphfogaaDoor.B
open Go Go.RowKit Go.Proofs.YtmgcmclcphfogaaDoorW.PrintWords Go.Proofs.YtmgcmclcphfogaaDoorW.PrintLast Go.Proofs.YtmgcmclcphfogaaDoorW.PrintMore Go.Proofs.YtmgcmclcphfogaaDoor.PX Go.Proofs.YtmgcmclcphfogaaDoor.B
theorem impl_readWord_eq (s : ByteArray) (hs : s.size ≤ 281474976710656) : impl_readWord.f s = some (wordR s) := by
  unfold impl_readWord.f wordR wordOf
  rw [if_pos hs]
  cases hp : Lib.parseIntB 64 s.data.toList with
  | ok v =>
    simp only []
    have hI : I64 v := parse_range hp
    rw [decimal_eq v hI, Option.bind_some]
    by_cases hc : itoaB v = s
    · rw [if_pos ((toList_inj _ _).2 hc), impl_isWord_eq, Option.bind_some]
      by_cases hw : isWordB v = true
      · rw [if_pos hw, if_pos ⟨hc, hw⟩]
      · rw [if_neg hw, if_neg (fun e => hw e.2)]
    · rw [if_neg (fun e => hc ((toList_inj _ _).1 e)), if_neg (fun e => hc e.1)]
  | _ => rfl
theorem impl_ReadWord_eq (s : ByteArray) (hs : s.size ≤ 281474976710656) : impl_ReadWord.f s = some (wordR s) := by
  unfold impl_ReadWord.f
  rw [impl_readWord_eq s hs]
  rfl
end Go.Proofs.YtmgcmclcphfogaaDoor.B
namespace Go.Proofs.YtmgcmclcphfogaaDoor.Pure
open Go Go.RowKit Go.Proofs.YtmgcmclcphfogaaDoorW.PrintWords Go.Proofs.YtmgcmclcphfogaaDoorW.PrintLast Go.Proofs.YtmgcmclcphfogaaDoorW.PrintMore Go.Proofs.YtmgcmclcphfogaaDoor.PX Go.Proofs.YtmgcmclcphfogaaDoor.B
theorem FnExactReadWord : FnExactReadWord_Pure := by
  intro s hs
  by_cases h : s.size ≤ 1048576
  · obtain ⟨k, h1⟩ := (spec_ReadWord_eq s hs).rounds
    refine ⟨k, ?_⟩
    unfold laws_FnExactReadWord.f
    rw [if_neg (by omega), h1, Option.bind_some, impl_ReadWord_eq s (by omega), Option.bind_some, if_pos rfl, bne_self_eq_false, if_neg (by decide)]
  · refine ⟨0, ?_⟩
    unfold laws_FnExactReadWord.f
    rw [if_pos (by omega)]
end Go.Proofs.YtmgcmclcphfogaaDoor.Pure
