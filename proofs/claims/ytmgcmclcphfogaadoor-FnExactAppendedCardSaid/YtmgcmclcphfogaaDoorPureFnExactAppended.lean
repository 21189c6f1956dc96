import Derived.Test.YtmgcmclcphfogaaDoorPXx0
import Derived.Test.YtmgcmclcphfogaaDoorPXx2
import Derived.Test.YtmgcmclcphfogaaDoorPXx3
import Derived.Test.YtmgcmclcphfogaaDoorPXx9
import Derived.Test.YtmgcmclcphfogaaDoorPXx10
import Derived.Test.YtmgcmclcphfogaaDoorPXx14
import Derived.Test.YtmgcmclcphfogaaDoorPXx15
import Derived.Test.YtmgcmclcphfogaaDoorPXx16
import Derived.Test.YtmgcmclcphfogaaDoorPXx17
import Derived.Test.YtmgcmclcphfogaaDoorStFnExactAppended
import Derived.Lib.ItoaNum
import Derived.Lib.Split
import Derived.Lib.IndexMore
import Derived.Test.YtmgcmclcphfogaaDoorWMore
set_option linter.unusedVariables false
set_option linter.unusedSimpArgs false
namespace Go.Proofs.YtmgcmclcphfogaaDoor.B
open Go Go.RowKit Go.Proofs.YtmgcmclcphfogaaDoorW.PrintWords Go.Proofs.YtmgcmclcphfogaaDoorW.PrintLast Go.Proofs.YtmgcmclcphfogaaDoorW.PrintMore Go.Proofs.YtmgcmclcphfogaaDoor.PX
/-- From some number of rounds on. -/
def LG (p : Nat → Prop) : Prop := ∃ K, ∀ k, K ≤ k → p k
namespace LG
theorem all {p : Nat → Prop} (h : ∀ k, p k) : LG p := ⟨0, fun k _ => h k⟩
theorem step {p : Nat → Prop} (h : ∀ j, p (j + 1)) : LG p := ⟨1, fun k hk => by
  obtain ⟨j, rfl⟩ : ∃ j, k = j + 1 := ⟨k - 1, by omega⟩
  exact h j⟩
theorem and {p q : Nat → Prop} (h : LG p) (g : LG q) : LG fun k => p k ∧ q k := by
  obtain ⟨a, h⟩ := h
  obtain ⟨b, g⟩ := g
  exact ⟨max a b, fun k hk => ⟨h k (by omega), g k (by omega)⟩⟩
theorem mono {p q : Nat → Prop} (h : LG p) (g : ∀ k, p k → q k) : LG q := by
  obtain ⟨a, h⟩ := h
  exact ⟨a, fun k hk => g k (h k hk)⟩
/-- One round: what holds of j holds of j + 1 rounds. -/
theorem up {p q : Nat → Prop} (h : LG p) (g : ∀ j, p j → q (j + 1)) : LG q := by
  obtain ⟨a, h⟩ := h
  refine ⟨a + 1, fun k hk => ?_⟩
  obtain ⟨j, rfl⟩ : ∃ j, k = j + 1 := ⟨k - 1, by omega⟩
  exact g j (h j (by omega))
theorem rounds {p : Nat → Prop} (h : LG p) : ∃ k, p k := by
  obtain ⟨a, h⟩ := h
  exact ⟨a, h a (Nat.le_refl _)⟩
end LG
def I64 (n : Int) : Prop := -9223372036854775808 ≤ n ∧ n ≤ 9223372036854775807
theorem i64_of {n : Int} (h : (Lit.int .i64 n).wf = true) : I64 n := by
  simp only [Lit.wf, IntKind.min, IntKind.max, IntKind.signed, IntKind.bits, Bool.and_eq_true, decide_eq_true_eq, if_true] at h
  unfold I64
  omega
theorem w64 {n : Int} (h0 : -9223372036854775808 ≤ n) (h1 : n ≤ 9223372036854775807) : wrap64 n = n := by
  unfold wrap64
  omega
theorem bt_get (s : ByteArray) (i : Nat) (h : i < s.data.toList.length) : bt s (i : Int) = ((s.data.toList[i]).toNat : Int) := by
  have hs : (i : Int).toNat < s.size := by
    have : s.size = s.data.toList.length := by rw [Array.length_toList]; rfl
    omega
  unfold bt
  rw [dif_pos hs]
  rfl
theorem size_len (s : ByteArray) : s.data.toList.length = s.size := by rw [Array.length_toList]; rfl
end Go.Proofs.YtmgcmclcphfogaaDoor.B
namespace Go.Proofs.YtmgcmclcphfogaaDoor.B
open Go Go.RowKit Go.Proofs.YtmgcmclcphfogaaDoorW.PrintWords Go.Proofs.YtmgcmclcphfogaaDoorW.PrintLast Go.Proofs.YtmgcmclcphfogaaDoorW.PrintMore Go.Proofs.YtmgcmclcphfogaaDoor.PX Go.Proofs.YtmgcmclcphfogaaDoor.B
theorem getD_nat {α : Type} (xs : List α) (z : α) (i : Nat) (h : i < xs.length) : xs.getD (i : Int).toNat z = xs[i] := by
  rw [Int.toNat_natCast, List.getD_eq_getElem?_getD, List.getElem?_eq_getElem h]
  rfl
theorem set_take {α : Type} (xs : List α) (i : Nat) (v : α) (h : i < xs.length) : (xs.set i v).take (i + 1) = xs.take i ++ [v] := by
  rw [List.take_succ_eq_append_getElem (by simpa using h), List.take_set_of_le (Nat.le_refl i), List.getElem_set_self]
theorem take_map_succ {α β : Type} (f : α → β) (xs : List α) (i : Nat) (h : i < xs.length) : (xs.map f).take (i + 1) = (xs.map f).take i ++ [f xs[i]] := by
  rw [List.take_succ_eq_append_getElem (by simpa using h), List.getElem_map]
theorem take_all {α : Type} {xs ys : List α} {n : Nat} (hx : xs.length = n) (hy : ys.length = n) (h : xs.take n = ys.take n) : xs = ys := by
  rw [List.take_of_length_le (by omega), List.take_of_length_le (by omega)] at h
  exact h
theorem toList_eq (s : ByteArray) : s.toList = s.data.toList := by
  first | exact ByteArray.toList_eq s | simp
theorem toList_inj (s t : ByteArray) : s.toList = t.toList ↔ s = t := by
  rw [toList_eq, toList_eq]
  constructor
  · intro h
    obtain ⟨⟨l⟩⟩ := s
    obtain ⟨⟨m⟩⟩ := t
    simp at h
    rw [h]
  · rintro rfl
    rfl
end Go.Proofs.YtmgcmclcphfogaaDoor.B
namespace Go.Proofs.YtmgcmclcphfogaaDoor.B
open Go Go.RowKit Go.Proofs.YtmgcmclcphfogaaDoorW.PrintWords Go.Proofs.YtmgcmclcphfogaaDoorW.PrintLast Go.Proofs.YtmgcmclcphfogaaDoorW.PrintMore Go.Proofs.YtmgcmclcphfogaaDoor.PX Go.Proofs.YtmgcmclcphfogaaDoor.B
/-- the decimal text of a number -/
def itoaB (n : Int) : ByteArray := ⟨(Lib.itoa n).toArray⟩
theorem ba_ext {s t : ByteArray} (h : s.data.toList = t.data.toList) : s = t := by
  obtain ⟨⟨l⟩⟩ := s
  obtain ⟨⟨m⟩⟩ := t
  simp at h
  rw [h]
theorem app_data (s t : ByteArray) : (s ++ t).data.toList = s.data.toList ++ t.data.toList := by simp
theorem digit_data (d : Nat) (h : d < 10) : (strOfNums [((48 : Int) + d) % 256]).data.toList = [UInt8.ofNat (48 + d)] := by
  have e : ((48 : Int) + d) % 256 = ((48 + d : Nat) : Int) := by omega
  rw [e]
  show [UInt8.ofNat ((48 + d : Nat) : Int).toNat] = _
  rw [Int.toNat_natCast]
theorem decDigits_small {u : Nat} (h : u < 10) : Lib.decDigits u = [UInt8.ofNat (48 + u)] := by rw [Lib.decDigits, dif_pos h]
theorem decDigits_big {u : Nat} (h : ¬ u < 10) : Lib.decDigits u = Lib.decDigits (u / 10) ++ [UInt8.ofNat (48 + u % 10)] := by rw [Lib.decDigits, dif_neg h]
/-- what the loop adds ahead of the digits that are there -/
def decAcc (u : Nat) (s : List UInt8) : List UInt8 := if u = 0 ∧ s ≠ [] then s else Lib.decDigits u ++ s
theorem decAcc_step (u : Nat) (s : List UInt8) (h : s = [] ∨ u ≠ 0) : decAcc (u / 10) (UInt8.ofNat (48 + u % 10) :: s) = decAcc u s := by
  unfold decAcc
  rw [if_neg (show ¬ (u = 0 ∧ s ≠ []) from fun ⟨a, b⟩ => by rcases h with h | h <;> contradiction)]
  by_cases hu : u < 10
  · rw [if_pos ⟨by omega, by simp⟩, decDigits_small hu, Nat.mod_eq_of_lt hu]
    rfl
  · rw [if_neg (fun ⟨a, _⟩ => by omega), decDigits_big hu]
    simp
def sgn (neg : Bool) : List UInt8 := if neg = true then [45] else []
theorem l1Int_fin (s : ByteArray) (neg : Bool) (h : s.data.toList ≠ []) (hs : s.size ≤ 1000) : LG fun k => spec_l1Int.l0 k 0 s neg = some ⟨(sgn neg ++ s.data.toList).toArray⟩ := by
  have g : LG fun k => spec_l1Int.j1 k 0 s neg false = some ⟨(sgn neg ++ s.data.toList).toArray⟩ := by
    refine LG.step fun j => ?_
    simp only [spec_l1Int.j1]
    rw [if_neg (by decide)]
    cases neg with
    | true => rw [if_pos rfl, if_pos (by omega)]; exact congrArg some (ba_ext (by simp [sgn]))
    | false => rw [if_neg (by decide)]; exact congrArg some (ba_ext (by simp [sgn]))
  refine g.up fun j hj => ?_
  simp only [spec_l1Int.l0]
  rw [if_neg (by rw [toList_eq]; exact h)]
  simpa using hj
theorem l1Int_round (x : Int) (s : ByteArray) (neg : Bool) (hx : I64 x) (h : s.data.toList = [] ∨ x ≠ 0) (hs : s.size ≤ 1000) {r : ByteArray}
    (g : LG fun k => spec_l1Int.l0 k (Int.tdiv x 10) (strOfNums [((48 : Int) + (x.natAbs % 10 : Nat)) % 256] ++ s) neg = some r) : LG fun k => spec_l1Int.l0 k x s neg = some r := by
  have hd : wrap64 (Int.tdiv x 10) = Int.tdiv x 10 := by
    rcases Int.le_total 0 x with h0 | h0
    · rw [Int.tdiv_eq_ediv_of_nonneg h0]; unfold I64 at hx; exact w64 (by omega) (by omega)
    · obtain ⟨y, rfl⟩ : ∃ y : Int, x = -y := ⟨-x, by omega⟩
      rw [Int.neg_tdiv, Int.tdiv_eq_ediv_of_nonneg (by omega)]; unfold I64 at hx; exact w64 (by omega) (by omega)
  have hz : ∀ n : Int, (strOfNums [n]).size = 1 := fun _ => rfl
  have j1 : LG fun k => spec_l1Int.j1 k x s neg true = some r := by
    refine g.up fun j hj => ?_
    simp only [spec_l1Int.j1]
    rw [if_pos trivial]
    by_cases hn : Int.tmod x 10 < 0
    · have e : wrap64 (48 + wrap64 (-(Int.tmod x 10))) = (48 : Int) + (x.natAbs % 10 : Nat) := by
        have hx0 : x < 0 := by
          rcases Int.lt_or_le x 0 with h0 | h0
          · exact h0
          · rw [Int.tmod_eq_emod_of_nonneg h0] at hn; omega
        obtain ⟨y, rfl⟩ : ∃ y : Int, x = -y := ⟨-x, by omega⟩
        rw [Int.neg_tmod, Int.tmod_eq_emod_of_nonneg (by omega), Int.neg_neg, w64 (n := y % 10) (by omega) (by omega), w64 (by omega) (by omega)]
        omega
      rw [if_pos hn]
      simp only [Option.bind_some]
      rw [e, hz, if_pos (by omega), hd]
      exact hj
    · have e : wrap64 (48 + (Int.tmod x 10)) = (48 : Int) + (x.natAbs % 10 : Nat) := by
        rcases Int.le_total 0 x with h0 | h0
        · rw [Int.tmod_eq_emod_of_nonneg h0, w64 (by omega) (by omega)]; omega
        · obtain ⟨y, rfl⟩ : ∃ y : Int, x = -y := ⟨-x, by omega⟩
          rw [Int.neg_tmod, Int.tmod_eq_emod_of_nonneg (by omega)] at hn ⊢
          rw [w64 (by omega) (by omega)]; omega
      rw [if_neg hn]
      simp only [Option.bind_some]
      rw [e, hz, if_pos (by omega), hd]
      exact hj
  refine j1.up fun j hj => ?_
  simp only [spec_l1Int.l0]
  by_cases he : s.toList = []
  · rw [if_pos he]; exact hj
  · rw [if_neg he]
    have : (x != 0) = true := by
      rcases h with h | h
      · exact absurd (by rw [toList_eq]; exact h) he
      · simpa using h
    rw [this]; exact hj
theorem natAbs_tdiv10 (x : Int) : (Int.tdiv x 10).natAbs = x.natAbs / 10 := by
  rcases Int.le_total 0 x with h0 | h0
  · rw [Int.tdiv_eq_ediv_of_nonneg h0]; omega
  · obtain ⟨y, rfl⟩ : ∃ y : Int, x = -y := ⟨-x, by omega⟩
    rw [Int.neg_tdiv, Int.tdiv_eq_ediv_of_nonneg (by omega)]; omega
theorem l1Int_l0 (neg : Bool) (m : Nat) : ∀ (x : Int) (s : ByteArray), I64 x → x.natAbs < 10 ^ m → s.size + m ≤ 900 →
    LG fun k => spec_l1Int.l0 k x s neg = some ⟨(sgn neg ++ decAcc x.natAbs s.data.toList).toArray⟩ := by
  induction m with
  | zero =>
    intro x s hI hx hs
    obtain rfl : x = 0 := by simp at hx; omega
    by_cases he : s.data.toList = []
    · refine l1Int_round 0 s neg hI (.inl he) (by omega) ?_
      have := l1Int_fin (strOfNums [((48 : Int) + ((0 : Int).natAbs % 10 : Nat)) % 256] ++ s) neg (by rw [app_data, digit_data _ (by decide)]; simp) (by rw [ByteArray.size_append]; show 1 + _ ≤ _; omega)
      have e : decAcc (Int.natAbs 0) s.data.toList = (strOfNums [((48 : Int) + ((0 : Int).natAbs % 10 : Nat)) % 256] ++ s).data.toList := by
        rw [app_data, digit_data _ (by decide), he]; unfold decAcc; simp [decDigits_small]
      rw [e]; exact this
    · have e : decAcc (Int.natAbs 0) s.data.toList = s.data.toList := by unfold decAcc; rw [if_pos ⟨rfl, he⟩]
      rw [e]; exact l1Int_fin s neg he (by omega)
  | succ m ih =>
    intro x s hI hx hs
    by_cases he : s.data.toList ≠ [] ∧ x = 0
    · obtain ⟨he, rfl⟩ := he
      have e : decAcc (Int.natAbs 0) s.data.toList = s.data.toList := by unfold decAcc; rw [if_pos ⟨rfl, he⟩]
      rw [e]; exact l1Int_fin s neg he (by omega)
    · have h : s.data.toList = [] ∨ x ≠ 0 := by
        by_cases h1 : s.data.toList = []
        · exact .inl h1
        · exact .inr fun h2 => he ⟨h1, h2⟩
      refine l1Int_round x s neg hI h (by omega) ?_
      have hb : x.natAbs / 10 < 10 ^ m := by rw [Nat.pow_succ] at hx; omega
      have := ih (Int.tdiv x 10) (strOfNums [((48 : Int) + (x.natAbs % 10 : Nat)) % 256] ++ s) (by
        have hq := natAbs_tdiv10 x
        unfold I64 at hI ⊢
        omega) (by rw [natAbs_tdiv10]; exact hb) (by rw [ByteArray.size_append]; show 1 + _ + _ ≤ _; omega)
      rw [natAbs_tdiv10, app_data, digit_data _ (by omega)] at this
      rw [← decAcc_step x.natAbs s.data.toList (h.imp id (by omega))]
      exact this
theorem l1Int_eq (n : Int) (h : I64 n) : LG fun k => spec_l1Int.f k n = some (itoaB n) := by
  have := l1Int_l0 (decide (n < 0)) 20 n ⟨#[]⟩ h (by unfold I64 at h; omega) (by decide)
  have e : (⟨(sgn (decide (n < 0)) ++ decAcc n.natAbs []).toArray⟩ : ByteArray) = itoaB n := by
    unfold itoaB Lib.itoa decAcc sgn
    by_cases h0 : n < 0
    · simp [h0]
    · have : n.natAbs = n.toNat := by omega
      simp [h0, this]
  rw [← e]
  exact this
theorem decDigits_len (m : Nat) : ∀ u : Nat, u < 10 ^ (m + 1) → (Lib.decDigits u).length ≤ m + 1 := by
  induction m with
  | zero => intro u h; rw [decDigits_small (by simpa using h)]; simp
  | succ m ih =>
    intro u h
    by_cases hu : u < 10
    · rw [decDigits_small hu]; simp
    · rw [decDigits_big hu, List.length_append, List.length_singleton]
      have := ih (u / 10) (by rw [Nat.pow_succ] at h; omega)
      omega
theorem decDigits_pos (u : Nat) : 1 ≤ (Lib.decDigits u).length := by
  by_cases hu : u < 10
  · rw [decDigits_small hu]; simp
  · rw [decDigits_big hu]; simp
theorem itoaB_size (n : Int) (h : I64 n) : 1 ≤ (itoaB n).size ∧ (itoaB n).size ≤ 20 := by
  have e : (itoaB n).size = (Lib.itoa n).length := by rw [← size_len]; simp [itoaB]
  rw [e]
  unfold Lib.itoa
  unfold I64 at h
  split
  · have h1 := decDigits_len 18 n.natAbs (by omega)
    simp only [List.length_cons]
    omega
  · have h1 := decDigits_len 18 n.toNat (by omega)
    have h2 := decDigits_pos n.toNat
    omega
end Go.Proofs.YtmgcmclcphfogaaDoor.B
namespace Go.Proofs.YtmgcmclcphfogaaDoor.B
open Go Go.RowKit Go.Proofs.YtmgcmclcphfogaaDoorW.PrintWords Go.Proofs.YtmgcmclcphfogaaDoorW.PrintLast Go.Proofs.YtmgcmclcphfogaaDoorW.PrintMore Go.Proofs.YtmgcmclcphfogaaDoor.PX Go.Proofs.YtmgcmclcphfogaaDoor.B
def markStep (h : Int) (c : UInt8) : Int := (131 * h + (c.toNat : Int) + 1) % 65521
def markRun (h : Int) (l : List UInt8) : Int := l.foldl markStep h
def markOf (s : ByteArray) : Int := markRun 7 s.data.toList
theorem markStep_range (h : Int) (c : UInt8) : 0 ≤ markStep h c ∧ markStep h c < 65521 := by
  unfold markStep
  omega
theorem markRun_range (l : List UInt8) : ∀ h : Int, 0 ≤ h → h < 65521 → 0 ≤ markRun h l ∧ markRun h l < 65521 := by
  induction l with
  | nil => intro h h0 h1; exact ⟨h0, h1⟩
  | cons c l ih => intro h h0 h1; exact ih _ (markStep_range h c).1 (markStep_range h c).2
theorem mark_term (h : Int) (c : UInt8) (h0 : 0 ≤ h) (h1 : h < 65521) : Int.tmod (wrap64 ((wrap64 ((wrap64 (131 * h)) + (wrap64 (c.toNat : Int)))) + 1)) 65521 = markStep h c := by
  have hc := c.toNat_lt
  rw [w64 (n := 131 * h) (by omega) (by omega), w64 (n := (c.toNat : Int)) (by omega) (by omega), w64 (n := 131 * h + (c.toNat : Int)) (by omega) (by omega), w64 (by omega) (by omega)]
  unfold markStep
  rw [Int.tmod_eq_emod_of_nonneg (by omega)]
theorem markRun_at (l : List UInt8) (i : Nat) (h : i < l.length) (m : Int) : markRun m (l.drop i) = markRun (markStep m l[i]) (l.drop (i + 1)) := by
  rw [List.drop_eq_getElem_cons h]
  rfl
end Go.Proofs.YtmgcmclcphfogaaDoor.B
namespace Go.Proofs.YtmgcmclcphfogaaDoor.B
open Go Go.RowKit Go.Proofs.YtmgcmclcphfogaaDoorW.PrintWords Go.Proofs.YtmgcmclcphfogaaDoorW.PrintLast Go.Proofs.YtmgcmclcphfogaaDoorW.PrintMore Go.Proofs.YtmgcmclcphfogaaDoor.PX Go.Proofs.YtmgcmclcphfogaaDoor.B
/-- where a byte is for the first time -/
def idx (c : UInt8) : List UInt8 → Option Nat
  | [] => none
  | b :: l => if b = c then some 0 else (idx c l).map (· + 1)
theorem index_idx (c : UInt8) : ∀ l : List UInt8, Lib.index l [c] = match idx c l with | none => -1 | some i => (i : Int)
  | [] => rfl
  | b :: l => by
    have ih := index_idx c l
    unfold Lib.index idx
    by_cases h : b = c
    · subst h; simp [List.isPrefixOf]
    · have : ([c].isPrefixOf (b :: l)) = false := by simp [List.isPrefixOf]; exact fun e => h e.symm
      rw [this, if_neg h, ih]
      cases idx c l with
      | none => rfl
      | some i =>
        have : ((i : Int) == -1) = false := by rw [beq_eq_false_iff_ne]; omega
        simp [this]
theorem indexByte_idx (c : UInt8) : ∀ l : List UInt8, Lib.indexByte l c = match idx c l with | none => -1 | some i => (i : Int)
  | [] => rfl
  | b :: l => by
    have ih := indexByte_idx c l
    unfold Lib.indexByte idx
    by_cases h : b = c
    · subst h; simp
    · have : (b == c) = false := by simpa using h
      rw [this, if_neg h, ih]
      cases idx c l with
      | none => rfl
      | some i =>
        have : ((i : Int) == -1) = false := by rw [beq_eq_false_iff_ne]; omega
        simp [this]
theorem idx_none {c : UInt8} : ∀ {l : List UInt8}, idx c l = none → c ∉ l
  | [], _ => by simp
  | b :: l, h => by
    unfold idx at h
    by_cases hb : b = c
    · rw [if_pos hb] at h; cases h
    · rw [if_neg hb] at h
      have := idx_none (by simpa using h)
      simp only [List.mem_cons, not_or]
      exact ⟨fun e => hb e.symm, this⟩
theorem idx_some {c : UInt8} : ∀ {l : List UInt8} {i : Nat}, idx c l = some i → i < l.length ∧ c ∉ l.take i ∧ l[i]? = some c
  | [], _, h => by cases h
  | b :: l, i, h => by
    unfold idx at h
    by_cases hb : b = c
    · rw [if_pos hb] at h; cases h; subst hb; simp
    · rw [if_neg hb] at h
      obtain ⟨j, hj, rfl⟩ := Option.map_eq_some_iff.1 h
      obtain ⟨h1, h2, h3⟩ := idx_some hj
      refine ⟨by simpa using h1, ?_, by simpa using h3⟩
      rw [List.take_succ_cons, List.mem_cons, not_or]
      exact ⟨fun e => hb e.symm, h2⟩
theorem idx_not {c : UInt8} {l : List UInt8} (h : c ∉ l) : idx c l = none := by
  cases e : idx c l with
  | none => rfl
  | some i => exact absurd (List.mem_of_getElem? (idx_some e).2.2) h
theorem idx_of {c : UInt8} : ∀ {l : List UInt8} {i : Nat}, c ∉ l.take i → l[i]? = some c → idx c l = some i
  | [], _, _, h => by simp at h
  | b :: l, 0, _, h => by simp at h; subst h; simp [idx]
  | b :: l, i + 1, h0, h => by
    rw [List.take_succ_cons, List.mem_cons, not_or] at h0
    have := idx_of h0.2 (by simpa using h)
    unfold idx
    rw [if_neg (fun e => h0.1 e.symm), this]; rfl
/-- what stands behind so many blanks -/
def after : Nat → List UInt8 → Option (List UInt8)
  | 0, l => some l
  | _ + 1, [] => none
  | n + 1, c :: l => if c = 32 then after n l else after (n + 1) l
theorem after_cons (n : Nat) (c : UInt8) (l : List UInt8) : after (n + 1) (c :: l) = if c = 32 then after n l else after (n + 1) l := rfl
theorem idx_cons (c b : UInt8) (l : List UInt8) : idx c (b :: l) = if b = c then some 0 else (idx c l).map (· + 1) := rfl
theorem after_idx (n : Nat) : ∀ l : List UInt8, after (n + 1) l = (idx 32 l).bind fun i => after n (l.drop (i + 1))
  | [] => rfl
  | c :: l => by
    have ih := after_idx n l
    rw [after_cons, idx_cons]
    by_cases h : c = 32
    · rw [if_pos h, if_pos h]; rfl
    · rw [if_neg h, if_neg h, ih]
      cases idx 32 l <;> rfl
theorem splitK_succ (k : Nat) (s : List UInt8) : Lib.splitK [32] 0 (k + 1) s = if Lib.index s [32] == -1 then [s] else s.take ((Lib.index s [32]).toNat + 0) :: Lib.splitK [32] 0 k (s.drop ((Lib.index s [32]).toNat + 1)) := rfl
theorem splitK_step (k : Nat) (l : List UInt8) : Lib.splitK [32] 0 (k + 1) l = match idx 32 l with | none => [l] | some i => l.take i :: Lib.splitK [32] 0 k (l.drop (i + 1)) := by
  rw [splitK_succ, index_idx]
  cases idx 32 l with
  | none => rfl
  | some i =>
    have : ((i : Int) == -1) = false := by rw [beq_eq_false_iff_ne]; omega
    simp only [this]
    rw [if_neg (by decide), Int.toNat_natCast, Nat.add_zero]
theorem splitK_some {l t : List UInt8} (h : after 2 l = some t) : ∃ a b, Lib.splitK [32] 0 2 l = [a, b, t] := by
  rw [after_idx] at h
  rw [splitK_step]
  cases e : idx 32 l with
  | none => rw [e] at h; cases h
  | some i =>
    rw [e] at h
    simp only [Option.bind_some] at h
    rw [after_idx] at h
    cases e2 : idx 32 (l.drop (i + 1)) with
    | none => rw [e2] at h; cases h
    | some j =>
      rw [e2] at h
      simp only [Option.bind_some, after, Option.some.injEq] at h
      refine ⟨l.take i, (l.drop (i + 1)).take j, ?_⟩
      simp only []
      rw [splitK_step, e2]
      simp only [Lib.splitK]
      rw [h]
theorem splitK_none {l : List UInt8} (h : after 2 l = none) : (Lib.splitK [32] 0 2 l).length ≤ 2 := by
  rw [after_idx] at h
  rw [splitK_step]
  cases e : idx 32 l with
  | none => simp
  | some i =>
    rw [e] at h
    simp only [Option.bind_some] at h
    rw [after_idx] at h
    simp only []
    rw [splitK_step]
    cases e2 : idx 32 (l.drop (i + 1)) with
    | none => simp
    | some j => rw [e2] at h; simp [after] at h
theorem after_short {l : List UInt8} (h : l.length ≤ 1) : after 2 l = none := by
  match l, h with
  | [], _ => rfl
  | [c], _ => unfold after; split <;> rfl
def plainB (t : ByteArray) : Bool := (idx 10 t.data.toList).isNone && decide (t.size ≤ 300)
def frameB (t : ByteArray) : ByteArray := ((((itoaB (t.size : Int) ++ (⟨#[32]⟩ : ByteArray)) ++ itoaB (markOf t)) ++ (⟨#[32]⟩ : ByteArray)) ++ t) ++ (⟨#[10]⟩ : ByteArray)
def framedB (t : ByteArray) : ByteArray := if plainB t = true then frameB t else ⟨#[]⟩
theorem markOf_range (t : ByteArray) : 0 ≤ markOf t ∧ markOf t < 65521 := markRun_range _ 7 (by omega) (by omega)
theorem itoaB_small (n : Int) (m : Nat) (h0 : 0 ≤ n) (h : n < ((10 ^ (m + 1) : Nat) : Int)) : (itoaB n).size ≤ m + 1 := by
  have e : (itoaB n).size = (Lib.itoa n).length := by rw [← size_len]; simp [itoaB]
  rw [e]
  unfold Lib.itoa
  rw [if_neg (by omega)]
  exact decDigits_len m n.toNat (by omega)
theorem frameB_size (t : ByteArray) (h : t.size ≤ 300) : (frameB t).size ≤ t.size + 11 := by
  have h1 := itoaB_small (t.size : Int) 2 (by omega) (by omega)
  have h2 := markOf_range t
  have h3 := itoaB_small (markOf t) 4 (by omega) (by omega)
  unfold frameB
  simp only [ByteArray.size_append, show (⟨#[32]⟩ : ByteArray).size = 1 from rfl, show (⟨#[10]⟩ : ByteArray).size = 1 from rfl]
  omega
theorem frameB_pos (t : ByteArray) : 1 ≤ (frameB t).size := by
  unfold frameB
  simp only [ByteArray.size_append, show (⟨#[10]⟩ : ByteArray).size = 1 from rfl]
  omega
/-- the text of the frame at a place -/
def firstB (s : ByteArray) (p : Nat) : Option ByteArray :=
  (idx 10 (s.data.toList.drop p)).bind fun e => (after 2 ((s.data.toList.drop p).take e)).bind fun t =>
    if plainB ⟨t.toArray⟩ = true ∧ (frameB ⟨t.toArray⟩).data.toList = (s.data.toList.drop p).take e ++ [10] then some ⟨t.toArray⟩ else none
theorem firstB_some {s : ByteArray} {p : Nat} {t : ByteArray} (h : firstB s p = some t) : plainB t = true ∧ ∃ e, idx 10 (s.data.toList.drop p) = some e ∧ (frameB t).data.toList = (s.data.toList.drop p).take e ++ [10] ∧ (frameB t).size = e + 1 ∧ after 2 ((s.data.toList.drop p).take e) = some t.data.toList := by
  unfold firstB at h
  obtain ⟨e, he, h⟩ := Option.bind_eq_some_iff.1 h
  obtain ⟨t', ht, h⟩ := Option.bind_eq_some_iff.1 h
  split at h
  · rename_i hc
    obtain rfl := Option.some.inj h
    refine ⟨hc.1, e, he, hc.2, ?_, by simpa using ht⟩
    have := congrArg List.length hc.2
    rw [size_len, List.length_append, List.length_take, List.length_singleton] at this
    have := (idx_some he).1
    omega
  · cases h
theorem firstB_le {s : ByteArray} {p : Nat} {t : ByteArray} (hp : p ≤ s.size) (h : firstB s p = some t) : p + (frameB t).size ≤ s.size := by
  obtain ⟨_, e, he, _, h2, _⟩ := firstB_some h
  have := (idx_some he).1
  rw [List.length_drop, size_len] at this
  omega
/-- the texts of the frames from a place on, and the place behind them -/
def framesB (s : ByteArray) : Nat → Nat → List ByteArray × Nat
  | 0, p => ([], p)
  | f + 1, p => match firstB s p with
    | none => ([], p)
    | some t => (t :: (framesB s f (p + (frameB t).size)).1, (framesB s f (p + (frameB t).size)).2)
def framesOf (s : ByteArray) : List ByteArray × Nat := framesB s (s.size + 1) 0
end Go.Proofs.YtmgcmclcphfogaaDoor.B
namespace Go.Proofs.YtmgcmclcphfogaaDoor.B
open Go Go.RowKit Go.Proofs.YtmgcmclcphfogaaDoorW.PrintWords Go.Proofs.YtmgcmclcphfogaaDoorW.PrintLast Go.Proofs.YtmgcmclcphfogaaDoorW.PrintMore Go.Proofs.YtmgcmclcphfogaaDoor.PX Go.Proofs.YtmgcmclcphfogaaDoor.B
theorem spec_Mark_l0 (s : ByteArray) (hs : s.size ≤ 9223372036854775807) (d : Nat) : ∀ (i : Nat) (m : Int), i ≤ s.size → s.size - i = d → 0 ≤ m → m < 65521 →
    LG fun k => spec_Mark.l0 k s m (i : Int) = some (markRun m (s.data.toList.drop i)) := by
  have hl := size_len s
  induction d with
  | zero =>
    intro i m h1 h2 _ _
    refine LG.step fun j => ?_
    simp only [spec_Mark.l0]
    rw [if_neg (by omega), List.drop_of_length_le (by omega)]
    rfl
  | succ d ih =>
    intro i m h1 h2 m0 m1
    have hi : i < s.data.toList.length := by omega
    have hr := markStep_range m (s.data.toList[i])
    refine (ih (i + 1) (markStep m (s.data.toList[i])) (by omega) (by omega) hr.1 hr.2).up fun j hj => ?_
    simp only [spec_Mark.l0]
    rw [if_pos (by omega), if_pos (by omega), bt_get s i hi, mark_term _ _ m0 m1, markRun_at _ i hi, w64 (n := (i : Int) + 1) (by omega) (by omega)]
    simpa using hj
theorem spec_Mark_eq (s : ByteArray) (hs : s.size ≤ 9223372036854775807) : LG fun k => spec_Mark.f k s = some (markOf s) :=
  spec_Mark_l0 s hs s.size 0 7 (by omega) (by omega) (by omega) (by omega)
theorem impl_mark_l0 (s : ByteArray) (hs : s.size ≤ 9223372036854775807) (d : Nat) : ∀ (i : Nat) (m : Int), i ≤ s.size → s.size - i = d → 0 ≤ m → m < 65521 →
    LG fun k => impl_mark.l0 k s m (s.size : Int) (i : Int) = some (markRun m (s.data.toList.drop i)) := by
  have hl := size_len s
  induction d with
  | zero =>
    intro i m h1 h2 _ _
    refine LG.step fun j => ?_
    simp only [impl_mark.l0]
    rw [if_neg (by omega), List.drop_of_length_le (by omega)]
    rfl
  | succ d ih =>
    intro i m h1 h2 m0 m1
    have hi : i < s.data.toList.length := by omega
    have hr := markStep_range m (s.data.toList[i])
    refine (ih (i + 1) (markStep m (s.data.toList[i])) (by omega) (by omega) hr.1 hr.2).up fun j hj => ?_
    simp only [impl_mark.l0]
    rw [if_pos (by omega), if_pos (by omega), if_pos (by omega), bt_get s i hi, mark_term _ _ m0 m1, markRun_at _ i hi, w64 (n := (i : Int) + 1) (by omega) (by omega)]
    simpa using hj
theorem impl_mark_eq (s : ByteArray) (hs : s.size ≤ 9223372036854775807) : LG fun k => impl_mark.f k s = some (markOf s) :=
  impl_mark_l0 s hs s.size 0 7 (by omega) (by omega) (by omega) (by omega)
end Go.Proofs.YtmgcmclcphfogaaDoor.B
namespace Go.Proofs.YtmgcmclcphfogaaDoor.B
open Go Go.RowKit Go.Proofs.YtmgcmclcphfogaaDoorW.PrintWords Go.Proofs.YtmgcmclcphfogaaDoorW.PrintLast Go.Proofs.YtmgcmclcphfogaaDoorW.PrintMore Go.Proofs.YtmgcmclcphfogaaDoor.PX Go.Proofs.YtmgcmclcphfogaaDoor.B
theorem decimal_eq (n : Int) (h : I64 n) : impl_decimal.f n = some (itoaB n) := by
  unfold I64 at h
  unfold impl_decimal.f strconv_FormatInt_120.f
  rw [if_pos rfl, if_pos h.1, if_pos h.2]
  rfl
end Go.Proofs.YtmgcmclcphfogaaDoor.B
namespace Go.Proofs.YtmgcmclcphfogaaDoor.B
open Go Go.RowKit Go.Proofs.YtmgcmclcphfogaaDoorW.PrintWords Go.Proofs.YtmgcmclcphfogaaDoorW.PrintLast Go.Proofs.YtmgcmclcphfogaaDoorW.PrintMore Go.Proofs.YtmgcmclcphfogaaDoor.PX Go.Proofs.YtmgcmclcphfogaaDoor.B
theorem impl_framed_j0 (s : ByteArray) (hs : s.size ≤ 1000000000) : LG fun k => impl_framed.j0 k s false = some (frameB s) := by
  have hm := markOf_range s
  have h1 : I64 (s.size : Int) := by unfold I64; omega
  have h2 : I64 (markOf s) := by unfold I64; omega
  have z1 := itoaB_size _ h1
  have z2 := itoaB_size _ h2
  refine (impl_mark_eq s (by omega)).up fun k g3 => ?_
  simp only [impl_framed.j0]
  rw [if_neg (by decide), decimal_eq _ h1]
  unfold frameB
  simp only [Option.bind_some, g3, decimal_eq _ h2, ByteArray.size_append, show (⟨#[32]⟩ : ByteArray).size = 1 from rfl]
  repeat rw [if_pos (by omega)]
theorem impl_framed_eq (s : ByteArray) (hs : s.size ≤ 1000000000) : LG fun k => impl_framed.f k s = some (framedB s) := by
  have hn : LG fun k => impl_framed.j0 k s true = some (⟨#[]⟩ : ByteArray) := LG.step fun j => by simp only [impl_framed.j0]; rw [if_pos trivial]
  refine (hn.and (impl_framed_j0 s hs)).mono fun k ⟨g1, g2⟩ => ?_
  unfold impl_framed.f framedB plainB
  by_cases h : s.size ≤ 300
  · rw [if_neg (by omega)]
    unfold strings_Contains.f
    rw [if_pos (show (⟨#[10]⟩ : ByteArray).size = 1 from rfl)]
    simp only [Option.bind_some]
    rw [show ((⟨#[10]⟩ : ByteArray).data.toList.getD 0 0) = 10 from rfl, indexByte_idx]
    cases e : idx 10 s.data.toList with
    | none => simp only [Option.isNone_none, Bool.true_and, decide_eq_true h, if_true]; rw [show decide ((0 : Int) ≤ -1) = false by decide]; exact g2
    | some i => simp only [Option.isNone_some, Bool.false_and]; rw [decide_eq_true (show (0 : Int) ≤ (i : Int) by omega), if_neg (by decide)]; exact g1
  · rw [if_pos (by omega), decide_eq_false h, Bool.and_false, if_neg (by decide)]
    exact g1
end Go.Proofs.YtmgcmclcphfogaaDoor.B
namespace Go.Proofs.YtmgcmclcphfogaaDoor.B
open Go Go.RowKit Go.Proofs.YtmgcmclcphfogaaDoorW.PrintWords Go.Proofs.YtmgcmclcphfogaaDoorW.PrintLast Go.Proofs.YtmgcmclcphfogaaDoorW.PrintMore Go.Proofs.YtmgcmclcphfogaaDoor.PX Go.Proofs.YtmgcmclcphfogaaDoor.B
theorem l3Plain_l0 (s : ByteArray) (hs : s.size ≤ 9223372036854775807) (d : Nat) : ∀ i : Nat, i ≤ s.size → s.size - i = d →
    LG fun k => spec_l3Plain.l0 k s (i : Int) = some ((idx 10 (s.data.toList.drop i)).isNone && decide (s.size ≤ 300)) := by
  have hl := size_len s
  induction d with
  | zero =>
    intro i h1 h2
    refine LG.step fun j => ?_
    simp only [spec_l3Plain.l0]
    rw [if_neg (by omega), List.drop_of_length_le (by omega)]
    congr 1
    simp only [idx, Option.isNone_none, Bool.true_and]
    rw [Bool.eq_iff_iff]
    simp only [decide_eq_true_eq]
    omega
  | succ d ih =>
    intro i h1 h2
    have hi : i < s.data.toList.length := by omega
    refine (ih (i + 1) (by omega) (by omega)).up fun j hj => ?_
    simp only [spec_l3Plain.l0]
    rw [if_pos (by omega), if_pos (by omega), bt_get s i hi, List.drop_eq_getElem_cons hi]
    unfold idx
    by_cases hc : s.data.toList[i] = 10
    · rw [if_pos (by rw [hc]; rfl), if_pos hc]; rfl
    · rw [if_neg (fun e => hc (UInt8.toNat_inj.1 (by rw [show (10 : UInt8).toNat = 10 from rfl]; omega))), if_neg hc, w64 (by omega) (by omega)]
      rw [show ((i : Int) + 1) = ((i + 1 : Nat) : Int) by omega, hj]
      congr 2
      cases idx 10 (s.data.toList.drop (i + 1)) <;> rfl
theorem l3Plain_eq (s : ByteArray) (hs : s.size ≤ 9223372036854775807) : LG fun k => spec_l3Plain.f k s = some (plainB s) := l3Plain_l0 s hs s.size 0 (by omega) (by omega)
theorem l3Frame_eq (s : ByteArray) (hs : s.size ≤ 1000000000) : LG fun k => spec_l3Frame.f k s = some (frameB s) := by
  have hm := markOf_range s
  have h1 : I64 (s.size : Int) := by unfold I64; omega
  have h2 : I64 (markOf s) := by unfold I64; omega
  have z1 := itoaB_size _ h1
  have z2 := itoaB_size _ h2
  refine (((l1Int_eq _ h1).and (l1Int_eq _ h2)).and (spec_Mark_eq s (by omega))).mono fun k ⟨⟨g1, g2⟩, g3⟩ => ?_
  unfold spec_l3Frame.f frameB
  rw [g1]
  simp only [Option.bind_some, g3, g2, ByteArray.size_append, show (⟨#[32]⟩ : ByteArray).size = 1 from rfl]
  repeat rw [if_pos (by omega)]
theorem spec_Framed_eq (s : ByteArray) (hs : s.size ≤ 1000000000) : LG fun k => spec_Framed.f k s = some (framedB s) := by
  refine ((l3Plain_eq s (by omega)).and (l3Frame_eq s hs)).mono fun k ⟨g1, g2⟩ => ?_
  unfold spec_Framed.f framedB
  rw [g1, g2]
  simp only [Option.bind_some]
  split <;> rfl
end Go.Proofs.YtmgcmclcphfogaaDoor.B
namespace Go.Proofs.YtmgcmclcphfogaaDoor.B
open Go Go.RowKit Go.Proofs.YtmgcmclcphfogaaDoorW.PrintWords Go.Proofs.YtmgcmclcphfogaaDoorW.PrintLast Go.Proofs.YtmgcmclcphfogaaDoorW.PrintMore Go.Proofs.YtmgcmclcphfogaaDoor.PX Go.Proofs.YtmgcmclcphfogaaDoor.B
theorem ext_list (s : ByteArray) (a b : Nat) (hb : b ≤ s.size) : (s.extract a b).data.toList = (s.data.toList.drop a).take (b - a) := by
  rw [Lib.extract_data]
/-- what the scan knows at its i-th byte: b blanks so far, the last of them ends at f -/
def Scan (l : List UInt8) (i b f : Nat) : Prop := i ≤ l.length ∧ 10 ∉ l.take i ∧ b ≤ 2 ∧ f ≤ i ∧ ∀ q, after 2 (l.take i ++ q) = if b < 2 then after (2 - b) q else some ((l.take i).drop f ++ q)
theorem Scan.zero (l : List UInt8) : Scan l 0 0 0 := ⟨Nat.zero_le _, by simp, by omega, Nat.le_refl _, fun q => by simp⟩
theorem Scan.blank {l : List UInt8} {i b f : Nat} (h : Scan l i b f) (hi : i < l.length) (hc : l[i] = 32) (hb : b < 2) : Scan l (i + 1) (b + 1) (i + 1) := by
  obtain ⟨h1, h2, h3, h4, h5⟩ := h
  refine ⟨by omega, ?_, by omega, Nat.le_refl _, fun q => ?_⟩
  · rw [List.take_succ_eq_append_getElem hi, hc, List.mem_append, not_or]; exact ⟨h2, by simp⟩
  · rw [List.take_succ_eq_append_getElem hi, hc, List.append_assoc, h5, if_pos hb]
    rw [show 2 - b = (2 - (b + 1)) + 1 by omega]
    rw [List.singleton_append, after_cons, if_pos rfl]
    by_cases hb2 : b + 1 < 2
    · rw [if_pos hb2]
    · rw [if_neg hb2, show 2 - (b + 1) = 0 by omega]
      simp only [after]
      rw [List.drop_of_length_le (by simp; omega)]
      rfl
theorem Scan.more {l : List UInt8} {i b f : Nat} (h : Scan l i b f) (hi : i < l.length) (hn : l[i] ≠ 10) (hc : l[i] ≠ 32 ∨ ¬ b < 2) : Scan l (i + 1) b f := by
  obtain ⟨h1, h2, h3, h4, h5⟩ := h
  refine ⟨by omega, ?_, h3, by omega, fun q => ?_⟩
  · rw [List.take_succ_eq_append_getElem hi, List.mem_append, not_or]; exact ⟨h2, by simpa using fun e => hn e.symm⟩
  · rw [List.take_succ_eq_append_getElem hi, List.append_assoc, h5]
    by_cases hb : b < 2
    · rw [if_pos hb, if_pos hb, show 2 - b = (1 - b) + 1 by omega, List.singleton_append, after_cons, if_neg (by rcases hc with hc | hc; exact hc; exact absurd hb hc)]
    · rw [if_neg hb, if_neg hb, List.drop_append_of_le_length (by simp; omega), List.append_assoc]
theorem Scan.at_end {l : List UInt8} {i b f : Nat} (h : Scan l i b f) : after 2 (l.take i) = if b < 2 then none else some ((l.take i).drop f) := by
  obtain ⟨_, _, h3, _, h5⟩ := h
  have := h5 []
  rw [List.append_nil, List.append_nil] at this
  rw [this]
  by_cases hb : b < 2
  · rw [if_pos hb, if_pos hb, show 2 - b = (1 - b) + 1 by omega]; rfl
  · rw [if_neg hb, if_neg hb]
def firstR (s : ByteArray) (p : Nat) : ByteArray × Int := match firstB s p with | some t => (t, ((p + (frameB t).size : Nat) : Int)) | none => (⟨#[]⟩, (p : Int))
theorem ten_eq {c : UInt8} (h : ((c.toNat : Nat) : Int) = 10) : c = 10 := UInt8.toNat_inj.1 (by rw [show (10 : UInt8).toNat = 10 from rfl]; omega)
theorem ten_cast : (((10 : UInt8).toNat : Nat) : Int) = 10 := rfl
theorem blank_eq {c : UInt8} (h : ((c.toNat : Nat) : Int) = 32) : c = 32 := UInt8.toNat_inj.1 (by rw [show (32 : UInt8).toNat = 32 from rfl]; omega)
theorem blank_cast : (((32 : UInt8).toNat : Nat) : Int) = 32 := rfl
theorem l3_fail (s : ByteArray) (p x6 x8 : Int) : LG fun k => spec_l3First.j2 k s p x6 x8 true = some ((⟨#[]⟩ : ByteArray), p) := LG.step fun j => by simp only [spec_l3First.j2]; rw [if_pos trivial]
theorem firstR_none {s : ByteArray} {p : Nat} (h : firstB s p = none) : firstR s p = ((⟨#[]⟩ : ByteArray), (p : Int)) := by unfold firstR; rw [h]
theorem l3_end (s : ByteArray) (hs : s.size ≤ 1000000000) (p i b f : Nat) (hsc : Scan (s.data.toList.drop p) i b f) (he : p + i = s.size) :
    LG fun k => spec_l3First.j1 k s (p : Int) ((p + i : Nat) : Int) (b : Int) ((p + f : Nat) : Int) false = some (firstR s p) := by
  have hl := size_len s
  have hll : (s.data.toList.drop p).length = s.size - p := by rw [List.length_drop, hl]
  obtain ⟨z1, z2, z3, z4, _⟩ := hsc
  have hnone : firstB s p = none := by
    unfold firstB
    rw [idx_not (by rw [List.take_of_length_le (by omega)] at z2; exact z2)]; rfl
  rw [firstR_none hnone]
  refine (l3_fail s p ((p + i : Nat) : Int) ((p + f : Nat) : Int)).up fun j hj => ?_
  simp only [spec_l3First.j1]
  rw [if_neg (by decide), if_pos (by omega)]
  exact hj
theorem l3_far (s : ByteArray) (hs : s.size ≤ 1000000000) (p b f : Nat) (hsc : Scan (s.data.toList.drop p) 321 b f) (hlt : p + 321 < s.data.toList.length) (hc : s.data.toList[p + 321] ≠ 10) :
    LG fun k => spec_l3First.j1 k s (p : Int) ((p + 321 : Nat) : Int) (b : Int) ((p + f : Nat) : Int) false = some (firstR s p) := by
  have hl := size_len s
  obtain ⟨z1, z2, z3, z4, _⟩ := hsc
  have hnone : firstB s p = none := by
    cases hf : firstB s p with
    | none => rfl
    | some t =>
      obtain ⟨g1, e, g2, g3, g4, _⟩ := firstB_some hf
      have hsz : t.size ≤ 300 := by unfold plainB at g1; simp only [Bool.and_eq_true, decide_eq_true_eq] at g1; exact g1.2
      have := frameB_size t hsz
      obtain ⟨q1, q2, q3⟩ := idx_some g2
      have : e < 321 := by omega
      exact absurd (List.mem_of_getElem? (i := e) (by rw [List.getElem?_take, if_pos this]; exact q3)) z2
  rw [firstR_none hnone]
  refine (l3_fail s p ((p + 321 : Nat) : Int) ((p + f : Nat) : Int)).up fun j hj => ?_
  simp only [spec_l3First.j1]
  rw [if_neg (by decide), if_neg (by omega), if_pos (by omega), if_pos (by omega), bt_get s (p + 321) hlt, if_neg (fun e => hc (ten_eq e))]
  exact hj
theorem l3_few (s : ByteArray) (hs : s.size ≤ 1000000000) (p i b f : Nat) (hsc : Scan (s.data.toList.drop p) i b f) (hlt : p + i < s.data.toList.length) (hc : s.data.toList[p + i] = 10) (hb : b < 2) :
    LG fun k => spec_l3First.j1 k s (p : Int) ((p + i : Nat) : Int) (b : Int) ((p + f : Nat) : Int) false = some (firstR s p) := by
  have hl := size_len s
  have hget : (s.data.toList.drop p)[i]? = some (s.data.toList[p + i]) := by rw [List.getElem?_drop, List.getElem?_eq_getElem hlt]
  have hix : idx 10 (s.data.toList.drop p) = some i := idx_of hsc.2.1 (by rw [hget, hc])
  have hnone : firstB s p = none := by
    unfold firstB
    rw [hix]
    simp only [Option.bind_some]
    rw [hsc.at_end, if_pos hb]; rfl
  rw [firstR_none hnone]
  refine (l3_fail s p ((p + i : Nat) : Int) ((p + f : Nat) : Int)).up fun j hj => ?_
  simp only [spec_l3First.j1]
  rw [if_neg (by decide), if_neg (by omega), if_pos (by omega), if_pos (by omega), bt_get s (p + i) hlt, hc, if_pos ten_cast, decide_eq_true (by omega)]
  exact hj
theorem l3_text (s : ByteArray) (hs : s.size ≤ 1000000000) (p i f : Nat) (hsc : Scan (s.data.toList.drop p) i 2 f) (hlt : p + i < s.data.toList.length) (hc : s.data.toList[p + i] = 10) :
    LG fun k => spec_l3First.j2 k s (p : Int) ((p + i : Nat) : Int) ((p + f : Nat) : Int) false = some (firstR s p) := by
  have hl := size_len s
  have hget : (s.data.toList.drop p)[i]? = some (s.data.toList[p + i]) := by rw [List.getElem?_drop, List.getElem?_eq_getElem hlt]
  have hix : idx 10 (s.data.toList.drop p) = some i := idx_of hsc.2.1 (by rw [hget, hc])
  have z4 := hsc.2.2.2.1
  have htx : s.extract (p + f) (p + i) = ⟨(((s.data.toList.drop p).take i).drop f).toArray⟩ := ba_ext (by
    rw [ext_list s _ _ (by omega), show p + i - (p + f) = i - f by omega]
    simp [List.drop_take, List.drop_drop])
  have hw : s.extract p (p + i + 1) = ⟨((s.data.toList.drop p).take i ++ [10]).toArray⟩ := ba_ext (by
    rw [ext_list s _ _ (by omega), show p + i + 1 - p = i + 1 by omega, List.take_add_one, hget, hc]; simp)
  obtain ⟨t, htt⟩ : ∃ t : ByteArray, t = ⟨(((s.data.toList.drop p).take i).drop f).toArray⟩ := ⟨_, rfl⟩
  rw [← htt] at htx
  have hts : t.size ≤ s.size := by rw [← htx, ByteArray.size_extract]; omega
  have hfirst : firstB s p = if plainB t = true ∧ (frameB t).data.toList = (s.data.toList.drop p).take i ++ [10] then some t else none := by
    unfold firstB
    rw [hix]
    simp only [Option.bind_some]
    rw [hsc.at_end, if_neg (by omega)]
    simp only [Option.bind_some]
    rw [← htt]
  have hcond : ((frameB t).toList = (s.extract p (p + i + 1)).toList) ↔ (frameB t).data.toList = (s.data.toList.drop p).take i ++ [10] := by
    rw [toList_eq, toList_eq, hw]
  have hyes : plainB t = true → (frameB t).data.toList = (s.data.toList.drop p).take i ++ [10] → firstR s p = (t, ((p + i : Nat) : Int) + 1) := by
    intro h1 h2
    have hfs : (frameB t).size = i + 1 := by rw [← size_len, h2, List.length_append, List.length_take, List.length_drop, List.length_singleton]; omega
    unfold firstR
    rw [hfirst, if_pos ⟨h1, h2⟩]
    simp only [Prod.mk.injEq, true_and]
    omega
  have hno : ¬ (plainB t = true ∧ (frameB t).data.toList = (s.data.toList.drop p).take i ++ [10]) → firstR s p = ((⟨#[]⟩ : ByteArray), (p : Int)) := by
    intro h
    exact firstR_none (by rw [hfirst, if_neg h])
  refine ((l3Plain_eq t (by omega)).and (l3Frame_eq t (by omega))).up fun j ⟨g1, g2⟩ => ?_
  simp only [spec_l3First.j2]
  rw [if_neg (by decide), if_pos (by omega), if_pos (by omega), if_pos (by omega), Int.toNat_natCast, Int.toNat_natCast, htx, g1]
  simp only [Option.bind_some]
  by_cases hp1 : plainB t = true
  · rw [if_pos hp1, g2, Option.bind_some]
    rw [w64 (n := ((p + i : Nat) : Int) + 1) (by omega) (by omega), if_pos (by omega), if_pos (by omega), if_pos (by omega), show (((p + i : Nat) : Int) + 1).toNat = p + i + 1 by omega, Int.toNat_natCast]
    by_cases hfr : (frameB t).data.toList = (s.data.toList.drop p).take i ++ [10]
    · rw [if_pos (hcond.2 hfr), hyes hp1 hfr]
    · rw [if_neg (fun e => hfr (hcond.1 e)), hno (fun e => hfr e.2)]
  · rw [if_neg hp1, hno (fun e => hp1 e.1)]
theorem l3_nl (s : ByteArray) (hs : s.size ≤ 1000000000) (p i b f : Nat) (hsc : Scan (s.data.toList.drop p) i b f) (hlt : p + i < s.data.toList.length) (hc : s.data.toList[p + i] = 10) :
    LG fun k => spec_l3First.j1 k s (p : Int) ((p + i : Nat) : Int) (b : Int) ((p + f : Nat) : Int) false = some (firstR s p) := by
  by_cases hb : b < 2
  · exact l3_few s hs p i b f hsc hlt hc hb
  · obtain rfl : b = 2 := by have := hsc.2.2.1; omega
    have hl := size_len s
    refine (l3_text s hs p i f hsc hlt hc).up fun j hj => ?_
    simp only [spec_l3First.j1]
    rw [if_neg (by decide), if_neg (by omega), if_pos (by omega), if_pos (by omega), bt_get s (p + i) hlt, hc, if_pos ten_cast, decide_eq_false (by omega)]
    exact hj
theorem l3First_l0 (s : ByteArray) (hs : s.size ≤ 1000000000) (p : Nat) (hp : p ≤ s.size) (d : Nat) : ∀ i b f : Nat, Scan (s.data.toList.drop p) i b f → i ≤ 321 → s.size - (p + i) = d →
    LG fun k => spec_l3First.l0 k s (p : Int) ((p + i : Nat) : Int) (b : Int) ((p + f : Nat) : Int) = some (firstR s p) := by
  have hl := size_len s
  have hll : (s.data.toList.drop p).length = s.size - p := by rw [List.length_drop, hl]
  induction d with
  | zero =>
    intro i b f hsc hi hd
    have : p + i = s.size := by have := hsc.1; omega
    refine (l3_end s hs p i b f hsc this).up fun j hj => ?_
    simp only [spec_l3First.l0]
    rw [if_neg (by omega)]
    exact hj
  | succ d ih =>
    intro i b f hsc hi hd
    have hlt : p + i < s.data.toList.length := by omega
    have hlt' : i < (s.data.toList.drop p).length := by omega
    have hget : (s.data.toList.drop p)[i] = s.data.toList[p + i] := by rw [List.getElem_drop]
    by_cases hc : s.data.toList[p + i] = 10
    · refine (l3_nl s hs p i b f hsc hlt hc).up fun j hj => ?_
      simp only [spec_l3First.l0]
      rw [if_pos (by omega), if_pos (by omega), bt_get s (p + i) hlt, hc, if_pos ten_cast]
      exact hj
    · have hcn : ¬ ((s.data.toList[p + i]).toNat : Int) = 10 := fun e => hc (ten_eq e)
      by_cases h321 : 321 = i
      · subst h321
        refine (l3_far s hs p b f hsc hlt hc).up fun j hj => ?_
        simp only [spec_l3First.l0]
        rw [if_pos (by omega), if_pos (by omega), bt_get s (p + 321) hlt, if_neg hcn, w64 (n := ((p + 321 : Nat) : Int) - p) (by omega) (by omega), decide_eq_false (by omega)]
        exact hj
      · have go : ∀ b' f' : Nat, Scan (s.data.toList.drop p) (i + 1) b' f' → (∀ j, spec_l3First.l0 j s (p : Int) ((p + (i + 1) : Nat) : Int) (b' : Int) ((p + f' : Nat) : Int) = some (firstR s p) → spec_l3First.j1 (j + 1) s (p : Int) ((p + i : Nat) : Int) (b : Int) ((p + f : Nat) : Int) true = some (firstR s p)) → LG fun k => spec_l3First.l0 k s (p : Int) ((p + i : Nat) : Int) (b : Int) ((p + f : Nat) : Int) = some (firstR s p) := by
          intro b' f' hsc' hstep
          have g : LG fun k => spec_l3First.j1 k s (p : Int) ((p + i : Nat) : Int) (b : Int) ((p + f : Nat) : Int) true = some (firstR s p) := (ih (i + 1) b' f' hsc' (by omega) (by omega)).up fun j hj => hstep j hj
          refine g.up fun j hj => ?_
          simp only [spec_l3First.l0]
          rw [if_pos (by omega), if_pos (by omega), bt_get s (p + i) hlt, if_neg hcn, w64 (n := ((p + i : Nat) : Int) - p) (by omega) (by omega), decide_eq_true (by omega)]
          exact hj
        by_cases h32 : s.data.toList[p + i] = 32
        · by_cases hb : b < 2
          · refine go (b + 1) (i + 1) (hsc.blank hlt' (by rw [hget, h32]) hb) fun j hj => ?_
            simp only [spec_l3First.j1]
            rw [if_pos trivial, if_pos (by omega), if_pos (by omega), bt_get s (p + i) hlt, h32, if_pos blank_cast, if_pos (by omega), w64 (n := ((p + i : Nat) : Int) + 1) (by omega) (by omega), w64 (n := (b : Int) + 1) (by omega) (by omega)]
            exact hj
          · refine go b f (hsc.more hlt' (by rw [hget]; exact hc) (.inr hb)) fun j hj => ?_
            simp only [spec_l3First.j1]
            rw [if_pos trivial, if_pos (by omega), if_pos (by omega), bt_get s (p + i) hlt, h32, if_pos blank_cast, if_neg (by omega), w64 (n := ((p + i : Nat) : Int) + 1) (by omega) (by omega)]
            exact hj
        · refine go b f (hsc.more hlt' (by rw [hget]; exact hc) (.inl (by rw [hget]; exact h32))) fun j hj => ?_
          simp only [spec_l3First.j1]
          rw [if_pos trivial, if_pos (by omega), if_pos (by omega), bt_get s (p + i) hlt, if_neg (fun e => h32 (blank_eq e)), w64 (n := ((p + i : Nat) : Int) + 1) (by omega) (by omega)]
          exact hj
theorem l3First_eq (s : ByteArray) (hs : s.size ≤ 1000000000) (p : Nat) (hp : p ≤ s.size) : LG fun k => spec_l3First.f k s (p : Int) = some (firstR s p) :=
  l3First_l0 s hs p hp (s.size - p) 0 0 0 (Scan.zero _) (by omega) (by omega)
theorem spec_FramesIn_l0 (s : ByteArray) (hs : s.size ≤ 20000) (f : Nat) : ∀ (acc : List ByteArray) (p : Nat), p ≤ s.size → s.size - p < f → acc.length + (s.size - p) ≤ 1000000 →
    LG fun k => spec_FramesIn.l0 k s acc (p : Int) = some (acc ++ (framesB s f p).1, ((framesB s f p).2 : Int)) := by
  induction f with
  | zero => intro acc p h1 h2; omega
  | succ f ih =>
    intro acc p h1 h2 h3
    have hF := l3First_eq s (by omega) p h1
    cases hf : firstB s p with
    | none =>
      refine hF.up fun j hj => ?_
      simp only [spec_FramesIn.l0]
      rw [if_pos (by omega), hj]
      unfold framesB firstR
      rw [hf]
      simp
    | some t =>
      have hle := firstB_le h1 hf
      have hpos := frameB_pos t
      refine ((ih (acc ++ [t]) (p + (frameB t).size) hle (by omega) (by simp; omega)).and hF).up fun j ⟨g, hj⟩ => ?_
      simp only [spec_FramesIn.l0]
      rw [if_pos (by omega), hj]
      unfold framesB firstR
      rw [hf]
      simp only [Option.bind_some]
      rw [if_neg (by omega), if_pos (by omega), g]
      simp
def framesR (s : ByteArray) : List ByteArray × Nat := if s.size ≤ 20000 then framesOf s else ([], 0)
theorem spec_FramesIn_eq (s : ByteArray) : LG fun k => spec_FramesIn.f k s = some ((framesR s).1, ((framesR s).2 : Int)) := by
  unfold framesR
  by_cases h : s.size ≤ 20000
  · rw [if_pos h]
    exact (spec_FramesIn_l0 s h (s.size + 1) [] 0 (by omega) (by omega) (by simp; omega)).mono fun k hk => by unfold spec_FramesIn.f; simpa [framesOf] using hk
  · rw [if_neg h]
    refine LG.step fun j => ?_
    unfold spec_FramesIn.f
    simp only [spec_FramesIn.l0]
    rw [if_neg (by omega)]
    rfl
end Go.Proofs.YtmgcmclcphfogaaDoor.B
namespace Go.Proofs.YtmgcmclcphfogaaDoor.B
open Go Go.RowKit Go.Proofs.YtmgcmclcphfogaaDoorW.PrintWords Go.Proofs.YtmgcmclcphfogaaDoorW.PrintLast Go.Proofs.YtmgcmclcphfogaaDoorW.PrintMore Go.Proofs.YtmgcmclcphfogaaDoor.PX Go.Proofs.YtmgcmclcphfogaaDoor.B
theorem map_third {xs : List ByteArray} {a b t : List UInt8} (h : xs.map (·.data.toList) = [a, b, t]) : xs.length = 3 ∧ rdOf ByteArray.empty xs 2 = ⟨t.toArray⟩ := by
  match xs, h with
  | [x, y, z], h =>
    simp only [List.map_cons, List.map_nil, List.cons.injEq, and_true] at h
    exact ⟨rfl, ba_ext (by rw [show rdOf ByteArray.empty [x, y, z] 2 = z from rfl]; simpa using h.2.2)⟩
theorem splitN_some {l : ByteArray} {t : List UInt8} (h : after 2 l.data.toList = some t) : (Lib.splitB ⟨#[32]⟩ 0 (min (3 : Int).toNat (l.size + 1) - 1) l).length = 3 ∧ rdOf ByteArray.empty (Lib.splitB ⟨#[32]⟩ 0 (min (3 : Int).toNat (l.size + 1) - 1) l) 2 = ⟨t.toArray⟩ := by
  have hl := size_len l
  have h2 : 2 ≤ l.data.toList.length := by
    rcases Nat.lt_or_ge l.data.toList.length 2 with g | g
    · rw [after_short (by omega)] at h; cases h
    · exact g
  have e : min (3 : Int).toNat (l.size + 1) - 1 = 2 := by omega
  rw [e]
  obtain ⟨a, b, hk⟩ := splitK_some h
  exact map_third (by rw [Lib.splitB_data]; exact hk)
theorem splitN_none {l : ByteArray} (h : after 2 l.data.toList = none) : (Lib.splitB ⟨#[32]⟩ 0 (min (3 : Int).toNat (l.size + 1) - 1) l).length ≤ 2 := by
  by_cases h2 : 2 ≤ l.size
  · have e : min (3 : Int).toNat (l.size + 1) - 1 = 2 := by omega
    rw [e]
    have := congrArg List.length (Lib.splitB_data ⟨#[32]⟩ 0 2 l)
    rw [List.length_map] at this
    rw [this]
    exact splitK_none h
  · have := Lib.splitB_length_le ⟨#[32]⟩ 0 (min (3 : Int).toNat (l.size + 1) - 1) l
    omega
theorem framedB_eq {t : ByteArray} {w : List UInt8} : (framedB t).data.toList = w ++ [10] ↔ plainB t = true ∧ (frameB t).data.toList = w ++ [10] := by
  unfold framedB
  by_cases h : plainB t = true
  · rw [if_pos h]; exact ⟨fun g => ⟨h, g⟩, fun g => g.2⟩
  · rw [if_neg h]; exact ⟨fun g => by simp at g, fun g => absurd g.1 h⟩
theorem impl_framesIn_l0 (s : ByteArray) (hs : s.size ≤ 1000000000) (f : Nat) : ∀ (acc : List ByteArray) (p : Nat), p ≤ s.size → s.size - p < f → acc.length + (s.size - p) ≤ 2000000000 →
    LG fun k => impl_framesIn.l0 k s acc (p : Int) = some (acc ++ (framesB s f p).1, ((framesB s f p).2 : Int)) := by
  have hl := size_len s
  induction f with
  | zero => intro acc p h1 h2; omega
  | succ f ih =>
    intro acc p h1 h2 h3
    have hx : (s.extract p s.size).data.toList = s.data.toList.drop p := by
      rw [ext_list s _ _ (Nat.le_refl _), List.take_of_length_le (by rw [List.length_drop]; omega)]
    have hxs : (s.extract p s.size).size < 4294967281 := by rw [ByteArray.size_extract]; omega
    have hcut : ∀ e, idx 10 (s.data.toList.drop p) = some e → strings_Cut.f (s.extract p s.size) (⟨#[10]⟩ : ByteArray) = some (⟨((s.data.toList.drop p).take e).toArray⟩, ⟨((s.data.toList.drop p).drop (e + 1)).toArray⟩, true) := by
      intro e he
      unfold strings_Cut.f Lib.cut
      rw [if_pos hxs, hx, show (⟨#[10]⟩ : ByteArray).data.toList = [10] from rfl, index_idx, he]
      simp only []
      rw [if_pos (show (0 : Int) ≤ (e : Int) by omega)]
      simp
    have hcutn : idx 10 (s.data.toList.drop p) = none → strings_Cut.f (s.extract p s.size) (⟨#[10]⟩ : ByteArray) = some (s.extract p s.size, ⟨#[]⟩, false) := by
      intro he
      unfold strings_Cut.f Lib.cut
      rw [if_pos hxs, hx, show (⟨#[10]⟩ : ByteArray).data.toList = [10] from rfl, index_idx, he]
      simp only []
      rw [if_neg (by decide)]
      simp only [Option.some.injEq, Prod.mk.injEq, and_true]
      exact ba_ext (by simpa using hx.symm)
    have hspl : ∀ l : ByteArray, l.size ≤ s.size → strings_SplitN.f l (⟨#[32]⟩ : ByteArray) 3 = some (Lib.splitB ⟨#[32]⟩ 0 (min (3 : Int).toNat (l.size + 1) - 1) l) := by
      intro l hle
      unfold strings_SplitN.f
      rw [if_pos (by omega), if_pos (by decide), if_pos (by decide), if_pos (by decide)]
    cases hix : idx 10 (s.data.toList.drop p) with
    | none =>
      have hnone : firstB s p = none := by unfold firstB; rw [hix]; rfl
      refine LG.step fun j => ?_
      simp only [impl_framesIn.l0]
      rw [if_pos (by omega), if_pos (by omega), Int.toNat_natCast, hcutn hix]
      simp only [Option.bind_some]
      rw [hspl _ (by rw [ByteArray.size_extract]; omega)]
      simp only [Option.bind_some]
      rw [if_neg (by decide)]
      unfold framesB
      rw [hnone]
      simp
    | some e =>
      obtain ⟨q1, q2, q3⟩ := idx_some hix
      rw [List.length_drop] at q1
      generalize hline : (⟨((s.data.toList.drop p).take e).toArray⟩ : ByteArray) = line at *
      have hld : line.data.toList = (s.data.toList.drop p).take e := by rw [← hline]
      have hls : line.size = e := by rw [← size_len, hld, List.length_take, List.length_drop]; omega
      cases haf : after 2 line.data.toList with
      | none =>
        have hnone : firstB s p = none := by unfold firstB; rw [hix]; simp only [Option.bind_some]; rw [← hld, haf]; rfl
        have := splitN_none haf
        refine LG.step fun j => ?_
        simp only [impl_framesIn.l0]
        rw [if_pos (by omega), if_pos (by omega), Int.toNat_natCast, hcut e hix, hline]
        simp only [Option.bind_some]
        rw [hspl _ (by omega)]
        simp only [Option.bind_some]
        rw [if_pos trivial, if_neg (by omega)]
        unfold framesB
        rw [hnone]
        simp
      | some t =>
        obtain ⟨hs3, hs2⟩ := splitN_some haf
        have hts : t.length ≤ e := by
          have : ∀ (n : Nat) (l u : List UInt8), after n l = some u → u.length ≤ l.length := by
            intro n l
            induction l generalizing n with
            | nil => intro u hu; cases n with
              | zero => simp only [after, Option.some.injEq] at hu; rw [hu]; exact Nat.le_refl _
              | succ n => simp [after] at hu
            | cons c l ih2 => intro u hu; cases n with
              | zero => simp only [after, Option.some.injEq] at hu; rw [hu]; exact Nat.le_refl _
              | succ n =>
                rw [after_cons] at hu
                split at hu
                · have := ih2 n u hu; simp; omega
                · have := ih2 (n + 1) u hu; simp; omega
          have := this 2 _ _ haf
          rw [hld, List.length_take] at this
          omega
        have hfr := impl_framed_eq ⟨t.toArray⟩ (by rw [← size_len]; simp; omega)
        have hfirst : firstB s p = if plainB ⟨t.toArray⟩ = true ∧ (frameB ⟨t.toArray⟩).data.toList = line.data.toList ++ [10] then some ⟨t.toArray⟩ else none := by
          unfold firstB
          rw [hix]
          simp only [Option.bind_some]
          rw [← hld, haf]
          rfl
        by_cases hc : plainB ⟨t.toArray⟩ = true ∧ (frameB ⟨t.toArray⟩).data.toList = line.data.toList ++ [10]
        · rw [if_pos hc] at hfirst
          have hle := firstB_le h1 hfirst
          have hfs : (frameB ⟨t.toArray⟩).size = e + 1 := by rw [← size_len, hc.2, List.length_append, size_len, hls]; rfl
          refine ((ih (acc ++ [⟨t.toArray⟩]) (p + (frameB ⟨t.toArray⟩).size) hle (by omega) (by simp; omega)).and hfr).up fun j ⟨g, hj⟩ => ?_
          simp only [impl_framesIn.l0]
          rw [if_pos (by omega), if_pos (by omega), Int.toNat_natCast, hcut e hix, hline]
          simp only [Option.bind_some]
          rw [hspl _ (by omega)]
          simp only [Option.bind_some]
          rw [if_pos trivial, if_pos (by omega), if_pos (by omega), hs2, hj]
          simp only [Option.bind_some]
          rw [if_pos (by omega), if_pos ((toList_inj _ _).2 (ba_ext (by rw [app_data]; exact framedB_eq.2 hc))), if_pos (by omega), w64 (n := (line.size : Int) + 1) (by omega) (by omega), w64 (by omega) (by omega)]
          rw [show ((p : Int) + ((line.size : Int) + 1)) = ((p + (frameB ⟨t.toArray⟩).size : Nat) : Int) by omega, g]
          conv => rhs; unfold framesB
          rw [hfirst]
          simp
        · rw [if_neg hc] at hfirst
          refine hfr.up fun j hj => ?_
          simp only [impl_framesIn.l0]
          rw [if_pos (by omega), if_pos (by omega), Int.toNat_natCast, hcut e hix, hline]
          simp only [Option.bind_some]
          rw [hspl _ (by omega)]
          simp only [Option.bind_some]
          rw [if_pos trivial, if_pos (by omega), if_pos (by omega), hs2, hj]
          simp only [Option.bind_some]
          rw [if_pos (by omega), if_neg (fun g => hc (framedB_eq.1 (by rw [(toList_inj _ _).1 g, app_data])))]
          unfold framesB
          rw [hfirst]
          simp
theorem impl_framesIn_eq (s : ByteArray) (hs : s.size ≤ 1000000000) : LG fun k => impl_framesIn.f k s = some ((framesOf s).1, ((framesOf s).2 : Int)) :=
  (impl_framesIn_l0 s hs (s.size + 1) [] 0 (by omega) (by omega) (by simp; omega)).mono fun k hk => by unfold impl_framesIn.f; simpa [framesOf] using hk
theorem impl_FramesIn_eq (s : ByteArray) (hs : s.size ≤ 1000000000) : LG fun k => impl_FramesIn.f k s = some ((framesR s).1, ((framesR s).2 : Int)) := by
  refine (impl_framesIn_eq s hs).mono fun k hk => ?_
  unfold impl_FramesIn.f framesR
  by_cases h : s.size ≤ 20000
  · rw [if_neg (by omega), hk, if_pos h]; rfl
  · rw [if_pos (by omega), if_neg h]; rfl
end Go.Proofs.YtmgcmclcphfogaaDoor.B
namespace Go.Proofs.YtmgcmclcphfogaaDoor.B
open Go Go.RowKit Go.Proofs.YtmgcmclcphfogaaDoorW.PrintWords Go.Proofs.YtmgcmclcphfogaaDoorW.PrintLast Go.Proofs.YtmgcmclcphfogaaDoorW.PrintMore Go.Proofs.YtmgcmclcphfogaaDoor.PX Go.Proofs.YtmgcmclcphfogaaDoor.B
theorem framesB_le (s : ByteArray) : ∀ (f p : Nat), p ≤ s.size → (framesB s f p).2 ≤ s.size
  | 0, p, h => h
  | f + 1, p, h => by
    unfold framesB
    cases hf : firstB s p with
    | none => exact h
    | some t => exact framesB_le s f _ (firstB_le h hf)
theorem framesOf_le (s : ByteArray) : (framesOf s).2 ≤ s.size := framesB_le s _ 0 (by omega)
/-- a file with one frame more; whether there was room -/
def appendedB (f s : ByteArray) : ByteArray × Bool :=
  if framedB s = ⟨#[]⟩ ∨ f.size > 20000 ∨ (framesOf f).2 + (framedB s).size > 20000 then (f, false) else (f.extract 0 (framesOf f).2 ++ framedB s, true)
theorem framedB_size (s : ByteArray) : (framedB s).size ≤ 311 := by
  unfold framedB
  split
  · rename_i h
    unfold plainB at h
    simp only [Bool.and_eq_true, decide_eq_true_eq] at h
    have := frameB_size s h.2
    omega
  · decide
theorem empty_toList (s : ByteArray) : s.toList = ([] : List UInt8) ↔ s = ⟨#[]⟩ := by
  rw [toList_eq]
  constructor
  · intro h; exact ba_ext (by simpa using h)
  · rintro rfl; rfl
theorem spec_Appended_eq (f s : ByteArray) (hf : f.size ≤ 1000000000) (hs : s.size ≤ 1000000000) : LG fun k => spec_Appended.f k f s = some (appendedB f s) := by
  have hz := framedB_size s
  have hl := framesOf_le f
  refine ((spec_Framed_eq s hs).and (spec_FramesIn_eq f)).mono fun k ⟨h1, h2⟩ => ?_
  unfold spec_Appended.f appendedB
  rw [h1, Option.bind_some, h2, Option.bind_some]
  by_cases c1 : framedB s = ⟨#[]⟩
  · rw [if_pos ((empty_toList _).2 c1), if_pos (.inl c1)]
  · rw [if_neg (fun e => c1 ((empty_toList _).1 e))]
    by_cases c2 : f.size > 20000
    · rw [if_pos (by omega), if_pos (.inr (.inl c2))]
    · rw [if_neg (by omega)]
      have hR : framesR f = framesOf f := by unfold framesR; rw [if_pos (by omega)]
      rw [hR]
      simp only []
      rw [w64 (by omega) (by omega)]
      by_cases c3 : (framesOf f).2 + (framedB s).size > 20000
      · rw [if_pos (by omega), if_pos (.inr (.inr c3))]
      · rw [if_neg (by omega), if_pos (by omega), if_pos (by omega), Int.toNat_natCast, if_pos (by rw [ByteArray.size_extract]; omega), if_neg (by rintro (h | h | h) <;> contradiction)]
theorem impl_Appended_eq (f s : ByteArray) (hf : f.size ≤ 1000000000) (hs : s.size ≤ 1000000000) : LG fun k => impl_Appended.f k f s = some (appendedB f s) := by
  have hz := framedB_size s
  have hl := framesOf_le f
  have hno : LG fun k => impl_Appended.j0 k f (framedB s) true = some (f, false) := LG.step fun j => by simp only [impl_Appended.j0]; rw [if_pos trivial]
  have hyes : LG fun k => impl_Appended.j0 k f (framedB s) false = some (if (framesOf f).2 + (framedB s).size > 20000 then (f, false) else (f.extract 0 (framesOf f).2 ++ framedB s, true)) := by
    refine (impl_framesIn_eq f hf).up fun k h2 => ?_
    simp only [impl_Appended.j0]
    rw [if_neg (by decide), h2, Option.bind_some, w64 (by omega) (by omega)]
    by_cases c3 : (framesOf f).2 + (framedB s).size > 20000
    · rw [if_pos (by omega), if_pos c3]
    · rw [if_neg (by omega), if_pos (by omega), if_pos (by omega), Int.toNat_natCast, if_pos (by rw [ByteArray.size_extract]; omega), if_neg c3]
  refine ((hno.and hyes).and (impl_framed_eq s hs)).mono fun k ⟨⟨h1, h2⟩, h3⟩ => ?_
  unfold impl_Appended.f appendedB
  rw [h3, Option.bind_some]
  by_cases c1 : framedB s = ⟨#[]⟩
  · rw [if_pos ((empty_toList _).2 c1), if_pos (.inl c1), h1]
  · rw [if_neg (fun e => c1 ((empty_toList _).1 e))]
    by_cases c2 : f.size > 20000
    · rw [decide_eq_true (by omega), h1, if_pos (.inr (.inl c2))]
    · rw [decide_eq_false (by omega), h2]
      by_cases c3 : (framesOf f).2 + (framedB s).size > 20000
      · rw [if_pos c3, if_pos (.inr (.inr c3))]
      · rw [if_neg c3, if_neg (by rintro (h | h | h) <;> contradiction)]
end Go.Proofs.YtmgcmclcphfogaaDoor.B
namespace Go.Proofs.YtmgcmclcphfogaaDoor.Pure
open Go Go.RowKit Go.Proofs.YtmgcmclcphfogaaDoorW.PrintWords Go.Proofs.YtmgcmclcphfogaaDoorW.PrintLast Go.Proofs.YtmgcmclcphfogaaDoorW.PrintMore Go.Proofs.YtmgcmclcphfogaaDoor.PX Go.Proofs.YtmgcmclcphfogaaDoor.B
theorem FnExactAppended : FnExactAppended_Pure := by
  intro f s hf hs
  by_cases h1 : f.size ≤ 1048576
  · by_cases h2 : s.size ≤ 1048576
    · obtain ⟨k, g1, g2⟩ := ((spec_Appended_eq f s (by omega) (by omega)).and (impl_Appended_eq f s (by omega) (by omega))).rounds
      refine ⟨k, ?_⟩
      unfold laws_FnExactAppended.f
      rw [if_neg (by omega), if_neg (by omega), g1, Option.bind_some, g2, Option.bind_some, if_pos rfl, bne_self_eq_false, if_neg (by decide)]
    · refine ⟨0, ?_⟩
      unfold laws_FnExactAppended.f
      rw [if_neg (by omega), if_pos (by omega)]
  · refine ⟨0, ?_⟩
    unfold laws_FnExactAppended.f
    rw [if_pos (by omega)]
end Go.Proofs.YtmgcmclcphfogaaDoor.Pure
