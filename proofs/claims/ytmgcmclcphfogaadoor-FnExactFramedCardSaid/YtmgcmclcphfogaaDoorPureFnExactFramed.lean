import Derived.Test.YtmgcmclcphfogaaDoorPXx0
import Derived.Test.YtmgcmclcphfogaaDoorPXx2
import Derived.Test.YtmgcmclcphfogaaDoorPXx3
import Derived.Test.YtmgcmclcphfogaaDoorPXx9
import Derived.Test.YtmgcmclcphfogaaDoorPXx10
import Derived.Test.YtmgcmclcphfogaaDoorPXx11
import Derived.Test.YtmgcmclcphfogaaDoorStFnExactFramed
import Derived.Lib.ItoaNum
import Derived.Lib.Split
import Derived.Lib.IndexMore
import Derived.Test.YtmgcmclcphfogaaDoorWMore
set_option linter.unusedVariables false
set_option linter.unusedSimpArgs false
namespace Go.Proofs.YtmgcmclcphfogaaDoor.B
open Go Go.RowKit Go.Proofs.YtmgcmclcphfogaaDoorW.PrintWords Go.Proofs.YtmgcmclcphfogaaDoorW.PrintLast Go.Proofs.YtmgcmclcphfogaaDoorW.PrintMore Go.Proofs.YtmgcmclcphfogaaDoor.PX
/-- From some number of rounds on. -/
def LG (p : Nat → Prop) : Prop := ∃ K, ∀ k, K ≤ k → p k
namespace LG
theorem all {p : Nat → Prop} (h : ∀ k, p k) : LG p := ⟨0, fun k _ => h k⟩
theorem step {p : Nat → Prop} (h : ∀ j, p (j + 1)) : LG p := ⟨1, fun k hk => by
  obtain ⟨j, rfl⟩ : ∃ j, k = j + 1 := ⟨k - 1, by omega⟩
  exact h j⟩
theorem and {p q : Nat → Prop} (h : LG p) (g : LG q) : LG fun k => p k ∧ q k := by
  obtain ⟨a, h⟩ := h
  obtain ⟨b, g⟩ := g
  exact ⟨max a b, fun k hk => ⟨h k (by omega), g k (by omega)⟩⟩
theorem mono {p q : Nat → Prop} (h : LG p) (g : ∀ k, p k → q k) : LG q := by
  obtain ⟨a, h⟩ := h
  exact ⟨a, fun k hk => g k (h k hk)⟩
/-- One round: what holds of j holds of j + 1 rounds. -/
theorem up {p q : Nat → Prop} (h : LG p) (g : ∀ j, p j → q (j + 1)) : LG q := by
  obtain ⟨a, h⟩ := h
  refine ⟨a + 1, fun k hk => ?_⟩
  obtain ⟨j, rfl⟩ : ∃ j, k = j + 1 := ⟨k - 1, by omega⟩
  exact g j (h j (by omega))
theorem rounds {p : Nat → Prop} (h : LG p) : ∃ k, p k := by
  obtain ⟨a, h⟩ := h
  exact ⟨a, h a (Nat.le_refl _)⟩
end LG
def I64 (n : Int) : Prop := -9223372036854775808 ≤ n ∧ n ≤ 9223372036854775807
theorem i64_of {n : Int} (h : (Lit.int .i64 n).wf = true) : I64 n := by
  simp only [Lit.wf, IntKind.min, IntKind.max, IntKind.signed, IntKind.bits, Bool.and_eq_true, decide_eq_true_eq, if_true] at h
  unfold I64
  omega
theorem w64 {n : Int} (h0 : -9223372036854775808 ≤ n) (h1 : n ≤ 9223372036854775807) : wrap64 n = n := by
  unfold wrap64
  omega
theorem bt_get (s : ByteArray) (i : Nat) (h : i < s.data.toList.length) : bt s (i : Int) = ((s.data.toList[i]).toNat : Int) := by
  have hs : (i : Int).toNat < s.size := by
    have : s.size = s.data.toList.length := by rw [Array.length_toList]; rfl
    omega
  unfold bt
  rw [dif_pos hs]
  rfl
theorem size_len (s : ByteArray) : s.data.toList.length = s.size := by rw [Array.length_toList]; rfl
end Go.Proofs.YtmgcmclcphfogaaDoor.B
namespace Go.Proofs.YtmgcmclcphfogaaDoor.B
open Go Go.RowKit Go.Proofs.YtmgcmclcphfogaaDoorW.PrintWords Go.Proofs.YtmgcmclcphfogaaDoorW.PrintLast Go.Proofs.YtmgcmclcphfogaaDoorW.PrintMore Go.Proofs.YtmgcmclcphfogaaDoor.PX Go.Proofs.YtmgcmclcphfogaaDoor.B
theorem getD_nat {α : Type} (xs : List α) (z : α) (i : Nat) (h : i < xs.length) : xs.getD (i : Int).toNat z = xs[i] := by
  rw [Int.toNat_natCast, List.getD_eq_getElem?_getD, List.getElem?_eq_getElem h]
  rfl
theorem set_take {α : Type} (xs : List α) (i : Nat) (v : α) (h : i < xs.length) : (xs.set i v).take (i + 1) = xs.take i ++ [v] := by
  rw [List.take_succ_eq_append_getElem (by simpa using h), List.take_set_of_le (Nat.le_refl i), List.getElem_set_self]
theorem take_map_succ {α β : Type} (f : α → β) (xs : List α) (i : Nat) (h : i < xs.length) : (xs.map f).take (i + 1) = (xs.map f).take i ++ [f xs[i]] := by
  rw [List.take_succ_eq_append_getElem (by simpa using h), List.getElem_map]
theorem take_all {α : Type} {xs ys : List α} {n : Nat} (hx : xs.length = n) (hy : ys.length = n) (h : xs.take n = ys.take n) : xs = ys := by
  rw [List.take_of_length_le (by omega), List.take_of_length_le (by omega)] at h
  exact h
theorem toList_eq (s : ByteArray) : s.toList = s.data.toList := by
  first | exact ByteArray.toList_eq s | simp
theorem toList_inj (s t : ByteArray) : s.toList = t.toList ↔ s = t := by
  rw [toList_eq, toList_eq]
  constructor
  · intro h
    obtain ⟨⟨l⟩⟩ := s
    obtain ⟨⟨m⟩⟩ := t
    simp at h
    rw [h]
  · rintro rfl
    rfl
end Go.Proofs.YtmgcmclcphfogaaDoor.B
namespace Go.Proofs.YtmgcmclcphfogaaDoor.B
open Go Go.RowKit Go.Proofs.YtmgcmclcphfogaaDoorW.PrintWords Go.Proofs.YtmgcmclcphfogaaDoorW.PrintLast Go.Proofs.YtmgcmclcphfogaaDoorW.PrintMore Go.Proofs.YtmgcmclcphfogaaDoor.PX Go.Proofs.YtmgcmclcphfogaaDoor.B
/-- the decimal text of a number -/
def itoaB (n : Int) : ByteArray := ⟨(Lib.itoa n).toArray⟩
theorem ba_ext {s t : ByteArray} (h : s.data.toList = t.data.toList) : s = t := by
  obtain ⟨⟨l⟩⟩ := s
  obtain ⟨⟨m⟩⟩ := t
  simp at h
  rw [h]
theorem app_data (s t : ByteArray) : (s ++ t).data.toList = s.data.toList ++ t.data.toList := by simp
theorem digit_data (d : Nat) (h : d < 10) : (strOfNums [((48 : Int) + d) % 256]).data.toList = [UInt8.ofNat (48 + d)] := by
  have e : ((48 : Int) + d) % 256 = ((48 + d : Nat) : Int) := by omega
  rw [e]
  show [UInt8.ofNat ((48 + d : Nat) : Int).toNat] = _
  rw [Int.toNat_natCast]
theorem decDigits_small {u : Nat} (h : u < 10) : Lib.decDigits u = [UInt8.ofNat (48 + u)] := by rw [Lib.decDigits, dif_pos h]
theorem decDigits_big {u : Nat} (h : ¬ u < 10) : Lib.decDigits u = Lib.decDigits (u / 10) ++ [UInt8.ofNat (48 + u % 10)] := by rw [Lib.decDigits, dif_neg h]
/-- what the loop adds ahead of the digits that are there -/
def decAcc (u : Nat) (s : List UInt8) : List UInt8 := if u = 0 ∧ s ≠ [] then s else Lib.decDigits u ++ s
theorem decAcc_step (u : Nat) (s : List UInt8) (h : s = [] ∨ u ≠ 0) : decAcc (u / 10) (UInt8.ofNat (48 + u % 10) :: s) = decAcc u s := by
  unfold decAcc
  rw [if_neg (show ¬ (u = 0 ∧ s ≠ []) from fun ⟨a, b⟩ => by rcases h with h | h <;> contradiction)]
  by_cases hu : u < 10
  · rw [if_pos ⟨by omega, by simp⟩, decDigits_small hu, Nat.mod_eq_of_lt hu]
    rfl
  · rw [if_neg (fun ⟨a, _⟩ => by omega), decDigits_big hu]
    simp
def sgn (neg : Bool) : List UInt8 := if neg = true then [45] else []
theorem l1Int_fin (s : ByteArray) (neg : Bool) (h : s.data.toList ≠ []) (hs : s.size ≤ 1000) : LG fun k => spec_l1Int.l0 k 0 s neg = some ⟨(sgn neg ++ s.data.toList).toArray⟩ := by
  have g : LG fun k => spec_l1Int.j1 k 0 s neg false = some ⟨(sgn neg ++ s.data.toList).toArray⟩ := by
    refine LG.step fun j => ?_
    simp only [spec_l1Int.j1]
    rw [if_neg (by decide)]
    cases neg with
    | true => rw [if_pos rfl, if_pos (by omega)]; exact congrArg some (ba_ext (by simp [sgn]))
    | false => rw [if_neg (by decide)]; exact congrArg some (ba_ext (by simp [sgn]))
  refine g.up fun j hj => ?_
  simp only [spec_l1Int.l0]
  rw [if_neg (by rw [toList_eq]; exact h)]
  simpa using hj
theorem l1Int_round (x : Int) (s : ByteArray) (neg : Bool) (hx : I64 x) (h : s.data.toList = [] ∨ x ≠ 0) (hs : s.size ≤ 1000) {r : ByteArray}
    (g : LG fun k => spec_l1Int.l0 k (Int.tdiv x 10) (strOfNums [((48 : Int) + (x.natAbs % 10 : Nat)) % 256] ++ s) neg = some r) : LG fun k => spec_l1Int.l0 k x s neg = some r := by
  have hd : wrap64 (Int.tdiv x 10) = Int.tdiv x 10 := by
    rcases Int.le_total 0 x with h0 | h0
    · rw [Int.tdiv_eq_ediv_of_nonneg h0]; unfold I64 at hx; exact w64 (by omega) (by omega)
    · obtain ⟨y, rfl⟩ : ∃ y : Int, x = -y := ⟨-x, by omega⟩
      rw [Int.neg_tdiv, Int.tdiv_eq_ediv_of_nonneg (by omega)]; unfold I64 at hx; exact w64 (by omega) (by omega)
  have hz : ∀ n : Int, (strOfNums [n]).size = 1 := fun _ => rfl
  have j1 : LG fun k => spec_l1Int.j1 k x s neg true = some r := by
    refine g.up fun j hj => ?_
    simp only [spec_l1Int.j1]
    rw [if_pos trivial]
    by_cases hn : Int.tmod x 10 < 0
    · have e : wrap64 (48 + wrap64 (-(Int.tmod x 10))) = (48 : Int) + (x.natAbs % 10 : Nat) := by
        have hx0 : x < 0 := by
          rcases Int.lt_or_le x 0 with h0 | h0
          · exact h0
          · rw [Int.tmod_eq_emod_of_nonneg h0] at hn; omega
        obtain ⟨y, rfl⟩ : ∃ y : Int, x = -y := ⟨-x, by omega⟩
        rw [Int.neg_tmod, Int.tmod_eq_emod_of_nonneg (by omega), Int.neg_neg, w64 (n := y % 10) (by omega) (by omega), w64 (by omega) (by omega)]
        omega
      rw [if_pos hn]
      simp only [Option.bind_some]
      rw [e, hz, if_pos (by omega), hd]
      exact hj
    · have e : wrap64 (48 + (Int.tmod x 10)) = (48 : Int) + (x.natAbs % 10 : Nat) := by
        rcases Int.le_total 0 x with h0 | h0
        · rw [Int.tmod_eq_emod_of_nonneg h0, w64 (by omega) (by omega)]; omega
        · obtain ⟨y, rfl⟩ : ∃ y : Int, x = -y := ⟨-x, by omega⟩
          rw [Int.neg_tmod, Int.tmod_eq_emod_of_nonneg (by omega)] at hn ⊢
          rw [w64 (by omega) (by omega)]; omega
      rw [if_neg hn]
      simp only [Option.bind_some]
      rw [e, hz, if_pos (by omega), hd]
      exact hj
  refine j1.up fun j hj => ?_
  simp only [spec_l1Int.l0]
  by_cases he : s.toList = []
  · rw [if_pos he]; exact hj
  · rw [if_neg he]
    have : (x != 0) = true := by
      rcases h with h | h
      · exact absurd (by rw [toList_eq]; exact h) he
      · simpa using h
    rw [this]; exact hj
theorem natAbs_tdiv10 (x : Int) : (Int.tdiv x 10).natAbs = x.natAbs / 10 := by
  rcases Int.le_total 0 x with h0 | h0
  · rw [Int.tdiv_eq_ediv_of_nonneg h0]; omega
  · obtain ⟨y, rfl⟩ : ∃ y : Int, x = -y := ⟨-x, by omega⟩
    rw [Int.neg_tdiv, Int.tdiv_eq_ediv_of_nonneg (by omega)]; omega
theorem l1Int_l0 (neg : Bool) (m : Nat) : ∀ (x : Int) (s : ByteArray), I64 x → x.natAbs < 10 ^ m → s.size + m ≤ 900 →
    LG fun k => spec_l1Int.l0 k x s neg = some ⟨(sgn neg ++ decAcc x.natAbs s.data.toList).toArray⟩ := by
  induction m with
  | zero =>
    intro x s hI hx hs
    obtain rfl : x = 0 := by simp at hx; omega
    by_cases he : s.data.toList = []
    · refine l1Int_round 0 s neg hI (.inl he) (by omega) ?_
      have := l1Int_fin (strOfNums [((48 : Int) + ((0 : Int).natAbs % 10 : Nat)) % 256] ++ s) neg (by rw [app_data, digit_data _ (by decide)]; simp) (by rw [ByteArray.size_append]; show 1 + _ ≤ _; omega)
      have e : decAcc (Int.natAbs 0) s.data.toList = (strOfNums [((48 : Int) + ((0 : Int).natAbs % 10 : Nat)) % 256] ++ s).data.toList := by
        rw [app_data, digit_data _ (by decide), he]; unfold decAcc; simp [decDigits_small]
      rw [e]; exact this
    · have e : decAcc (Int.natAbs 0) s.data.toList = s.data.toList := by unfold decAcc; rw [if_pos ⟨rfl, he⟩]
      rw [e]; exact l1Int_fin s neg he (by omega)
  | succ m ih =>
    intro x s hI hx hs
    by_cases he : s.data.toList ≠ [] ∧ x = 0
    · obtain ⟨he, rfl⟩ := he
      have e : decAcc (Int.natAbs 0) s.data.toList = s.data.toList := by unfold decAcc; rw [if_pos ⟨rfl, he⟩]
      rw [e]; exact l1Int_fin s neg he (by omega)
    · have h : s.data.toList = [] ∨ x ≠ 0 := by
        by_cases h1 : s.data.toList = []
        · exact .inl h1
        · exact .inr fun h2 => he ⟨h1, h2⟩
      refine l1Int_round x s neg hI h (by omega) ?_
      have hb : x.natAbs / 10 < 10 ^ m := by rw [Nat.pow_succ] at hx; omega
      have := ih (Int.tdiv x 10) (strOfNums [((48 : Int) + (x.natAbs % 10 : Nat)) % 256] ++ s) (by
        have hq := natAbs_tdiv10 x
        unfold I64 at hI ⊢
        omega) (by rw [natAbs_tdiv10]; exact hb) (by rw [ByteArray.size_append]; show 1 + _ + _ ≤ _; omega)
      rw [natAbs_tdiv10, app_data, digit_data _ (by omega)] at this
      rw [← decAcc_step x.natAbs s.data.toList (h.imp id (by omega))]
      exact this
theorem l1Int_eq (n : Int) (h : I64 n) : LG fun k => spec_l1Int.f k n = some (itoaB n) := by
  have := l1Int_l0 (decide (n < 0)) 20 n ⟨#[]⟩ h (by unfold I64 at h; omega) (by decide)
  have e : (⟨(sgn (decide (n < 0)) ++ decAcc n.natAbs []).toArray⟩ : ByteArray) = itoaB n := by
    unfold itoaB Lib.itoa decAcc sgn
    by_cases h0 : n < 0
    · simp [h0]
    · have : n.natAbs = n.toNat := by omega
      simp [h0, this]
  rw [← e]
  exact this
theorem decDigits_len (m : Nat) : ∀ u : Nat, u < 10 ^ (m + 1) → (Lib.decDigits u).length ≤ m + 1 := by
  induction m with
  | zero => intro u h; rw [decDigits_small (by simpa using h)]; simp
  | succ m ih =>
    intro u h
    by_cases hu : u < 10
    · rw [decDigits_small hu]; simp
    · rw [decDigits_big hu, List.length_append, List.length_singleton]
      have := ih (u / 10) (by rw [Nat.pow_succ] at h; omega)
      omega
theorem decDigits_pos (u : Nat) : 1 ≤ (Lib.decDigits u).length := by
  by_cases hu : u < 10
  · rw [decDigits_small hu]; simp
  · rw [decDigits_big hu]; simp
theorem itoaB_size (n : Int) (h : I64 n) : 1 ≤ (itoaB n).size ∧ (itoaB n).size ≤ 20 := by
  have e : (itoaB n).size = (Lib.itoa n).length := by rw [← size_len]; simp [itoaB]
  rw [e]
  unfold Lib.itoa
  unfold I64 at h
  split
  · have h1 := decDigits_len 18 n.natAbs (by omega)
    simp only [List.length_cons]
    omega
  · have h1 := decDigits_len 18 n.toNat (by omega)
    have h2 := decDigits_pos n.toNat
    omega
end Go.Proofs.YtmgcmclcphfogaaDoor.B
namespace Go.Proofs.YtmgcmclcphfogaaDoor.B
open Go Go.RowKit Go.Proofs.YtmgcmclcphfogaaDoorW.PrintWords Go.Proofs.YtmgcmclcphfogaaDoorW.PrintLast Go.Proofs.YtmgcmclcphfogaaDoorW.PrintMore Go.Proofs.YtmgcmclcphfogaaDoor.PX Go.Proofs.YtmgcmclcphfogaaDoor.B
def markStep (h : Int) (c : UInt8) : Int := (131 * h + (c.toNat : Int) + 1) % 65521
def markRun (h : Int) (l : List UInt8) : Int := l.foldl markStep h
def markOf (s : ByteArray) : Int := markRun 7 s.data.toList
theorem markStep_range (h : Int) (c : UInt8) : 0 ≤ markStep h c ∧ markStep h c < 65521 := by
  unfold markStep
  omega
theorem markRun_range (l : List UInt8) : ∀ h : Int, 0 ≤ h → h < 65521 → 0 ≤ markRun h l ∧ markRun h l < 65521 := by
  induction l with
  | nil => intro h h0 h1; exact ⟨h0, h1⟩
  | cons c l ih => intro h h0 h1; exact ih _ (markStep_range h c).1 (markStep_range h c).2
theorem mark_term (h : Int) (c : UInt8) (h0 : 0 ≤ h) (h1 : h < 65521) : Int.tmod (wrap64 ((wrap64 ((wrap64 (131 * h)) + (wrap64 (c.toNat : Int)))) + 1)) 65521 = markStep h c := by
  have hc := c.toNat_lt
  rw [w64 (n := 131 * h) (by omega) (by omega), w64 (n := (c.toNat : Int)) (by omega) (by omega), w64 (n := 131 * h + (c.toNat : Int)) (by omega) (by omega), w64 (by omega) (by omega)]
  unfold markStep
  rw [Int.tmod_eq_emod_of_nonneg (by omega)]
theorem markRun_at (l : List UInt8) (i : Nat) (h : i < l.length) (m : Int) : markRun m (l.drop i) = markRun (markStep m l[i]) (l.drop (i + 1)) := by
  rw [List.drop_eq_getElem_cons h]
  rfl
end Go.Proofs.YtmgcmclcphfogaaDoor.B
namespace Go.Proofs.YtmgcmclcphfogaaDoor.B
open Go Go.RowKit Go.Proofs.YtmgcmclcphfogaaDoorW.PrintWords Go.Proofs.YtmgcmclcphfogaaDoorW.PrintLast Go.Proofs.YtmgcmclcphfogaaDoorW.PrintMore Go.Proofs.YtmgcmclcphfogaaDoor.PX Go.Proofs.YtmgcmclcphfogaaDoor.B
/-- where a byte is for the first time -/
def idx (c : UInt8) : List UInt8 → Option Nat
  | [] => none
  | b :: l => if b = c then some 0 else (idx c l).map (· + 1)
theorem index_idx (c : UInt8) : ∀ l : List UInt8, Lib.index l [c] = match idx c l with | none => -1 | some i => (i : Int)
  | [] => rfl
  | b :: l => by
    have ih := index_idx c l
    unfold Lib.index idx
    by_cases h : b = c
    · subst h; simp [List.isPrefixOf]
    · have : ([c].isPrefixOf (b :: l)) = false := by simp [List.isPrefixOf]; exact fun e => h e.symm
      rw [this, if_neg h, ih]
      cases idx c l with
      | none => rfl
      | some i =>
        have : ((i : Int) == -1) = false := by rw [beq_eq_false_iff_ne]; omega
        simp [this]
theorem indexByte_idx (c : UInt8) : ∀ l : List UInt8, Lib.indexByte l c = match idx c l with | none => -1 | some i => (i : Int)
  | [] => rfl
  | b :: l => by
    have ih := indexByte_idx c l
    unfold Lib.indexByte idx
    by_cases h : b = c
    · subst h; simp
    · have : (b == c) = false := by simpa using h
      rw [this, if_neg h, ih]
      cases idx c l with
      | none => rfl
      | some i =>
        have : ((i : Int) == -1) = false := by rw [beq_eq_false_iff_ne]; omega
        simp [this]
theorem idx_none {c : UInt8} : ∀ {l : List UInt8}, idx c l = none → c ∉ l
  | [], _ => by simp
  | b :: l, h => by
    unfold idx at h
    by_cases hb : b = c
    · rw [if_pos hb] at h; cases h
    · rw [if_neg hb] at h
      have := idx_none (by simpa using h)
      simp only [List.mem_cons, not_or]
      exact ⟨fun e => hb e.symm, this⟩
theorem idx_some {c : UInt8} : ∀ {l : List UInt8} {i : Nat}, idx c l = some i → i < l.length ∧ c ∉ l.take i ∧ l[i]? = some c
  | [], _, h => by cases h
  | b :: l, i, h => by
    unfold idx at h
    by_cases hb : b = c
    · rw [if_pos hb] at h; cases h; subst hb; simp
    · rw [if_neg hb] at h
      obtain ⟨j, hj, rfl⟩ := Option.map_eq_some_iff.1 h
      obtain ⟨h1, h2, h3⟩ := idx_some hj
      refine ⟨by simpa using h1, ?_, by simpa using h3⟩
      rw [List.take_succ_cons, List.mem_cons, not_or]
      exact ⟨fun e => hb e.symm, h2⟩
theorem idx_not {c : UInt8} {l : List UInt8} (h : c ∉ l) : idx c l = none := by
  cases e : idx c l with
  | none => rfl
  | some i => exact absurd (List.mem_of_getElem? (idx_some e).2.2) h
theorem idx_of {c : UInt8} : ∀ {l : List UInt8} {i : Nat}, c ∉ l.take i → l[i]? = some c → idx c l = some i
  | [], _, _, h => by simp at h
  | b :: l, 0, _, h => by simp at h; subst h; simp [idx]
  | b :: l, i + 1, h0, h => by
    rw [List.take_succ_cons, List.mem_cons, not_or] at h0
    have := idx_of h0.2 (by simpa using h)
    unfold idx
    rw [if_neg (fun e => h0.1 e.symm), this]; rfl
/-- what stands behind so many blanks -/
def after : Nat → List UInt8 → Option (List UInt8)
  | 0, l => some l
  | _ + 1, [] => none
  | n + 1, c :: l => if c = 32 then after n l else after (n + 1) l
theorem after_cons (n : Nat) (c : UInt8) (l : List UInt8) : after (n + 1) (c :: l) = if c = 32 then after n l else after (n + 1) l := rfl
theorem idx_cons (c b : UInt8) (l : List UInt8) : idx c (b :: l) = if b = c then some 0 else (idx c l).map (· + 1) := rfl
theorem after_idx (n : Nat) : ∀ l : List UInt8, after (n + 1) l = (idx 32 l).bind fun i => after n (l.drop (i + 1))
  | [] => rfl
  | c :: l => by
    have ih := after_idx n l
    rw [after_cons, idx_cons]
    by_cases h : c = 32
    · rw [if_pos h, if_pos h]; rfl
    · rw [if_neg h, if_neg h, ih]
      cases idx 32 l <;> rfl
theorem splitK_succ (k : Nat) (s : List UInt8) : Lib.splitK [32] 0 (k + 1) s = if Lib.index s [32] == -1 then [s] else s.take ((Lib.index s [32]).toNat + 0) :: Lib.splitK [32] 0 k (s.drop ((Lib.index s [32]).toNat + 1)) := rfl
theorem splitK_step (k : Nat) (l : List UInt8) : Lib.splitK [32] 0 (k + 1) l = match idx 32 l with | none => [l] | some i => l.take i :: Lib.splitK [32] 0 k (l.drop (i + 1)) := by
  rw [splitK_succ, index_idx]
  cases idx 32 l with
  | none => rfl
  | some i =>
    have : ((i : Int) == -1) = false := by rw [beq_eq_false_iff_ne]; omega
    simp only [this]
    rw [if_neg (by decide), Int.toNat_natCast, Nat.add_zero]
theorem splitK_some {l t : List UInt8} (h : after 2 l = some t) : ∃ a b, Lib.splitK [32] 0 2 l = [a, b, t] := by
  rw [after_idx] at h
  rw [splitK_step]
  cases e : idx 32 l with
  | none => rw [e] at h; cases h
  | some i =>
    rw [e] at h
    simp only [Option.bind_some] at h
    rw [after_idx] at h
    cases e2 : idx 32 (l.drop (i + 1)) with
    | none => rw [e2] at h; cases h
    | some j =>
      rw [e2] at h
      simp only [Option.bind_some, after, Option.some.injEq] at h
      refine ⟨l.take i, (l.drop (i + 1)).take j, ?_⟩
      simp only []
      rw [splitK_step, e2]
      simp only [Lib.splitK]
      rw [h]
theorem splitK_none {l : List UInt8} (h : after 2 l = none) : (Lib.splitK [32] 0 2 l).length ≤ 2 := by
  rw [after_idx] at h
  rw [splitK_step]
  cases e : idx 32 l with
  | none => simp
  | some i =>
    rw [e] at h
    simp only [Option.bind_some] at h
    rw [after_idx] at h
    simp only []
    rw [splitK_step]
    cases e2 : idx 32 (l.drop (i + 1)) with
    | none => simp
    | some j => rw [e2] at h; simp [after] at h
theorem after_short {l : List UInt8} (h : l.length ≤ 1) : after 2 l = none := by
  match l, h with
  | [], _ => rfl
  | [c], _ => unfold after; split <;> rfl
def plainB (t : ByteArray) : Bool := (idx 10 t.data.toList).isNone && decide (t.size ≤ 300)
def frameB (t : ByteArray) : ByteArray := ((((itoaB (t.size : Int) ++ (⟨#[32]⟩ : ByteArray)) ++ itoaB (markOf t)) ++ (⟨#[32]⟩ : ByteArray)) ++ t) ++ (⟨#[10]⟩ : ByteArray)
def framedB (t : ByteArray) : ByteArray := if plainB t = true then frameB t else ⟨#[]⟩
theorem markOf_range (t : ByteArray) : 0 ≤ markOf t ∧ markOf t < 65521 := markRun_range _ 7 (by omega) (by omega)
theorem itoaB_small (n : Int) (m : Nat) (h0 : 0 ≤ n) (h : n < ((10 ^ (m + 1) : Nat) : Int)) : (itoaB n).size ≤ m + 1 := by
  have e : (itoaB n).size = (Lib.itoa n).length := by rw [← size_len]; simp [itoaB]
  rw [e]
  unfold Lib.itoa
  rw [if_neg (by omega)]
  exact decDigits_len m n.toNat (by omega)
theorem frameB_size (t : ByteArray) (h : t.size ≤ 300) : (frameB t).size ≤ t.size + 11 := by
  have h1 := itoaB_small (t.size : Int) 2 (by omega) (by omega)
  have h2 := markOf_range t
  have h3 := itoaB_small (markOf t) 4 (by omega) (by omega)
  unfold frameB
  simp only [ByteArray.size_append, show (⟨#[32]⟩ : ByteArray).size = 1 from rfl, show (⟨#[10]⟩ : ByteArray).size = 1 from rfl]
  omega
theorem frameB_pos (t : ByteArray) : 1 ≤ (frameB t).size := by
  unfold frameB
  simp only [ByteArray.size_append, show (⟨#[10]⟩ : ByteArray).size = 1 from rfl]
  omega
/-- the text of the frame at a place -/
def firstB (s : ByteArray) (p : Nat) : Option ByteArray :=
  (idx 10 (s.data.toList.drop p)).bind fun e => (after 2 ((s.data.toList.drop p).take e)).bind fun t =>
    if plainB ⟨t.toArray⟩ = true ∧ (frameB ⟨t.toArray⟩).data.toList = (s.data.toList.drop p).take e ++ [10] then some ⟨t.toArray⟩ else none
theorem firstB_some {s : ByteArray} {p : Nat} {t : ByteArray} (h : firstB s p = some t) : plainB t = true ∧ ∃ e, idx 10 (s.data.toList.drop p) = some e ∧ (frameB t).data.toList = (s.data.toList.drop p).take e ++ [10] ∧ (frameB t).size = e + 1 ∧ after 2 ((s.data.toList.drop p).take e) = some t.data.toList := by
  unfold firstB at h
  obtain ⟨e, he, h⟩ := Option.bind_eq_some_iff.1 h
  obtain ⟨t', ht, h⟩ := Option.bind_eq_some_iff.1 h
  split at h
  · rename_i hc
    obtain rfl := Option.some.inj h
    refine ⟨hc.1, e, he, hc.2, ?_, by simpa using ht⟩
    have := congrArg List.length hc.2
    rw [size_len, List.length_append, List.length_take, List.length_singleton] at this
    have := (idx_some he).1
    omega
  · cases h
theorem firstB_le {s : ByteArray} {p : Nat} {t : ByteArray} (hp : p ≤ s.size) (h : firstB s p = some t) : p + (frameB t).size ≤ s.size := by
  obtain ⟨_, e, he, _, h2, _⟩ := firstB_some h
  have := (idx_some he).1
  rw [List.length_drop, size_len] at this
  omega
/-- the texts of the frames from a place on, and the place behind them -/
def framesB (s : ByteArray) : Nat → Nat → List ByteArray × Nat
  | 0, p => ([], p)
  | f + 1, p => match firstB s p with
    | none => ([], p)
    | some t => (t :: (framesB s f (p + (frameB t).size)).1, (framesB s f (p + (frameB t).size)).2)
def framesOf (s : ByteArray) : List ByteArray × Nat := framesB s (s.size + 1) 0
end Go.Proofs.YtmgcmclcphfogaaDoor.B
namespace Go.Proofs.YtmgcmclcphfogaaDoor.B
open Go Go.RowKit Go.Proofs.YtmgcmclcphfogaaDoorW.PrintWords Go.Proofs.YtmgcmclcphfogaaDoorW.PrintLast Go.Proofs.YtmgcmclcphfogaaDoorW.PrintMore Go.Proofs.YtmgcmclcphfogaaDoor.PX Go.Proofs.YtmgcmclcphfogaaDoor.B
theorem spec_Mark_l0 (s : ByteArray) (hs : s.size ≤ 9223372036854775807) (d : Nat) : ∀ (i : Nat) (m : Int), i ≤ s.size → s.size - i = d → 0 ≤ m → m < 65521 →
    LG fun k => spec_Mark.l0 k s m (i : Int) = some (markRun m (s.data.toList.drop i)) := by
  have hl := size_len s
  induction d with
  | zero =>
    intro i m h1 h2 _ _
    refine LG.step fun j => ?_
    simp only [spec_Mark.l0]
    rw [if_neg (by omega), List.drop_of_length_le (by omega)]
    rfl
  | succ d ih =>
    intro i m h1 h2 m0 m1
    have hi : i < s.data.toList.length := by omega
    have hr := markStep_range m (s.data.toList[i])
    refine (ih (i + 1) (markStep m (s.data.toList[i])) (by omega) (by omega) hr.1 hr.2).up fun j hj => ?_
    simp only [spec_Mark.l0]
    rw [if_pos (by omega), if_pos (by omega), bt_get s i hi, mark_term _ _ m0 m1, markRun_at _ i hi, w64 (n := (i : Int) + 1) (by omega) (by omega)]
    simpa using hj
theorem spec_Mark_eq (s : ByteArray) (hs : s.size ≤ 9223372036854775807) : LG fun k => spec_Mark.f k s = some (markOf s) :=
  spec_Mark_l0 s hs s.size 0 7 (by omega) (by omega) (by omega) (by omega)
theorem impl_mark_l0 (s : ByteArray) (hs : s.size ≤ 9223372036854775807) (d : Nat) : ∀ (i : Nat) (m : Int), i ≤ s.size → s.size - i = d → 0 ≤ m → m < 65521 →
    LG fun k => impl_mark.l0 k s m (s.size : Int) (i : Int) = some (markRun m (s.data.toList.drop i)) := by
  have hl := size_len s
  induction d with
  | zero =>
    intro i m h1 h2 _ _
    refine LG.step fun j => ?_
    simp only [impl_mark.l0]
    rw [if_neg (by omega), List.drop_of_length_le (by omega)]
    rfl
  | succ d ih =>
    intro i m h1 h2 m0 m1
    have hi : i < s.data.toList.length := by omega
    have hr := markStep_range m (s.data.toList[i])
    refine (ih (i + 1) (markStep m (s.data.toList[i])) (by omega) (by omega) hr.1 hr.2).up fun j hj => ?_
    simp only [impl_mark.l0]
    rw [if_pos (by omega), if_pos (by omega), if_pos (by omega), bt_get s i hi, mark_term _ _ m0 m1, markRun_at _ i hi, w64 (n := (i : Int) + 1) (by omega) (by omega)]
    simpa using hj
theorem impl_mark_eq (s : ByteArray) (hs : s.size ≤ 9223372036854775807) : LG fun k => impl_mark.f k s = some (markOf s) :=
  impl_mark_l0 s hs s.size 0 7 (by omega) (by omega) (by omega) (by omega)
end Go.Proofs.YtmgcmclcphfogaaDoor.B
namespace Go.Proofs.YtmgcmclcphfogaaDoor.B
open Go Go.RowKit Go.Proofs.YtmgcmclcphfogaaDoorW.PrintWords Go.Proofs.YtmgcmclcphfogaaDoorW.PrintLast Go.Proofs.YtmgcmclcphfogaaDoorW.PrintMore Go.Proofs.YtmgcmclcphfogaaDoor.PX Go.Proofs.YtmgcmclcphfogaaDoor.B
theorem l3Plain_l0 (s : ByteArray) (hs : s.size ≤ 9223372036854775807) (d : Nat) : ∀ i : Nat, i ≤ s.size → s.size - i = d →
    LG fun k => spec_l3Plain.l0 k s (i : Int) = some ((idx 10 (s.data.toList.drop i)).isNone && decide (s.size ≤ 300)) := by
  have hl := size_len s
  induction d with
  | zero =>
    intro i h1 h2
    refine LG.step fun j => ?_
    simp only [spec_l3Plain.l0]
    rw [if_neg (by omega), List.drop_of_length_le (by omega)]
    congr 1
    simp only [idx, Option.isNone_none, Bool.true_and]
    rw [Bool.eq_iff_iff]
    simp only [decide_eq_true_eq]
    omega
  | succ d ih =>
    intro i h1 h2
    have hi : i < s.data.toList.length := by omega
    refine (ih (i + 1) (by omega) (by omega)).up fun j hj => ?_
    simp only [spec_l3Plain.l0]
    rw [if_pos (by omega), if_pos (by omega), bt_get s i hi, List.drop_eq_getElem_cons hi]
    unfold idx
    by_cases hc : s.data.toList[i] = 10
    · rw [if_pos (by rw [hc]; rfl), if_pos hc]; rfl
    · rw [if_neg (fun e => hc (UInt8.toNat_inj.1 (by rw [show (10 : UInt8).toNat = 10 from rfl]; omega))), if_neg hc, w64 (by omega) (by omega)]
      rw [show ((i : Int) + 1) = ((i + 1 : Nat) : Int) by omega, hj]
      congr 2
      cases idx 10 (s.data.toList.drop (i + 1)) <;> rfl
theorem l3Plain_eq (s : ByteArray) (hs : s.size ≤ 9223372036854775807) : LG fun k => spec_l3Plain.f k s = some (plainB s) := l3Plain_l0 s hs s.size 0 (by omega) (by omega)
theorem l3Frame_eq (s : ByteArray) (hs : s.size ≤ 1000000000) : LG fun k => spec_l3Frame.f k s = some (frameB s) := by
  have hm := markOf_range s
  have h1 : I64 (s.size : Int) := by unfold I64; omega
  have h2 : I64 (markOf s) := by unfold I64; omega
  have z1 := itoaB_size _ h1
  have z2 := itoaB_size _ h2
  refine (((l1Int_eq _ h1).and (l1Int_eq _ h2)).and (spec_Mark_eq s (by omega))).mono fun k ⟨⟨g1, g2⟩, g3⟩ => ?_
  unfold spec_l3Frame.f frameB
  rw [g1]
  simp only [Option.bind_some, g3, g2, ByteArray.size_append, show (⟨#[32]⟩ : ByteArray).size = 1 from rfl]
  repeat rw [if_pos (by omega)]
theorem spec_Framed_eq (s : ByteArray) (hs : s.size ≤ 1000000000) : LG fun k => spec_Framed.f k s = some (framedB s) := by
  refine ((l3Plain_eq s (by omega)).and (l3Frame_eq s hs)).mono fun k ⟨g1, g2⟩ => ?_
  unfold spec_Framed.f framedB
  rw [g1, g2]
  simp only [Option.bind_some]
  split <;> rfl
end Go.Proofs.YtmgcmclcphfogaaDoor.B
namespace Go.Proofs.YtmgcmclcphfogaaDoor.B
open Go Go.RowKit Go.Proofs.YtmgcmclcphfogaaDoorW.PrintWords Go.Proofs.YtmgcmclcphfogaaDoorW.PrintLast Go.Proofs.YtmgcmclcphfogaaDoorW.PrintMore Go.Proofs.YtmgcmclcphfogaaDoor.PX Go.Proofs.YtmgcmclcphfogaaDoor.B
theorem decimal_eq (n : Int) (h : I64 n) : impl_decimal.f n = some (itoaB n) := by
  unfold I64 at h
  unfold impl_decimal.f strconv_FormatInt_120.f
  rw [if_pos rfl, if_pos h.1, if_pos h.2]
  rfl
end Go.Proofs.YtmgcmclcphfogaaDoor.B
namespace Go.Proofs.YtmgcmclcphfogaaDoor.B
open Go Go.RowKit Go.Proofs.YtmgcmclcphfogaaDoorW.PrintWords Go.Proofs.YtmgcmclcphfogaaDoorW.PrintLast Go.Proofs.YtmgcmclcphfogaaDoorW.PrintMore Go.Proofs.YtmgcmclcphfogaaDoor.PX Go.Proofs.YtmgcmclcphfogaaDoor.B
theorem impl_framed_j0 (s : ByteArray) (hs : s.size ≤ 1000000000) : LG fun k => impl_framed.j0 k s false = some (frameB s) := by
  have hm := markOf_range s
  have h1 : I64 (s.size : Int) := by unfold I64; omega
  have h2 : I64 (markOf s) := by unfold I64; omega
  have z1 := itoaB_size _ h1
  have z2 := itoaB_size _ h2
  refine (impl_mark_eq s (by omega)).up fun k g3 => ?_
  simp only [impl_framed.j0]
  rw [if_neg (by decide), decimal_eq _ h1]
  unfold frameB
  simp only [Option.bind_some, g3, decimal_eq _ h2, ByteArray.size_append, show (⟨#[32]⟩ : ByteArray).size = 1 from rfl]
  repeat rw [if_pos (by omega)]
theorem impl_framed_eq (s : ByteArray) (hs : s.size ≤ 1000000000) : LG fun k => impl_framed.f k s = some (framedB s) := by
  have hn : LG fun k => impl_framed.j0 k s true = some (⟨#[]⟩ : ByteArray) := LG.step fun j => by simp only [impl_framed.j0]; rw [if_pos trivial]
  refine (hn.and (impl_framed_j0 s hs)).mono fun k ⟨g1, g2⟩ => ?_
  unfold impl_framed.f framedB plainB
  by_cases h : s.size ≤ 300
  · rw [if_neg (by omega)]
    unfold strings_Contains.f
    rw [if_pos (show (⟨#[10]⟩ : ByteArray).size = 1 from rfl)]
    simp only [Option.bind_some]
    rw [show ((⟨#[10]⟩ : ByteArray).data.toList.getD 0 0) = 10 from rfl, indexByte_idx]
    cases e : idx 10 s.data.toList with
    | none => simp only [Option.isNone_none, Bool.true_and, decide_eq_true h, if_true]; rw [show decide ((0 : Int) ≤ -1) = false by decide]; exact g2
    | some i => simp only [Option.isNone_some, Bool.false_and]; rw [decide_eq_true (show (0 : Int) ≤ (i : Int) by omega), if_neg (by decide)]; exact g1
  · rw [if_pos (by omega), decide_eq_false h, Bool.and_false, if_neg (by decide)]
    exact g1
end Go.Proofs.YtmgcmclcphfogaaDoor.B
namespace Go.Proofs.YtmgcmclcphfogaaDoor.Pure
open Go Go.RowKit Go.Proofs.YtmgcmclcphfogaaDoorW.PrintWords Go.Proofs.YtmgcmclcphfogaaDoorW.PrintLast Go.Proofs.YtmgcmclcphfogaaDoorW.PrintMore Go.Proofs.YtmgcmclcphfogaaDoor.PX Go.Proofs.YtmgcmclcphfogaaDoor.B
theorem FnExactFramed : FnExactFramed_Pure := by
  intro s hs
  by_cases h : s.size ≤ 1000000000
  · obtain ⟨k, h1, h2⟩ := ((spec_Framed_eq s h).and (impl_framed_eq s h)).rounds
    refine ⟨k, ?_⟩
    unfold laws_FnExactFramed.f impl_Framed.f
    rw [h1, h2]
    simp
  · refine ⟨0, ?_⟩
    unfold laws_FnExactFramed.f
    rw [if_pos (by omega)]
end Go.Proofs.YtmgcmclcphfogaaDoor.Pure
