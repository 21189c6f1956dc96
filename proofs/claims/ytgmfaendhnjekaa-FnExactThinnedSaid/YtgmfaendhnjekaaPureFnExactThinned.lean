import Derived.Test.YtgmfaendhnjekaaPXx0
import Derived.Test.YtgmfaendhnjekaaPXx1
import Derived.Test.YtgmfaendhnjekaaPXx2
import Derived.Test.YtgmfaendhnjekaaPXx3
import Derived.Test.YtgmfaendhnjekaaPXx4
import Derived.Test.YtgmfaendhnjekaaPXx5
import Derived.Test.YtgmfaendhnjekaaPXx6
import Derived.Test.YtgmfaendhnjekaaPXx7
import Derived.Test.YtgmfaendhnjekaaPXx8
import Derived.Test.YtgmfaendhnjekaaPXx9
import Derived.Test.YtgmfaendhnjekaaPXx10
import Derived.Test.YtgmfaendhnjekaaPXx11
import Derived.Test.YtgmfaendhnjekaaPXx12
import Derived.Test.YtgmfaendhnjekaaPXx13
import Derived.Test.YtgmfaendhnjekaaPXx14
import Derived.Test.YtgmfaendhnjekaaStFnExactThinned
import Derived.Lib.Bytealg
import Derived.Test.YtgmfaendhnjekaaWMore
set_option linter.unusedVariables false
set_option linter.unusedSimpArgs false
namespace Go.Proofs.Ytgmfaendhnjekaa.B
open Go Go.RowKit Go.Proofs.YtgmfaendhnjekaaW.PrintWords Go.Proofs.YtgmfaendhnjekaaW.PrintLast Go.Proofs.YtgmfaendhnjekaaW.PrintMore Go.Proofs.Ytgmfaendhnjekaa.PX
/-- From some number of rounds on. -/
def LG (p : Nat → Prop) : Prop := ∃ K, ∀ k, K ≤ k → p k
namespace LG
theorem all {p : Nat → Prop} (h : ∀ k, p k) : LG p := ⟨0, fun k _ => h k⟩
theorem step {p : Nat → Prop} (h : ∀ j, p (j + 1)) : LG p := ⟨1, fun k hk => by
  obtain ⟨j, rfl⟩ : ∃ j, k = j + 1 := ⟨k - 1, by omega⟩
  exact h j⟩
theorem and {p q : Nat → Prop} (h : LG p) (g : LG q) : LG fun k => p k ∧ q k := by
  obtain ⟨a, h⟩ := h
  obtain ⟨b, g⟩ := g
  exact ⟨max a b, fun k hk => ⟨h k (by omega), g k (by omega)⟩⟩
theorem mono {p q : Nat → Prop} (h : LG p) (g : ∀ k, p k → q k) : LG q := by
  obtain ⟨a, h⟩ := h
  exact ⟨a, fun k hk => g k (h k hk)⟩
/-- One round: what holds of j holds of j + 1 rounds. -/
theorem up {p q : Nat → Prop} (h : LG p) (g : ∀ j, p j → q (j + 1)) : LG q := by
  obtain ⟨a, h⟩ := h
  refine ⟨a + 1, fun k hk => ?_⟩
  obtain ⟨j, rfl⟩ : ∃ j, k = j + 1 := ⟨k - 1, by omega⟩
  exact g j (h j (by omega))
theorem rounds {p : Nat → Prop} (h : LG p) : ∃ k, p k := by
  obtain ⟨a, h⟩ := h
  exact ⟨a, h a (Nat.le_refl _)⟩
end LG
def I64 (n : Int) : Prop := -9223372036854775808 ≤ n ∧ n ≤ 9223372036854775807
theorem i64_of {n : Int} (h : (Lit.int .i64 n).wf = true) : I64 n := by
  simp only [Lit.wf, IntKind.min, IntKind.max, IntKind.signed, IntKind.bits, Bool.and_eq_true, decide_eq_true_eq, if_true] at h
  unfold I64
  omega
theorem w64 {n : Int} (h0 : -9223372036854775808 ≤ n) (h1 : n ≤ 9223372036854775807) : wrap64 n = n := by
  unfold wrap64
  omega
theorem bt_get (s : ByteArray) (i : Nat) (h : i < s.data.toList.length) : bt s (i : Int) = ((s.data.toList[i]).toNat : Int) := by
  have hs : (i : Int).toNat < s.size := by
    have : s.size = s.data.toList.length := by rw [Array.length_toList]; rfl
    omega
  unfold bt
  rw [dif_pos hs]
  rfl
theorem size_len (s : ByteArray) : s.data.toList.length = s.size := by rw [Array.length_toList]; rfl
end Go.Proofs.Ytgmfaendhnjekaa.B
namespace Go.Proofs.Ytgmfaendhnjekaa.B
open Go Go.RowKit Go.Proofs.YtgmfaendhnjekaaW.PrintWords Go.Proofs.YtgmfaendhnjekaaW.PrintLast Go.Proofs.YtgmfaendhnjekaaW.PrintMore Go.Proofs.Ytgmfaendhnjekaa.PX Go.Proofs.Ytgmfaendhnjekaa.B
theorem getD_nat {α : Type} (xs : List α) (z : α) (i : Nat) (h : i < xs.length) : xs.getD (i : Int).toNat z = xs[i] := by
  rw [Int.toNat_natCast, List.getD_eq_getElem?_getD, List.getElem?_eq_getElem h]
  rfl
theorem set_take {α : Type} (xs : List α) (i : Nat) (v : α) (h : i < xs.length) : (xs.set i v).take (i + 1) = xs.take i ++ [v] := by
  rw [List.take_succ_eq_append_getElem (by simpa using h), List.take_set_of_le (Nat.le_refl i), List.getElem_set_self]
theorem take_map_succ {α β : Type} (f : α → β) (xs : List α) (i : Nat) (h : i < xs.length) : (xs.map f).take (i + 1) = (xs.map f).take i ++ [f xs[i]] := by
  rw [List.take_succ_eq_append_getElem (by simpa using h), List.getElem_map]
theorem take_all {α : Type} {xs ys : List α} {n : Nat} (hx : xs.length = n) (hy : ys.length = n) (h : xs.take n = ys.take n) : xs = ys := by
  rw [List.take_of_length_le (by omega), List.take_of_length_le (by omega)] at h
  exact h
theorem toList_eq (s : ByteArray) : s.toList = s.data.toList := by
  first | exact ByteArray.toList_eq s | simp
theorem toList_inj (s t : ByteArray) : s.toList = t.toList ↔ s = t := by
  rw [toList_eq, toList_eq]
  constructor
  · intro h
    obtain ⟨⟨l⟩⟩ := s
    obtain ⟨⟨m⟩⟩ := t
    simp at h
    rw [h]
  · rintro rfl
    rfl
end Go.Proofs.Ytgmfaendhnjekaa.B
namespace Go.Proofs.Ytgmfaendhnjekaa.B
open Go Go.RowKit Go.Proofs.YtgmfaendhnjekaaW.PrintWords Go.Proofs.YtgmfaendhnjekaaW.PrintLast Go.Proofs.YtgmfaendhnjekaaW.PrintMore Go.Proofs.Ytgmfaendhnjekaa.PX Go.Proofs.Ytgmfaendhnjekaa.B
/-! the order of texts -/
theorem bl_irrefl : ∀ a : List UInt8, Op.bytesLess a a = false
  | [] => rfl
  | c :: a => by simp [Op.bytesLess, bl_irrefl a]
theorem bl_trans : ∀ a b c : List UInt8, Op.bytesLess a b = true → Op.bytesLess b c = true → Op.bytesLess a c = true
  | _, _, [], _, h => by simp [Op.bytesLess] at h
  | _, [], _ :: _, h, _ => by simp [Op.bytesLess] at h
  | [], _ :: _, _ :: _, _, _ => by simp [Op.bytesLess]
  | x :: a, y :: b, z :: c, h, g => by
    simp only [Op.bytesLess, Bool.or_eq_true, decide_eq_true_eq, Bool.and_eq_true, beq_iff_eq] at h g ⊢
    rcases h with h | ⟨rfl, h⟩
    · rcases g with g | ⟨rfl, g⟩
      · exact .inl (UInt8.lt_trans h g)
      · exact .inl h
    · rcases g with g | ⟨rfl, g⟩
      · exact .inl g
      · exact .inr ⟨rfl, bl_trans a b c h g⟩
theorem cb_cases : ∀ a b : List UInt8, (Lib.compareBytes a b = -1 ∧ Op.bytesLess a b = true) ∨ (Lib.compareBytes a b = 0 ∧ a = b) ∨ (Lib.compareBytes a b = 1 ∧ Op.bytesLess b a = true)
  | [], [] => by simp [Lib.compareBytes]
  | [], _ :: _ => by simp [Lib.compareBytes, Op.bytesLess]
  | _ :: _, [] => by simp [Lib.compareBytes, Op.bytesLess]
  | x :: a, y :: b => by
    simp only [Lib.compareBytes, Op.bytesLess]
    by_cases h : x < y
    · simp [h]
    · by_cases g : y < x
      · simp [h, g]
      · have e : x = y := by
          have h1 : ¬ x.toNat < y.toNat := h
          have h2 : ¬ y.toNat < x.toNat := g
          exact UInt8.toNat_inj.mp (by omega)
        subst e
        rcases cb_cases a b with ⟨h1, h2⟩ | ⟨h1, h2⟩ | ⟨h1, h2⟩
        · simp [h1, h2]
        · subst h2
          simp [h1]
        · simp [h1, h2]
theorem bl_asymm (a b : List UInt8) (h : Op.bytesLess a b = true) : Op.bytesLess b a = false := by
  cases e : Op.bytesLess b a
  · rfl
  · have := bl_trans a b a h e
    rw [bl_irrefl] at this
    exact absurd this (by simp)
theorem bl_tri (a b : List UInt8) : Op.bytesLess a b = true ∨ a = b ∨ Op.bytesLess b a = true := by
  rcases cb_cases a b with h | h | h
  · exact .inl h.2
  · exact .inr (.inl h.2)
  · exact .inr (.inr h.2)
end Go.Proofs.Ytgmfaendhnjekaa.B
namespace Go.Proofs.Ytgmfaendhnjekaa.B
open Go Go.RowKit Go.Proofs.YtgmfaendhnjekaaW.PrintWords Go.Proofs.YtgmfaendhnjekaaW.PrintLast Go.Proofs.YtgmfaendhnjekaaW.PrintMore Go.Proofs.Ytgmfaendhnjekaa.PX Go.Proofs.Ytgmfaendhnjekaa.B
/-- a key comes ahead of another one -/
def klt (a b : S30) : Bool :=
  if a.f0 = b.f0 then (if a.f1 = b.f1 then decide (a.f2 > b.f2) else Op.bytesLess a.f1.toList b.f1.toList) else Op.bytesLess a.f0.toList b.f0.toList
theorem klt_irrefl (a : S30) : klt a a = false := by simp [klt]
theorem tl_ne {s t : ByteArray} (h : s ≠ t) : s.toList ≠ t.toList := fun e => h ((toList_inj s t).mp e)
theorem bl_ne {s t : ByteArray} (h : Op.bytesLess s.toList t.toList = true) : s ≠ t := by
  rintro rfl
  rw [bl_irrefl] at h
  exact absurd h (by simp)
theorem klt_iff (a b : S30) : klt a b = true ↔ Op.bytesLess a.f0.toList b.f0.toList = true ∨ (a.f0 = b.f0 ∧ (Op.bytesLess a.f1.toList b.f1.toList = true ∨ (a.f1 = b.f1 ∧ b.f2 < a.f2))) := by
  unfold klt
  by_cases h : a.f0 = b.f0
  · rw [if_pos h]
    have e : Op.bytesLess a.f0.toList b.f0.toList = false := by rw [h]; exact bl_irrefl _
    by_cases g : a.f1 = b.f1
    · rw [if_pos g]
      have e2 : Op.bytesLess a.f1.toList b.f1.toList = false := by rw [g]; exact bl_irrefl _
      simp [h, g, e, e2, bl_irrefl]
    · rw [if_neg g]
      simp [h, g, bl_irrefl]
  · rw [if_neg h]
    simp [h]
theorem klt_trans (a b c : S30) (h : klt a b = true) (g : klt b c = true) : klt a c = true := by
  rw [klt_iff] at h g ⊢
  rcases h with h | ⟨h0, h⟩
  · rcases g with g | ⟨g0, g⟩
    · exact .inl (bl_trans _ _ _ h g)
    · exact .inl (by rw [← g0]; exact h)
  · rcases g with g | ⟨g0, g⟩
    · exact .inl (by rw [h0]; exact g)
    · refine .inr ⟨h0.trans g0, ?_⟩
      rcases h with h | ⟨h1, h⟩
      · rcases g with g | ⟨g1, g⟩
        · exact .inl (bl_trans _ _ _ h g)
        · exact .inl (by rw [← g1]; exact h)
      · rcases g with g | ⟨g1, g⟩
        · exact .inl (by rw [h1]; exact g)
        · exact .inr ⟨h1.trans g1, by omega⟩
theorem klt_asymm (a b : S30) (h : klt a b = true) : klt b a = false := by
  cases e : klt b a
  · rfl
  · have := klt_trans a b a h e
    rw [klt_irrefl] at this
    exact absurd this (by simp)
theorem klt_tri (a b : S30) : klt a b = true ∨ a = b ∨ klt b a = true := by
  rw [klt_iff, klt_iff]
  rcases bl_tri a.f0.toList b.f0.toList with h | h | h
  · exact .inl (.inl h)
  · have h0 := (toList_inj _ _).mp h
    rcases bl_tri a.f1.toList b.f1.toList with g | g | g
    · exact .inl (.inr ⟨h0, .inl g⟩)
    · have g0 := (toList_inj _ _).mp g
      rcases Int.lt_trichotomy a.f2 b.f2 with t | t | t
      · exact .inr (.inr (.inr ⟨h0.symm, .inr ⟨g0.symm, t⟩⟩))
      · refine .inr (.inl ?_)
        obtain ⟨a0, a1, a2⟩ := a
        obtain ⟨b0, b1, b2⟩ := b
        simp only at h0 g0 t
        subst h0 g0 t
        rfl
      · exact .inl (.inr ⟨h0, .inr ⟨g0, t⟩⟩)
    · exact .inr (.inr (.inr ⟨h0.symm, .inl g⟩))
  · exact .inr (.inr (.inl h))
/-- the comparison of two keys as a number -/
def kcmp (a b : S30) : Int := if klt a b = true then -1 else if a.f0 = b.f0 ∧ a.f1 = b.f1 ∧ a.f2 = b.f2 then 0 else 1
theorem key_ext (a b : S30) : (a.f0 = b.f0 ∧ a.f1 = b.f1 ∧ a.f2 = b.f2) ↔ a = b := by
  obtain ⟨a0, a1, a2⟩ := a
  obtain ⟨b0, b1, b2⟩ := b
  constructor
  · rintro ⟨h0, h1, h2⟩
    simp only at h0 h1 h2
    subst h0 h1 h2
    rfl
  · rintro h
    injection h with h0 h1 h2
    exact ⟨h0, h1, h2⟩
theorem kcmp_neg (a b : S30) : (kcmp a b < 0) ↔ klt a b = true := by
  unfold kcmp
  by_cases h : klt a b = true
  · simp [h]
  · rw [if_neg h]
    split <;> simp_all
theorem kcmp_zero (a b : S30) : (kcmp a b = 0) ↔ a = b := by
  rw [← key_ext]
  unfold kcmp
  by_cases h : klt a b = true
  · rw [if_pos h]
    constructor
    · intro e
      omega
    · intro e
      obtain rfl := (key_ext a b).mp e
      rw [klt_irrefl] at h
      exact absurd h (by simp)
  · rw [if_neg h]
    split <;> simp_all
end Go.Proofs.Ytgmfaendhnjekaa.B
namespace Go.Proofs.Ytgmfaendhnjekaa.B
open Go Go.RowKit Go.Proofs.YtgmfaendhnjekaaW.PrintWords Go.Proofs.YtgmfaendhnjekaaW.PrintLast Go.Proofs.YtgmfaendhnjekaaW.PrintMore Go.Proofs.Ytgmfaendhnjekaa.PX Go.Proofs.Ytgmfaendhnjekaa.B
/-- all bytes are from a to z -/
def nameRun (l : List UInt8) : Bool := l.all fun c => decide (97 ≤ c.toNat) && decide (c.toNat ≤ 122)
def isNameB (s : ByteArray) : Bool := nameRun s.data.toList && (decide (1 ≤ s.size) && decide (s.size ≤ 8))
theorem nameRun_at (l : List UInt8) (i : Nat) (h : i < l.length) : nameRun (l.drop i) = (decide (97 ≤ (l[i]).toNat) && decide ((l[i]).toNat ≤ 122) && nameRun (l.drop (i + 1))) := by
  rw [List.drop_eq_getElem_cons h]
  simp only [nameRun, List.all_cons]
end Go.Proofs.Ytgmfaendhnjekaa.B
namespace Go.Proofs.Ytgmfaendhnjekaa.B
open Go Go.RowKit Go.Proofs.YtgmfaendhnjekaaW.PrintWords Go.Proofs.YtgmfaendhnjekaaW.PrintLast Go.Proofs.YtgmfaendhnjekaaW.PrintMore Go.Proofs.Ytgmfaendhnjekaa.PX Go.Proofs.Ytgmfaendhnjekaa.B
def isTimeB (t : Int) : Bool := decide (0 ≤ t) && decide (t ≤ 1000000)
def isKeyB (r b : ByteArray) (t : Int) : Bool := isNameB r && (isNameB b && isTimeB t)
end Go.Proofs.Ytgmfaendhnjekaa.B
namespace Go.Proofs.Ytgmfaendhnjekaa.B
open Go Go.RowKit Go.Proofs.YtgmfaendhnjekaaW.PrintWords Go.Proofs.YtgmfaendhnjekaaW.PrintLast Go.Proofs.YtgmfaendhnjekaaW.PrintMore Go.Proofs.Ytgmfaendhnjekaa.PX Go.Proofs.Ytgmfaendhnjekaa.B
def isWordB (n : Int) : Bool := decide (-2147483648 ≤ n) && decide (n ≤ 2147483647)
theorem l1In_eq (a b c : Int) : spec_l1In.f a b c = some (decide (b ≤ a) && decide (a ≤ c)) := by
  unfold spec_l1In.f
  by_cases h : a ≥ b
  · rw [if_pos h, decide_eq_true (show b ≤ a from h), Bool.true_and]
  · rw [if_neg h, decide_eq_false (show ¬ b ≤ a from h), Bool.false_and]
theorem l1Word_eq (n : Int) : spec_l1Word.f n = some (isWordB n) := by
  unfold spec_l1Word.f
  rw [l1In_eq]
  rfl
theorem w32_range (n : Int) : -2147483648 ≤ wrap32 n ∧ wrap32 n ≤ 2147483647 := by
  unfold wrap32
  omega
theorem impl_wrap_eq (n : Int) : impl_wrap.f n = some (wrap32 n) := by
  have := w32_range n
  unfold impl_wrap.f
  rw [w64 (by omega) (by omega)]
theorem isWordB_wrap (n : Int) : (n == wrap32 n) = isWordB n := by
  unfold isWordB
  rw [Bool.eq_iff_iff]
  simp only [beq_iff_eq, Bool.and_eq_true, decide_eq_true_eq]
  unfold wrap32
  omega
theorem impl_isWord_eq (n : Int) : impl_isWord.f n = some (isWordB n) := by
  unfold impl_isWord.f
  rw [impl_wrap_eq]
  simp only [Option.bind_some]
  rw [isWordB_wrap]
end Go.Proofs.Ytgmfaendhnjekaa.B
namespace Go.Proofs.Ytgmfaendhnjekaa.B
open Go Go.RowKit Go.Proofs.YtgmfaendhnjekaaW.PrintWords Go.Proofs.YtgmfaendhnjekaaW.PrintLast Go.Proofs.YtgmfaendhnjekaaW.PrintMore Go.Proofs.Ytgmfaendhnjekaa.PX Go.Proofs.Ytgmfaendhnjekaa.B
def isCellB (r b : ByteArray) (t v : Int) (g : Bool) : Bool := isKeyB r b t && (isWordB v && (!g || v == 0))
end Go.Proofs.Ytgmfaendhnjekaa.B
namespace Go.Proofs.Ytgmfaendhnjekaa.B
open Go Go.RowKit Go.Proofs.YtgmfaendhnjekaaW.PrintWords Go.Proofs.YtgmfaendhnjekaaW.PrintLast Go.Proofs.YtgmfaendhnjekaaW.PrintMore Go.Proofs.Ytgmfaendhnjekaa.PX Go.Proofs.Ytgmfaendhnjekaa.B
/-- a cell's parts -/
def cellOkB (x : S32) : Bool := isCellB x.f0.f0 x.f0.f1 x.f0.f2 x.f1 x.f2
def cellsRun (p : Option S30) : List S32 → Bool
  | [] => true
  | x :: r => cellOkB x && ((match p with | none => true | some q => klt q x.f0) && cellsRun (some x.f0) r)
def cellsOkB (l : List S32) : Bool := cellsRun none l && decide (l.length ≤ 200)
def cellAhead (l : List S32) (i : Nat) : Option S30 := if i = 0 then none else (l[i - 1]?).map (fun x => x.f0)
theorem rdI_Cell (xs : List S32) (i : Nat) (h : i < xs.length) : rd_T32 xs (i : Int) = xs[i] := getD_nat xs _ i h
theorem cellsRun_at (l : List S32) (i : Nat) (h : i < l.length) : cellsRun (cellAhead l i) (l.drop i) =
    (cellOkB l[i] && ((if i = 0 then true else klt (rd_T32 l ((i - 1 : Nat) : Int)).f0 (l[i]).f0) && cellsRun (cellAhead l (i + 1)) (l.drop (i + 1)))) := by
  rw [List.drop_eq_getElem_cons h]
  have e : cellAhead l (i + 1) = some (l[i]).f0 := by simp [cellAhead, List.getElem?_eq_getElem h]
  rw [e]
  by_cases h0 : i = 0
  · subst h0
    simp [cellsRun, cellAhead]
  · have h1 : i - 1 < l.length := by omega
    rw [rdI_Cell l (i - 1) h1]
    simp [cellsRun, cellAhead, h0, List.getElem?_eq_getElem h1]
def CellSz (l : List S32) : Prop := ∀ x ∈ l, x.f0.f0.size ≤ 9223372036854775807 ∧ x.f0.f1.size ≤ 9223372036854775807
end Go.Proofs.Ytgmfaendhnjekaa.B
namespace Go.Proofs.Ytgmfaendhnjekaa.B
open Go Go.RowKit Go.Proofs.YtgmfaendhnjekaaW.PrintWords Go.Proofs.YtgmfaendhnjekaaW.PrintLast Go.Proofs.YtgmfaendhnjekaaW.PrintMore Go.Proofs.Ytgmfaendhnjekaa.PX Go.Proofs.Ytgmfaendhnjekaa.B
def CellAsc (l : List S32) : Prop := l.Pairwise fun x y => klt x.f0 y.f0 = true
theorem cellsRun_asc : ∀ (l : List S32) (p : Option S30), cellsRun p l = true → CellAsc l ∧ ∀ q, p = some q → ∀ x ∈ l, klt q x.f0 = true
  | [], p, _ => ⟨List.Pairwise.nil, fun _ _ x hx => absurd hx (by simp)⟩
  | x :: r, p, h => by
    rw [show cellsRun p (x :: r) = (cellOkB x && ((match p with | none => true | some q => klt q x.f0) && cellsRun (some x.f0) r)) from by cases p <;> rfl, Bool.and_eq_true, Bool.and_eq_true] at h
    obtain ⟨_, hp, hr⟩ := h
    obtain ⟨h1, h2⟩ := cellsRun_asc r (some x.f0) hr
    refine ⟨List.Pairwise.cons (fun y hy => h2 _ rfl y hy) h1, ?_⟩
    rintro q rfl y hy
    simp only at hp
    rcases List.mem_cons.mp hy with rfl | hy
    · exact hp
    · exact klt_trans _ _ _ hp (h2 _ rfl y hy)
theorem cellsOk_asc {l : List S32} (h : cellsOkB l = true) : CellAsc l := by
  unfold cellsOkB at h
  rw [Bool.and_eq_true] at h
  exact (cellsRun_asc l none h.1).1
theorem cellsOk_len {l : List S32} (h : cellsOkB l = true) : l.length ≤ 200 := by
  unfold cellsOkB at h
  rw [Bool.and_eq_true] at h
  exact of_decide_eq_true h.2
theorem asc_at {l : List S32} (h : CellAsc l) (i j : Nat) (hi : i < l.length) (hj : j < l.length) (hij : i < j) : klt (l[i]).f0 (l[j]).f0 = true := (List.pairwise_iff_getElem.mp h) i j hi hj hij
/-- the place of a key in a rising list of cells -/
structure Bdy (l : List S32) (q : S30) (n : Nat) : Prop where
  le : n ≤ l.length
  lo : ∀ i (h : i < l.length), i < n → klt (l[i]).f0 q = true
  hi : ∀ i (h : i < l.length), n ≤ i → klt (l[i]).f0 q = false
end Go.Proofs.Ytgmfaendhnjekaa.B
namespace Go.Proofs.Ytgmfaendhnjekaa.B
open Go Go.RowKit Go.Proofs.YtgmfaendhnjekaaW.PrintWords Go.Proofs.YtgmfaendhnjekaaW.PrintLast Go.Proofs.YtgmfaendhnjekaaW.PrintMore Go.Proofs.Ytgmfaendhnjekaa.PX Go.Proofs.Ytgmfaendhnjekaa.B
theorem spec_NameOk_l0 (s : ByteArray) (hs : s.size ≤ 9223372036854775807) (d : Nat) : ∀ i : Nat, i ≤ s.size → s.size - i = d →
    LG fun k => spec_NameOk.l0 k s (i : Int) = some (nameRun (s.data.toList.drop i) && (decide (1 ≤ s.size) && decide (s.size ≤ 8))) := by
  have hl := size_len s
  induction d with
  | zero =>
    intro i h1 h2
    refine LG.step fun j => ?_
    obtain rfl : i = s.size := by omega
    simp only [spec_NameOk.l0]
    rw [if_neg (by omega), l1In_eq]
    have e : nameRun (s.data.toList.drop s.size) = true := by rw [List.drop_of_length_le (by omega)]; rfl
    rw [e, Bool.true_and, Option.bind_some]
    congr 1
    rw [Bool.eq_iff_iff]
    simp only [Bool.and_eq_true, decide_eq_true_eq]
    omega
  | succ d ih =>
    intro i h1 h2
    have hi : i < s.data.toList.length := by omega
    refine (ih (i + 1) (by omega) (by omega)).up fun j hj => ?_
    simp only [spec_NameOk.l0]
    rw [if_pos (by omega), if_pos (by omega), bt_get s i hi, nameRun_at _ i hi]
    by_cases ha : (97 : Nat) ≤ (s.data.toList[i]).toNat
    · rw [if_neg (by omega)]
      by_cases hb : (s.data.toList[i]).toNat ≤ 122
      · rw [if_neg (by omega), w64 (by omega) (by omega), decide_eq_true ha, decide_eq_true hb]
        simpa using hj
      · rw [if_pos (by omega), decide_eq_false hb]
        simp
    · rw [if_pos (by omega), decide_eq_false ha]
      simp
theorem spec_NameOk_eq (s : ByteArray) (hs : s.size ≤ 9223372036854775807) : LG fun k => spec_NameOk.f k s = some (isNameB s) :=
  spec_NameOk_l0 s hs s.size 0 (by omega) (by omega)
end Go.Proofs.Ytgmfaendhnjekaa.B
namespace Go.Proofs.Ytgmfaendhnjekaa.B
open Go Go.RowKit Go.Proofs.YtgmfaendhnjekaaW.PrintWords Go.Proofs.YtgmfaendhnjekaaW.PrintLast Go.Proofs.YtgmfaendhnjekaaW.PrintMore Go.Proofs.Ytgmfaendhnjekaa.PX Go.Proofs.Ytgmfaendhnjekaa.B
theorem l2Time_eq (t : Int) : spec_l2Time.f t = some (isTimeB t) := by
  unfold spec_l2Time.f
  rw [l1In_eq]
  rfl
theorem spec_KeyOk_eq (r b : ByteArray) (t : Int) (hr : r.size ≤ 9223372036854775807) (hb : b.size ≤ 9223372036854775807) : LG fun k => spec_KeyOk.f k r b t = some (isKeyB r b t) := by
  refine ((spec_NameOk_eq r hr).and (spec_NameOk_eq b hb)).mono fun k ⟨h1, h2⟩ => ?_
  unfold spec_KeyOk.f isKeyB
  simp only [h1, h2, l2Time_eq, Option.bind_some]
  cases isNameB r <;> cases isNameB b <;> simp
end Go.Proofs.Ytgmfaendhnjekaa.B
namespace Go.Proofs.Ytgmfaendhnjekaa.B
open Go Go.RowKit Go.Proofs.YtgmfaendhnjekaaW.PrintWords Go.Proofs.YtgmfaendhnjekaaW.PrintLast Go.Proofs.YtgmfaendhnjekaaW.PrintMore Go.Proofs.Ytgmfaendhnjekaa.PX Go.Proofs.Ytgmfaendhnjekaa.B
theorem spec_CellOk_eq (r b : ByteArray) (t v : Int) (g : Bool) (hr : r.size ≤ 9223372036854775807) (hb : b.size ≤ 9223372036854775807) : LG fun k => spec_CellOk.f k r b t v g = some (isCellB r b t v g) := by
  refine (spec_KeyOk_eq r b t hr hb).mono fun k h => ?_
  unfold spec_CellOk.f isCellB
  simp only [h, l1Word_eq, Option.bind_some]
  cases isKeyB r b t <;> cases isWordB v <;> cases g <;> simp
end Go.Proofs.Ytgmfaendhnjekaa.B
namespace Go.Proofs.Ytgmfaendhnjekaa.B
open Go Go.RowKit Go.Proofs.YtgmfaendhnjekaaW.PrintWords Go.Proofs.YtgmfaendhnjekaaW.PrintLast Go.Proofs.YtgmfaendhnjekaaW.PrintMore Go.Proofs.Ytgmfaendhnjekaa.PX Go.Proofs.Ytgmfaendhnjekaa.B
theorem l2Less_eq (r1 b1 : ByteArray) (t1 : Int) (r2 b2 : ByteArray) (t2 : Int) : spec_l2Less.f r1 b1 t1 r2 b2 t2 = some (klt ⟨r1, b1, t1⟩ ⟨r2, b2, t2⟩) := by
  unfold spec_l2Less.f klt
  simp only [toList_inj]
  split
  · split <;> rfl
  · rfl
theorem cmp64_eq (a b : Int) : cmp_Compare_int64.f a b = some (if a < b then -1 else if a > b then 1 else 0) := by
  unfold cmp_Compare_int64.f cmp_isNaN_int64.f
  simp
  split
  · rfl
  · split <;> rfl
theorem or3_eq (a b c : Int) : LG fun k => cmp_Or_int.f k [a, b, c] = some (if a = 0 then (if b = 0 then c else b) else a) := by
  refine ⟨4, fun k hk => ?_⟩
  obtain ⟨j, rfl⟩ : ∃ j, k = j + 4 := ⟨k - 4, by omega⟩
  unfold cmp_Or_int.f
  have e1 : wrap64 1 = 1 := w64 (by omega) (by omega)
  have e2 : wrap64 2 = 2 := w64 (by omega) (by omega)
  have e3 : wrap64 3 = 3 := w64 (by omega) (by omega)
  by_cases ha : a = 0
  · by_cases hb : b = 0
    · by_cases hc : c = 0
      · simp [cmp_Or_int.l0, rd, ha, hb, hc, e1, e2, e3]
      · simp [cmp_Or_int.l0, rd, ha, hb, hc, e1, e2]
    · simp [cmp_Or_int.l0, rd, ha, hb, e1]
  · simp [cmp_Or_int.l0, rd, ha]
theorem compareKeys_eq (r1 b1 : ByteArray) (t1 : Int) (r2 b2 : ByteArray) (t2 : Int) : LG fun k => impl_compareKeys.f k r1 b1 t1 r2 b2 t2 = some (kcmp ⟨r1, b1, t1⟩ ⟨r2, b2, t2⟩) := by
  refine (or3_eq (Lib.compareBytes r1.data.toList r2.data.toList) (Lib.compareBytes b1.data.toList b2.data.toList) (if t2 < t1 then -1 else if t2 > t1 then 1 else 0)).mono fun k hk => ?_
  unfold impl_compareKeys.f strings_Compare.f
  simp only [Option.bind_some, cmp64_eq, hk]
  congr 1
  have key : ∀ s t : ByteArray, s.data.toList = t.data.toList ↔ s = t := fun s t => by rw [← toList_eq, ← toList_eq]; exact toList_inj s t
  unfold kcmp klt
  simp only [toList_eq]
  rcases cb_cases r1.data.toList r2.data.toList with ⟨h1, h2⟩ | ⟨h1, h2⟩ | ⟨h1, h2⟩
  · have hn : ¬ r1 = r2 := fun e => by rw [e, bl_irrefl] at h2; exact absurd h2 (by simp)
    simp [h1, h2, hn]
  · have h0 := (key _ _).mp h2
    subst h0
    rcases cb_cases b1.data.toList b2.data.toList with ⟨g1, g2⟩ | ⟨g1, g2⟩ | ⟨g1, g2⟩
    · have hn : ¬ b1 = b2 := fun e => by rw [e, bl_irrefl] at g2; exact absurd g2 (by simp)
      simp [h1, g1, g2, hn]
    · have g0 := (key _ _).mp g2
      subst g0
      simp only [h1, g1, if_true]
      by_cases ht : t2 < t1
      · simp [ht]
      · by_cases hu : t1 < t2
        · simp [ht, hu, show ¬ t1 = t2 by omega]
        · have : t1 = t2 := by omega
          simp [this]
    · have hn : ¬ b1 = b2 := fun e => by rw [e, bl_irrefl] at g2; exact absurd g2 (by simp)
      have hb : Op.bytesLess b1.data.toList b2.data.toList = false := bl_asymm _ _ g2
      simp [h1, g1, hb, hn]
  · have hn : ¬ r1 = r2 := fun e => by rw [e, bl_irrefl] at h2; exact absurd h2 (by simp)
    have hb : Op.bytesLess r1.data.toList r2.data.toList = false := bl_asymm _ _ h2
    simp [h1, hb, hn]
end Go.Proofs.Ytgmfaendhnjekaa.B
namespace Go.Proofs.Ytgmfaendhnjekaa.B
open Go Go.RowKit Go.Proofs.YtgmfaendhnjekaaW.PrintWords Go.Proofs.YtgmfaendhnjekaaW.PrintLast Go.Proofs.YtgmfaendhnjekaaW.PrintMore Go.Proofs.Ytgmfaendhnjekaa.PX Go.Proofs.Ytgmfaendhnjekaa.B
theorem spec_CellsOk_l0 (l : List S32) (hl : l.length ≤ 9223372036854775807) (hs : CellSz l) (d : Nat) : ∀ i : Nat, l.length - i = d → i ≤ l.length →
    LG fun k => spec_CellsOk.l0 k l (i : Int) = some (cellsRun (cellAhead l i) (l.drop i) && decide (l.length ≤ 200)) := by
  induction d with
  | zero =>
    intro i h1 h2
    refine LG.step fun j => ?_
    simp only [spec_CellsOk.l0]
    rw [if_neg (by omega), List.drop_of_length_le (by omega)]
    simp only [cellsRun, Bool.true_and]
    congr 1
    rw [Bool.eq_iff_iff]
    simp only [decide_eq_true_eq]
    omega
  | succ d ih =>
    intro i h1 h2
    have hi : i < l.length := by omega
    have hz := hs _ (List.getElem_mem hi)
    refine ((ih (i + 1) (by omega) (by omega)).and (spec_CellOk_eq (l[i]).f0.f0 (l[i]).f0.f1 (l[i]).f0.f2 (l[i]).f1 (l[i]).f2 hz.1 hz.2)).up fun j ⟨hj, hn⟩ => ?_
    simp only [spec_CellsOk.l0]
    rw [if_pos (by omega), if_pos (by omega), cellsRun_at l i hi, rdI_Cell l i hi, hn]
    simp only [Option.bind_some, l2Less_eq]
    rw [show isCellB (l[i]).f0.f0 (l[i]).f0.f1 (l[i]).f0.f2 (l[i]).f1 (l[i]).f2 = cellOkB l[i] from rfl]
    cases cellOkB l[i] with
    | false => simp
    | true =>
      simp only [if_true, Bool.true_and]
      have e1 : wrap64 ((i : Int) + 1) = ((i + 1 : Nat) : Int) := by rw [w64 (by omega) (by omega)]; omega
      by_cases h0 : i = 0
      · rw [if_neg (by omega), if_pos h0, e1, hj, Bool.true_and]
      · have e : wrap64 ((i : Int) - 1) = ((i - 1 : Nat) : Int) := by rw [w64 (by omega) (by omega)]; omega
        rw [if_pos (by omega), e, if_pos (by omega), if_pos (by omega), if_neg h0, e1, hj]
        cases klt (rd_T32 l ((i - 1 : Nat) : Int)).f0 (l[i]).f0 <;> simp
theorem spec_CellsOk_eq (l : List S32) (hl : l.length ≤ 9223372036854775807) (hs : CellSz l) : LG fun k => spec_CellsOk.f k l = some (cellsOkB l) := by
  simpa [spec_CellsOk.f, cellsOkB, cellAhead] using spec_CellsOk_l0 l hl hs l.length 0 (by omega) (by omega)
end Go.Proofs.Ytgmfaendhnjekaa.B
namespace Go.Proofs.Ytgmfaendhnjekaa.B
open Go Go.RowKit Go.Proofs.YtgmfaendhnjekaaW.PrintWords Go.Proofs.YtgmfaendhnjekaaW.PrintLast Go.Proofs.YtgmfaendhnjekaaW.PrintMore Go.Proofs.Ytgmfaendhnjekaa.PX Go.Proofs.Ytgmfaendhnjekaa.B
theorem impl_isName_l0 (s : ByteArray) (hs : s.size ≤ 9223372036854775807) (d : Nat) : ∀ i : Nat, i ≤ s.size → s.size - i = d →
    LG fun k => impl_isName.l0 k s (s.size : Int) (i : Int) = some (nameRun (s.data.toList.drop i) && (decide (1 ≤ s.size) && decide (s.size ≤ 8))) := by
  have hl := size_len s
  induction d with
  | zero =>
    intro i h1 h2
    refine LG.step fun j => ?_
    obtain rfl : i = s.size := by omega
    simp only [impl_isName.l0]
    rw [if_neg (by omega)]
    have e : nameRun (s.data.toList.drop s.size) = true := by rw [List.drop_of_length_le (by omega)]; rfl
    rw [e, Bool.true_and]
    by_cases h : 1 ≤ s.size
    · rw [if_pos (by omega), decide_eq_true h, Bool.true_and]
      congr 1
      rw [Bool.eq_iff_iff]
      simp only [decide_eq_true_eq]
      omega
    · rw [if_neg (by omega), decide_eq_false h, Bool.false_and]
  | succ d ih =>
    intro i h1 h2
    have hi : i < s.data.toList.length := by omega
    refine (ih (i + 1) (by omega) (by omega)).up fun j hj => ?_
    simp only [impl_isName.l0]
    rw [if_pos (by omega), if_pos (by omega), if_pos (by omega), bt_get s i hi, nameRun_at _ i hi]
    by_cases ha : (97 : Nat) ≤ (s.data.toList[i]).toNat
    · rw [if_neg (by omega)]
      by_cases hb : (s.data.toList[i]).toNat ≤ 122
      · rw [if_neg (by omega), w64 (by omega) (by omega), decide_eq_true ha, decide_eq_true hb]
        simpa using hj
      · rw [if_pos (by omega), decide_eq_false hb]
        simp
    · rw [if_pos (by omega), decide_eq_false ha]
      simp
theorem impl_isName_eq (s : ByteArray) (hs : s.size ≤ 9223372036854775807) : LG fun k => impl_isName.f k s = some (isNameB s) :=
  impl_isName_l0 s hs s.size 0 (by omega) (by omega)
end Go.Proofs.Ytgmfaendhnjekaa.B
namespace Go.Proofs.Ytgmfaendhnjekaa.B
open Go Go.RowKit Go.Proofs.YtgmfaendhnjekaaW.PrintWords Go.Proofs.YtgmfaendhnjekaaW.PrintLast Go.Proofs.YtgmfaendhnjekaaW.PrintMore Go.Proofs.Ytgmfaendhnjekaa.PX Go.Proofs.Ytgmfaendhnjekaa.B
theorem within_eq (a b c : Int) : impl_within.f a b c = some (decide (b ≤ a) && decide (a ≤ c)) := by
  unfold impl_within.f
  by_cases h : a ≥ b
  · rw [if_pos h, decide_eq_true (show b ≤ a from h), Bool.true_and]
  · rw [if_neg h, decide_eq_false (show ¬ b ≤ a from h), Bool.false_and]
end Go.Proofs.Ytgmfaendhnjekaa.B
namespace Go.Proofs.Ytgmfaendhnjekaa.B
open Go Go.RowKit Go.Proofs.YtgmfaendhnjekaaW.PrintWords Go.Proofs.YtgmfaendhnjekaaW.PrintLast Go.Proofs.YtgmfaendhnjekaaW.PrintMore Go.Proofs.Ytgmfaendhnjekaa.PX Go.Proofs.Ytgmfaendhnjekaa.B
theorem isTime_eq (t : Int) : impl_isTime.f t = some (isTimeB t) := by
  unfold impl_isTime.f
  rw [within_eq]
  rfl
theorem impl_isKey_eq (r b : ByteArray) (t : Int) (hr : r.size ≤ 9223372036854775807) (hb : b.size ≤ 9223372036854775807) : LG fun k => impl_isKey.f k r b t = some (isKeyB r b t) := by
  refine ((impl_isName_eq r hr).and (impl_isName_eq b hb)).mono fun k ⟨h1, h2⟩ => ?_
  unfold impl_isKey.f isKeyB
  simp only [h1, h2, isTime_eq, Option.bind_some]
  cases isNameB r <;> cases isNameB b <;> simp
end Go.Proofs.Ytgmfaendhnjekaa.B
namespace Go.Proofs.Ytgmfaendhnjekaa.B
open Go Go.RowKit Go.Proofs.YtgmfaendhnjekaaW.PrintWords Go.Proofs.YtgmfaendhnjekaaW.PrintLast Go.Proofs.YtgmfaendhnjekaaW.PrintMore Go.Proofs.Ytgmfaendhnjekaa.PX Go.Proofs.Ytgmfaendhnjekaa.B
theorem impl_isCell_eq (r b : ByteArray) (t v : Int) (g : Bool) (hr : r.size ≤ 9223372036854775807) (hb : b.size ≤ 9223372036854775807) : LG fun k => impl_isCell.f k r b t v g = some (isCellB r b t v g) := by
  refine (impl_isKey_eq r b t hr hb).mono fun k h => ?_
  unfold impl_isCell.f isCellB
  simp only [h, impl_isWord_eq, Option.bind_some]
  cases isKeyB r b t <;> cases isWordB v <;> cases g <;> simp
end Go.Proofs.Ytgmfaendhnjekaa.B
namespace Go.Proofs.Ytgmfaendhnjekaa.B
open Go Go.RowKit Go.Proofs.YtgmfaendhnjekaaW.PrintWords Go.Proofs.YtgmfaendhnjekaaW.PrintLast Go.Proofs.YtgmfaendhnjekaaW.PrintMore Go.Proofs.Ytgmfaendhnjekaa.PX Go.Proofs.Ytgmfaendhnjekaa.B
theorem impl_areCells_l0 (l : List S32) (hl : l.length ≤ 9223372036854775807) (hs : CellSz l) (d : Nat) : ∀ i : Nat, l.length - i = d → i ≤ l.length →
    LG fun k => impl_areCells.l0 k l l (l.length : Int) (i : Int) = some (cellsRun (cellAhead l i) (l.drop i) && decide (l.length ≤ 200)) := by
  induction d with
  | zero =>
    intro i h1 h2
    refine LG.step fun j => ?_
    simp only [impl_areCells.l0]
    rw [if_neg (by omega), List.drop_of_length_le (by omega)]
    simp only [cellsRun, Bool.true_and]
    congr 1
    rw [Bool.eq_iff_iff]
    simp only [decide_eq_true_eq]
    omega
  | succ d ih =>
    intro i h1 h2
    have hi : i < l.length := by omega
    have hz := hs _ (List.getElem_mem hi)
    refine (((ih (i + 1) (by omega) (by omega)).and (impl_isCell_eq (l[i]).f0.f0 (l[i]).f0.f1 (l[i]).f0.f2 (l[i]).f1 (l[i]).f2 hz.1 hz.2)).and
      (compareKeys_eq (rd_T32 l ((i - 1 : Nat) : Int)).f0.f0 (rd_T32 l ((i - 1 : Nat) : Int)).f0.f1 (rd_T32 l ((i - 1 : Nat) : Int)).f0.f2 (l[i]).f0.f0 (l[i]).f0.f1 (l[i]).f0.f2)).up fun j ⟨⟨hj, hn⟩, hc⟩ => ?_
    simp only [impl_areCells.l0]
    rw [if_pos (by omega), if_pos (by omega), if_pos (by omega), cellsRun_at l i hi, rdI_Cell l i hi, hn]
    simp only [Option.bind_some]
    rw [show isCellB (l[i]).f0.f0 (l[i]).f0.f1 (l[i]).f0.f2 (l[i]).f1 (l[i]).f2 = cellOkB l[i] from rfl]
    cases cellOkB l[i] with
    | false => simp
    | true =>
      simp only [if_true, Bool.true_and]
      have e1 : wrap64 ((i : Int) + 1) = ((i + 1 : Nat) : Int) := by rw [w64 (by omega) (by omega)]; omega
      by_cases h0 : i = 0
      · rw [if_neg (by omega), if_pos h0, e1, hj, Bool.true_and]
      · have e : wrap64 ((i : Int) - 1) = ((i - 1 : Nat) : Int) := by rw [w64 (by omega) (by omega)]; omega
        rw [if_pos (by omega), e, if_pos (by omega), if_pos (by omega), if_neg h0, e1, hj, hc]
        simp only [Option.bind_some]
        have hk := kcmp_neg (rd_T32 l ((i - 1 : Nat) : Int)).f0 (l[i]).f0
        have hkk : kcmp ⟨(rd_T32 l ((i - 1 : Nat) : Int)).f0.f0, (rd_T32 l ((i - 1 : Nat) : Int)).f0.f1, (rd_T32 l ((i - 1 : Nat) : Int)).f0.f2⟩ ⟨(l[i]).f0.f0, (l[i]).f0.f1, (l[i]).f0.f2⟩ = kcmp (rd_T32 l ((i - 1 : Nat) : Int)).f0 (l[i]).f0 := rfl
        rw [hkk]
        cases hb : klt (rd_T32 l ((i - 1 : Nat) : Int)).f0 (l[i]).f0 with
        | false =>
          rw [hb] at hk
          rw [if_pos (by have : ¬ kcmp (rd_T32 l ((i - 1 : Nat) : Int)).f0 (l[i]).f0 < 0 := fun h => by simpa using hk.mp h
                         omega)]
          simp
        | true =>
          rw [hb] at hk
          rw [if_neg (by have := hk.mpr rfl
                         omega)]
          simp
theorem impl_areCells_eq (l : List S32) (hl : l.length ≤ 9223372036854775807) (hs : CellSz l) : LG fun k => impl_areCells.f k l = some (cellsOkB l) := by
  simpa [impl_areCells.f, cellsOkB, cellAhead] using impl_areCells_l0 l hl hs l.length 0 (by omega) (by omega)
end Go.Proofs.Ytgmfaendhnjekaa.B
namespace Go.Proofs.Ytgmfaendhnjekaa.B
open Go Go.RowKit Go.Proofs.YtgmfaendhnjekaaW.PrintWords Go.Proofs.YtgmfaendhnjekaaW.PrintLast Go.Proofs.YtgmfaendhnjekaaW.PrintMore Go.Proofs.Ytgmfaendhnjekaa.PX Go.Proofs.Ytgmfaendhnjekaa.B
theorem szKey_some (r b : ByteArray) (t left : Int) : ∃ q, laws_szKey.f r b t left = some q := by
  unfold laws_szKey.f
  split
  · exact ⟨_, rfl⟩
  · split <;> exact ⟨_, rfl⟩
end Go.Proofs.Ytgmfaendhnjekaa.B
namespace Go.Proofs.Ytgmfaendhnjekaa.B
open Go Go.RowKit Go.Proofs.YtgmfaendhnjekaaW.PrintWords Go.Proofs.YtgmfaendhnjekaaW.PrintLast Go.Proofs.YtgmfaendhnjekaaW.PrintMore Go.Proofs.Ytgmfaendhnjekaa.PX Go.Proofs.Ytgmfaendhnjekaa.B
theorem szCell_some (r b : ByteArray) (t v : Int) (g : Bool) (left : Int) : ∃ q, laws_szCell.f r b t v g left = some q := by
  obtain ⟨q, hq⟩ := szKey_some r b t left
  unfold laws_szCell.f
  rw [hq]
  simp only [Option.bind_some]
  split <;> exact ⟨_, rfl⟩
end Go.Proofs.Ytgmfaendhnjekaa.B
namespace Go.Proofs.Ytgmfaendhnjekaa.B
open Go Go.RowKit Go.Proofs.YtgmfaendhnjekaaW.PrintWords Go.Proofs.YtgmfaendhnjekaaW.PrintLast Go.Proofs.YtgmfaendhnjekaaW.PrintMore Go.Proofs.Ytgmfaendhnjekaa.PX Go.Proofs.Ytgmfaendhnjekaa.B
def toK (x : S48) : S30 := ⟨x.f0, x.f1, x.f2⟩
def toC (x : S50) : S32 := ⟨toK x.f0, x.f1, x.f2⟩
theorem rdL_Cell (xs : List S50) (i : Nat) (h : i < xs.length) : rd_T50 xs (i : Int) = xs[i] := getD_nat xs _ i h
theorem szKey_le (r b : ByteArray) (t left : Int) (hr : r.size ≤ 9223372036854775807) (hb : b.size ≤ 9223372036854775807) (h0 : 0 ≤ left) (h1 : left ≤ 1048576) : ∃ q, laws_szKey.f r b t left = some q ∧ q ≤ left := by
  unfold laws_szKey.f
  rw [w64 (n := left - r.size) (by omega) (by omega)]
  by_cases h : left - (r.size : Int) < 0
  · rw [if_pos h]
    exact ⟨-1, rfl, by omega⟩
  · rw [if_neg h, w64 (by omega) (by omega)]
    split
    · exact ⟨-1, rfl, by omega⟩
    · exact ⟨_, rfl, by omega⟩
theorem szCell_le (r b : ByteArray) (t v : Int) (g : Bool) (left : Int) (hr : r.size ≤ 9223372036854775807) (hb : b.size ≤ 9223372036854775807) (h0 : 0 ≤ left) (h1 : left ≤ 1048576) : ∃ q, laws_szCell.f r b t v g left = some q ∧ q ≤ left := by
  obtain ⟨q, hq, hle⟩ := szKey_le r b t left hr hb h0 h1
  unfold laws_szCell.f
  rw [hq]
  simp only [Option.bind_some]
  split
  · exact ⟨-1, rfl, by omega⟩
  · exact ⟨q, rfl, hle⟩
def CellSzL (l : List S50) : Prop := ∀ x ∈ l, x.f0.f0.size ≤ 9223372036854775807 ∧ x.f0.f1.size ≤ 9223372036854775807
theorem szCellS_l0 (l : List S50) (hl : l.length ≤ 1048576) (hs : CellSzL l) (d : Nat) : ∀ (i : Nat) (left : Int), l.length - i = d → i ≤ l.length → 0 ≤ left → left ≤ 1048576 →
    ∃ r, (LG fun k => laws_szCellS.l0 k l left (i : Int) = some r) ∧ r ≤ left := by
  induction d with
  | zero =>
    intro i left h1 h2 _ _
    refine ⟨left, LG.step fun j => ?_, by omega⟩
    simp only [laws_szCellS.l0]
    rw [if_neg (by omega)]
  | succ d ih =>
    intro i left h1 h2 h3 h4
    have hi : i < l.length := by omega
    have hz := hs _ (List.getElem_mem hi)
    obtain ⟨r, hr, hle⟩ := szCell_le (l[i]).f0.f0 (l[i]).f0.f1 (l[i]).f0.f2 (l[i]).f1 (l[i]).f2 left hz.1 hz.2 h3 h4
    by_cases hn : r < 0
    · refine ⟨-1, LG.step fun j => ?_, by omega⟩
      simp only [laws_szCellS.l0]
      rw [if_pos (by omega), if_pos (by omega), rdL_Cell l i hi, hr]
      simp only [Option.bind_some]
      rw [if_pos hn]
    · obtain ⟨q, hq, hqr⟩ := ih (i + 1) r (by omega) (by omega) (by omega) (by omega)
      refine ⟨q, hq.up fun j hj => ?_, by omega⟩
      simp only [laws_szCellS.l0]
      rw [if_pos (by omega), if_pos (by omega), rdL_Cell l i hi, hr]
      simp only [Option.bind_some]
      rw [if_neg hn, w64 (by omega) (by omega)]
      simpa using hj
theorem szCellS_gen (l : List S50) (left : Int) (h0 : 0 ≤ left) (h1 : left ≤ 1048576) (hm : l.length ≤ 9223372036854775807) (hs : CellSzL l) : ∃ r, (LG fun k => laws_szCellS.f k l left = some r) ∧ r ≤ left ∧ (0 ≤ r → l.length ≤ 1048576) := by
  by_cases h : (l.length : Int) ≤ left
  · obtain ⟨r, hr, hle⟩ := szCellS_l0 l (by omega) hs l.length 0 (left - l.length) (by omega) (by omega) (by omega) (by omega)
    refine ⟨r, hr.mono fun k hk => ?_, by omega, fun _ => by omega⟩
    unfold laws_szCellS.f
    rw [w64 (by omega) (by omega), if_neg (by omega)]
    exact hk
  · refine ⟨-1, LG.all fun k => ?_, by omega, by omega⟩
    unfold laws_szCellS.f
    rw [w64 (by omega) (by omega), if_pos (by omega)]
theorem szCellS_eq (l : List S50) (hm : l.length ≤ 9223372036854775807) (hs : CellSzL l) : ∃ r, (LG fun k => laws_szCellS.f k l 1048576 = some r) ∧ (0 ≤ r → l.length ≤ 1048576) := by
  obtain ⟨r, hr, _, h⟩ := szCellS_gen l 1048576 (by omega) (by omega) hm hs
  exact ⟨r, hr, h⟩
theorem toCell_eq (x : S50) : laws_toCell.f x.f0.f0 x.f0.f1 x.f0.f2 x.f1 x.f2 = some ((toC x).f0.f0, (toC x).f0.f1, (toC x).f0.f2, (toC x).f1, (toC x).f2) := by
  unfold laws_toCell.f laws_toKey.f
  rfl
theorem toCellS_l0 (l : List S50) (hl : l.length ≤ 1048576) (d : Nat) : ∀ (i : Nat) (x : List S32), l.length - i = d → i ≤ l.length → x.length = l.length → x.take i = (l.map toC).take i →
    LG fun k => laws_toCellS.l0 k l x (i : Int) = some (l.map toC) := by
  induction d with
  | zero =>
    intro i x h1 h2 h3 h4
    refine LG.step fun j => ?_
    obtain rfl : i = l.length := by omega
    simp only [laws_toCellS.l0]
    rw [if_neg (by omega), take_all h3 (by simp) h4]
  | succ d ih =>
    intro i x h1 h2 h3 h4
    have hi : i < l.length := by omega
    refine (ih (i + 1) (x.set i (toC l[i])) (by omega) (by omega) (by simpa using h3) ?_).up fun j hj => ?_
    · rw [set_take _ _ _ (by omega), take_map_succ _ _ _ hi, h4]
    · simp only [laws_toCellS.l0]
      rw [if_pos (by omega), if_pos (by omega), rdL_Cell l i hi, toCell_eq]
      simp only [Option.bind_some]
      rw [if_pos (by omega), w64 (by omega) (by omega)]
      simpa using hj
theorem toCellS_eq (l : List S50) (hl : l.length ≤ 1048576) : LG fun k => laws_toCellS.f k l = some (l.map toC) := by
  refine (toCellS_l0 l hl l.length 0 (List.replicate l.length z32) (by omega) (by omega) (by simp) (by simp)).mono fun k hk => ?_
  unfold laws_toCellS.f
  rw [if_pos (by omega), if_pos (by omega), Int.toNat_natCast]
  exact hk
theorem eqCell_self (r b : ByteArray) (t v : Int) (g : Bool) : laws_eqCell.f r b t v g r b t v g = some true := by
  unfold laws_eqCell.f laws_eqKey.f
  simp
theorem eqCellS_l0 (l : List S32) (hl : l.length ≤ 9223372036854775807) (d : Nat) : ∀ i : Nat, l.length - i = d → i ≤ l.length → LG fun k => laws_eqCellS.l0 k l l (i : Int) = some true := by
  induction d with
  | zero =>
    intro i h1 h2
    refine LG.step fun j => ?_
    simp only [laws_eqCellS.l0]
    rw [if_neg (by omega)]
  | succ d ih =>
    intro i h1 h2
    refine (ih (i + 1) (by omega) (by omega)).up fun j hj => ?_
    simp only [laws_eqCellS.l0]
    rw [if_pos (by omega), if_pos (by omega), if_pos (by omega), eqCell_self]
    simp only [Option.bind_some, if_true]
    rw [w64 (by omega) (by omega)]
    simpa using hj
theorem eqCellS_self (l : List S32) (hl : l.length ≤ 9223372036854775807) : LG fun k => laws_eqCellS.f k l l = some true := by
  refine (eqCellS_l0 l hl l.length 0 (by omega) (by omega)).mono fun k hk => ?_
  unfold laws_eqCellS.f
  rw [if_pos rfl]
  exact hk
theorem toC_sz (l : List S50) (h : CellSzL l) : CellSz (l.map toC) := by
  intro x hx
  obtain ⟨y, hy, rfl⟩ := List.mem_map.mp hx
  exact h y hy
end Go.Proofs.Ytgmfaendhnjekaa.B
namespace Go.Proofs.Ytgmfaendhnjekaa.B
open Go Go.RowKit Go.Proofs.YtgmfaendhnjekaaW.PrintWords Go.Proofs.YtgmfaendhnjekaaW.PrintLast Go.Proofs.YtgmfaendhnjekaaW.PrintMore Go.Proofs.Ytgmfaendhnjekaa.PX Go.Proofs.Ytgmfaendhnjekaa.B
def alike (x y : S32) : Bool := decide (x.f0.f0 = y.f0.f0) && decide (x.f0.f1 = y.f0.f1)
theorem alike_iff (x y : S32) : alike x y = true ↔ x.f0.f0 = y.f0.f0 ∧ x.f0.f1 = y.f0.f1 := by simp [alike]
theorem tl_beq (a b : ByteArray) : (a.toList == b.toList) = decide (a = b) := by
  by_cases h : a = b
  · simp [h]
  · have := tl_ne h
    simp [h, this]
theorem l5Alike_eq (x y : S32) : spec_l5Alike.f x.f0.f0 x.f0.f1 x.f0.f2 x.f1 x.f2 y.f0.f0 y.f0.f1 y.f0.f2 y.f1 y.f2 = some (alike x y) := by
  unfold spec_l5Alike.f alike
  simp only [toList_inj, tl_beq]
  by_cases h : x.f0.f0 = y.f0.f0
  · rw [if_pos h]; simp [h]
  · rw [if_neg h]; simp [h]
theorem sameBin_eq (x y : S32) : impl_sameBin.f x.f0.f0 x.f0.f1 x.f0.f2 x.f1 x.f2 y.f0.f0 y.f0.f1 y.f0.f2 y.f1 y.f2 = some (alike x y) := by
  unfold impl_sameBin.f alike
  simp only [toList_inj, tl_beq]
  by_cases h : x.f0.f0 = y.f0.f0
  · rw [if_pos h]; simp [h]
  · rw [if_neg h]; simp [h]
/-- the last cells that are gone are dropped: both ways -/
theorem drop_both (l : List S32) (a1 a2 : Int) (x9 : Nat) (o : List S32) (base : Nat) (hbase : base ≤ o.length) (hA : ∀ j (h : j < o.length), base ≤ j → a2 < (o[j]).f0.f2) (n : Nat) : ∀ x : List S32, x.length = n → o.length + n ≤ 2000000000000 →
    (∀ c ∈ x, c.f0.f2 ≤ a2) → ∃ y : List S32, y.length ≤ x.length ∧ (∀ q, (LG fun k => spec_l5Thin.l0 k l a1 a2 (o ++ y) (x9 : Int) = some q) → LG fun k => spec_l5Thin.l2 k l a1 a2 o (x9 : Int) x = some q) ∧
      (∀ q, (LG fun k => impl_thinned.l0 k l a1 a2 (o ++ y) (x9 : Int) = some q) → LG fun k => impl_thinned.l2 k l a1 a2 (o ++ x) (x9 : Int) (base : Int) = some q) := by
  induction n with
  | zero =>
    intro x hx hlen ht
    obtain rfl : x = [] := List.eq_nil_of_length_eq_zero hx
    refine ⟨[], Nat.le_refl _, fun q hq => hq.up fun j hj => ?_, fun q hq => hq.up fun j hj => ?_⟩
    · simp only [spec_l5Thin.l2, List.length_nil]
      rw [if_neg (by omega), if_pos (by omega)]
      exact hj
    · simp only [impl_thinned.l2]
      rw [List.append_nil] at hj ⊢
      by_cases hb : base = o.length
      · rw [if_neg (by omega)]
        exact hj
      · have hl1 : o.length - 1 < o.length := by omega
        have hw : wrap64 ((o.length : Int) - 1) = ((o.length - 1 : Nat) : Int) := by rw [w64 (by omega) (by omega)]; omega
        have hlt := hA (o.length - 1) hl1 (by omega)
        rw [if_pos (by omega), hw, if_pos (by omega), if_pos (by omega), rdI_Cell o _ hl1]
        by_cases hg : (o[o.length - 1]).f2 = true
        · rw [if_pos hg, if_neg (by omega)]
          exact hj
        · rw [if_neg hg]
          exact hj
  | succ n ih =>
    intro x hx hlen ht
    have hn : n < x.length := by omega
    have hw : wrap64 ((x.length : Int) - 1) = (n : Int) := by rw [w64 (by omega) (by omega)]; omega
    have hwo : wrap64 (((o ++ x).length : Int) - 1) = ((o.length + n : Nat) : Int) := by rw [List.length_append, w64 (by omega) (by omega)]; omega
    have hon : o.length + n < (o ++ x).length := by rw [List.length_append]; omega
    have hge : (o ++ x)[o.length + n] = x[n] := by rw [List.getElem_append_right (by omega)]; congr 1; omega
    have hta := ht _ (List.getElem_mem hn)
    by_cases hg : (x[n]).f2 = true
    · obtain ⟨y, hy, h1, h2⟩ := ih (x.take n) (by rw [List.length_take]; omega) (by omega) (fun c hc => ht c (List.mem_of_mem_take hc))
      refine ⟨y, by rw [List.length_take] at hy; omega, fun q hq => (h1 q hq).up fun j hj => ?_, fun q hq => (h2 q hq).up fun j hj => ?_⟩
      · simp only [spec_l5Thin.l2]
        rw [hw, if_pos (by omega), if_pos (by omega), if_pos (by omega), rdI_Cell x n hn, if_pos hg, if_pos (by omega), Int.toNat_natCast]
        exact hj
      · simp only [impl_thinned.l2]
        rw [hwo, if_pos (by omega), if_pos (by omega), if_pos (by omega), rdI_Cell _ _ hon, hge, if_pos hg, if_pos hta, if_pos (by omega), Int.toNat_natCast]
        rw [show (o ++ x).take (o.length + n) = o ++ x.take n from by rw [List.take_append]; simp [List.take_of_length_le (show o.length ≤ o.length + n by omega)]]
        exact hj
    · refine ⟨x, Nat.le_refl _, fun q hq => hq.up fun j hj => ?_, fun q hq => hq.up fun j hj => ?_⟩
      · simp only [spec_l5Thin.l2]
        rw [hw, if_pos (by omega), if_pos (by omega), if_pos (by omega), rdI_Cell x n hn, if_neg hg, if_pos (by omega)]
        exact hj
      · simp only [impl_thinned.l2]
        rw [hwo, if_pos (by omega), if_pos (by omega), if_pos (by omega), rdI_Cell _ _ hon, hge, if_neg hg]
        exact hj
theorem and3 {a b c : Prop} (h : c) (g : a ∧ b) : a ∧ b ∧ c := ⟨g.1, g.2, h⟩
/-- how many are kept of c cells -/
def XC (n c : Nat) (a1 : Int) : Prop := ((c : Int) ≤ a1 → n = c) ∧ (a1 < (c : Int) → (n : Int) = a1)
/-- once one is old, the further ones are -/
def Old (l : List S32) (a2 : Int) (x : S32) (c m : Nat) : Prop := 0 < c → ∀ j (h : j < l.length), m ≤ j → alike x l[j] = true → (l[j]).f0.f2 ≤ a2
def Young (o : List S32) (a2 : Int) (base : Nat) : Prop := ∀ j (h : j < o.length), base ≤ j → a2 < (o[j]).f0.f2
theorem old_next {l : List S32} (ha : CellAsc l) {a2 : Int} {x : S32} {m c : Nat} (hm : m < l.length) (hal : alike x l[m] = true) (hle : (l[m]).f0.f2 ≤ a2) : Old l a2 x c (m + 1) := by
  intro _ j h hmj hj
  have hlt := asc_at ha m j hm h hmj
  rw [alike_iff] at hal hj
  rw [klt_iff] at hlt
  have e0 : (l[m]).f0.f0 = (l[j]).f0.f0 := hal.1.symm.trans hj.1
  have e1 : (l[m]).f0.f1 = (l[j]).f0.f1 := hal.2.symm.trans hj.2
  rcases hlt with g | ⟨_, g | ⟨_, g⟩⟩
  · rw [e0, bl_irrefl] at g; exact absurd g (by simp)
  · rw [e1, bl_irrefl] at g; exact absurd g (by simp)
  · exact Int.le_trans (Int.le_of_lt g) hle
theorem young_next {o : List S32} {a2 : Int} {base : Nat} {z : S32} (h : Young o a2 base) (hz : a2 < z.f0.f2) : Young (o ++ [z]) a2 base := by
  intro j hj hb
  by_cases hjo : j < o.length
  · rw [List.getElem_append_left hjo]; exact h j hjo hb
  · have e : j = o.length := by rw [List.length_append] at hj; simp at hj; omega
    subst e
    rw [List.getElem_append_right (Nat.le_refl _)]
    simpa using hz
theorem all_next {x : List S32} {a2 : Int} {z : S32} (h : ∀ c ∈ x, c.f0.f2 ≤ a2) (hz : z.f0.f2 ≤ a2) : ∀ c ∈ x ++ [z], c.f0.f2 ≤ a2 := by
  intro c hc
  rcases List.mem_append.mp hc with hc | hc
  · exact h c hc
  · rw [List.mem_singleton] at hc; subst hc; exact hz
theorem wsucc (c : Nat) (h : c ≤ 1048576) : wrap64 ((c : Int) + 1) = ((c + 1 : Nat) : Int) := by rw [w64 (by omega) (by omega)]; omega
set_option maxHeartbeats 1000000 in
theorem thin_group (l : List S32) (hl : l.length ≤ 1048576) (ha : CellAsc l) (a1 a2 : Int) (hk0 : 0 ≤ a1) (hk1 : a1 ≤ 9) (i : Nat) (hi : i < l.length)
    (H : ∀ (m : Nat) (o : List S32), i < m → m ≤ l.length → o.length ≤ m → ∃ q : List S32, (LG fun k => spec_l5Thin.l0 k l a1 a2 o (m : Int) = some q) ∧ (LG fun k => impl_thinned.l0 k l a1 a2 o (m : Int) = some q) ∧ q.length ≤ l.length)
    (base : Nat) (e : Nat) : ∀ (m : Nat) (o x : List S32) (c : Nat), l.length - m = e → i ≤ m → m ≤ l.length → base ≤ o.length → Young o a2 base → (∀ z ∈ x, z.f0.f2 ≤ a2) →
      o.length + x.length ≤ m → c ≤ m → XC x.length c a1 → Old l a2 l[i] c m →
      ∃ q : List S32, (LG fun k => spec_l5Thin.l1 k l a1 a2 o (i : Int) (m : Int) x = some q) ∧ (LG fun k => impl_thinned.l1 k l a1 a2 (o ++ x) (m : Int) (base : Int) (c : Int) (l[i]).f0.f0 (l[i]).f0.f1 (l[i]).f0.f2 (l[i]).f1 (l[i]).f2 = some q) ∧ q.length ≤ l.length := by
  induction e with
  | zero =>
    intro m o x c he him hml hb hA hx hlen hcm hc1 hc3
    obtain rfl : m = l.length := by omega
    obtain ⟨y, hy, h1, h2⟩ := drop_both l a1 a2 l.length o base hb hA x.length x rfl (by omega) hx
    obtain ⟨q, hq1, hq2, hql⟩ := H l.length (o ++ y) hi (Nat.le_refl _) (by rw [List.length_append]; omega)
    refine ⟨q, ((h1 q hq1).up (q := fun k => spec_l5Thin.j2 k l a1 a2 o (i : Int) (l.length : Int) x false = some q) fun j hj => ?_).up fun j hj => ?_, ((h2 q hq2).up (q := fun k => impl_thinned.j2 k l a1 a2 (o ++ x) (l.length : Int) (base : Int) (c : Int) false (l[i]).f0.f0 (l[i]).f0.f1 (l[i]).f0.f2 (l[i]).f1 (l[i]).f2 = some q) fun j hj => ?_).up fun j hj => ?_, hql⟩
    · simp only [spec_l5Thin.j2, Bool.false_eq_true, if_false]
      exact hj
    · simp only [spec_l5Thin.l1]
      rw [if_neg (by omega)]
      exact hj
    · simp only [impl_thinned.j2, Bool.false_eq_true, if_false]
      exact hj
    · simp only [impl_thinned.l1]
      rw [if_neg (by omega)]
      exact hj
  | succ e ih =>
    intro m o x c he him hml hb hA hx hlen hcm hc1 hc3
    have hm : m < l.length := by omega
    -- what the second step answers, the first one answers
    have key : ∀ q, (LG fun k => spec_l5Thin.j2 k l a1 a2 o (i : Int) (m : Int) x (alike l[i] l[m]) = some q) → (LG fun k => impl_thinned.j2 k l a1 a2 (o ++ x) (m : Int) (base : Int) (c : Int) (alike l[m] l[i]) (l[i]).f0.f0 (l[i]).f0.f1 (l[i]).f0.f2 (l[i]).f1 (l[i]).f2 = some q) →
        (LG fun k => spec_l5Thin.l1 k l a1 a2 o (i : Int) (m : Int) x = some q) ∧ (LG fun k => impl_thinned.l1 k l a1 a2 (o ++ x) (m : Int) (base : Int) (c : Int) (l[i]).f0.f0 (l[i]).f0.f1 (l[i]).f0.f2 (l[i]).f1 (l[i]).f2 = some q) := by
      intro q h1 h2
      refine ⟨h1.up fun j hj => ?_, h2.up fun j hj => ?_⟩
      · simp only [spec_l5Thin.l1]
        rw [if_pos (by omega), if_pos (by omega), if_pos (by omega), if_pos (by omega), rdI_Cell l i hi, rdI_Cell l m hm, l5Alike_eq]
        exact hj
      · simp only [impl_thinned.l1]
        rw [if_pos (by omega), if_pos (by omega), rdI_Cell l m hm, sameBin_eq l[m] l[i]]
        exact hj
    by_cases hal : alike l[i] l[m] = true
    · have hal2 : alike l[m] l[i] = true := by rw [alike_iff] at hal ⊢; exact ⟨hal.1.symm, hal.2.symm⟩
      have hmb : m ≤ 1048576 := Nat.le_trans hml hl
      rw [hal, hal2] at key
      by_cases ht : (l[m]).f0.f2 > a2
      · -- not thinned
        have hc0 : c = 0 := by
          rcases Nat.eq_zero_or_pos c with h | h
          · exact h
          · have := hc3 h m hm (Nat.le_refl _) hal; omega
        subst hc0
        have hx0 : x = [] := List.eq_nil_of_length_eq_zero (by have := hc1.1 (by omega); omega)
        subst hx0
        obtain ⟨q, h1, h2, hql⟩ := ih (m + 1) (o ++ [l[m]]) [] 0 (by omega) (by omega) (by omega) (by rw [List.length_append]; omega) (young_next hA ht) (by simp) (by rw [List.length_append]; simp at hlen ⊢; omega) (by omega) ⟨fun _ => rfl, fun h => by omega⟩ (fun h => absurd h (Nat.lt_irrefl _))
        refine ⟨q, and3 hql (key q (h1.up fun j hj => ?_) (h2.up fun j hj => ?_))⟩
        · simp only [spec_l5Thin.j2, if_true]
          rw [if_pos (by omega), if_pos (by omega), rdI_Cell l m hm, if_pos ht, if_pos (by simp at hlen; omega), wsucc m hmb]
          exact hj
        · simp only [impl_thinned.j2, if_true]
          rw [if_pos (by omega), if_pos (by omega), rdI_Cell l m hm, if_neg (by omega), if_pos (by omega), if_pos (by simp at hlen ⊢; omega), wsucc m hmb]
          simpa using hj
      · have hle : (l[m]).f0.f2 ≤ a2 := Int.not_lt.mp ht
        have hcb : c ≤ 1048576 := Nat.le_trans hcm hmb
        by_cases hck : (c : Int) + 1 ≤ a1
        · have hxl := hc1.1 (by omega)
          obtain ⟨q, h1, h2, hql⟩ := ih (m + 1) o (x ++ [l[m]]) (c + 1) (by omega) (by omega) (by omega) hb hA (all_next hx hle) (by rw [List.length_append]; simp; omega) (by omega) ⟨fun _ => by rw [List.length_append]; simp; omega, fun h => by omega⟩ (old_next ha hm hal hle)
          refine ⟨q, and3 hql (key q (h1.up fun j hj => ?_) (h2.up fun j hj => ?_))⟩
          · simp only [spec_l5Thin.j2, if_true]
            rw [if_pos (by omega), if_pos (by omega), rdI_Cell l m hm, if_neg ht, if_pos (by omega), if_pos (by omega), wsucc m hmb]
            exact hj
          · simp only [impl_thinned.j2, if_true]
            rw [if_pos (by omega), if_pos (by omega), rdI_Cell l m hm, if_pos hle, wsucc c hcb, if_pos (by omega), if_pos (by rw [List.length_append]; omega), wsucc m hmb, List.append_assoc]
            exact hj
        · have hxl : (x.length : Int) = a1 := by
            by_cases h : (c : Int) ≤ a1
            · have := hc1.1 h; omega
            · exact hc1.2 (by omega)
          obtain ⟨q, h1, h2, hql⟩ := ih (m + 1) o x (c + 1) (by omega) (by omega) (by omega) hb hA hx (by omega) (by omega) ⟨fun h => by omega, fun _ => hxl⟩ (old_next ha hm hal hle)
          refine ⟨q, and3 hql (key q (h1.up fun j hj => ?_) (h2.up fun j hj => ?_))⟩
          · simp only [spec_l5Thin.j2, if_true]
            rw [if_pos (by omega), if_pos (by omega), rdI_Cell l m hm, if_neg ht, if_neg (by omega), wsucc m hmb]
            exact hj
          · simp only [impl_thinned.j2, if_true]
            rw [if_pos (by omega), if_pos (by omega), rdI_Cell l m hm, if_pos hle, wsucc c hcb, if_neg (by omega), wsucc m hmb]
            exact hj
    · have him' : i < m := by
        by_cases h : i = m
        · subst h; exact absurd ((alike_iff _ _).mpr ⟨rfl, rfl⟩) hal
        · omega
      have hal' : alike l[i] l[m] = false := by simpa using hal
      have hal2 : alike l[m] l[i] = false := by
        cases h : alike l[m] l[i]
        · rfl
        · rw [alike_iff] at h
          exact absurd ((alike_iff _ _).mpr ⟨h.1.symm, h.2.symm⟩) hal
      rw [hal', hal2] at key
      obtain ⟨y, hy, h1, h2⟩ := drop_both l a1 a2 m o base hb hA x.length x rfl (by omega) hx
      obtain ⟨q, hq1, hq2, hql⟩ := H m (o ++ y) him' hml (by rw [List.length_append]; omega)
      refine ⟨q, and3 hql (key q ((h1 q hq1).up fun j hj => ?_) ((h2 q hq2).up fun j hj => ?_))⟩
      · simp only [spec_l5Thin.j2, Bool.false_eq_true, if_false]
        exact hj
      · simp only [impl_thinned.j2, Bool.false_eq_true, if_false]
        exact hj
theorem thin_both (l : List S32) (hl : l.length ≤ 1048576) (ha : CellAsc l) (a1 a2 : Int) (hk0 : 0 ≤ a1) (hk1 : a1 ≤ 9) (d : Nat) : ∀ (m : Nat) (o : List S32), l.length - m ≤ d → m ≤ l.length → o.length ≤ m →
    ∃ q : List S32, (LG fun k => spec_l5Thin.l0 k l a1 a2 o (m : Int) = some q) ∧ (LG fun k => impl_thinned.l0 k l a1 a2 o (m : Int) = some q) ∧ q.length ≤ l.length := by
  induction d with
  | zero =>
    intro m o h1 h2 h3
    refine ⟨o, LG.step fun j => ?_, LG.step fun j => ?_, by omega⟩
    · simp only [spec_l5Thin.l0]
      rw [if_neg (by omega)]
    · simp only [impl_thinned.l0]
      rw [if_neg (by omega)]
  | succ d ih =>
    intro m o h1 h2 h3
    by_cases hm : m < l.length
    · obtain ⟨q, g1, g2, hql⟩ := thin_group l hl ha a1 a2 hk0 hk1 m hm (fun m' o' a b c => ih m' o' (by omega) b c) o.length (l.length - m) m o [] 0 rfl (Nat.le_refl _) h2 (Nat.le_refl _) (fun j h h' => by omega) (by simp) (by simpa using h3) (by omega) ⟨fun _ => rfl, fun h => by omega⟩ (fun h => absurd h (Nat.lt_irrefl _))
      refine ⟨q, g1.up fun j hj => ?_, g2.up fun j hj => ?_, hql⟩
      · simp only [spec_l5Thin.l0]
        rw [if_pos (by omega)]
        exact hj
      · simp only [impl_thinned.l0]
        rw [if_pos (by omega), if_pos (by omega), rdI_Cell l m hm]
        simpa using hj
    · exact ih m o (by omega) h2 h3
end Go.Proofs.Ytgmfaendhnjekaa.B
namespace Go.Proofs.Ytgmfaendhnjekaa.B
open Go Go.RowKit Go.Proofs.YtgmfaendhnjekaaW.PrintWords Go.Proofs.YtgmfaendhnjekaaW.PrintLast Go.Proofs.YtgmfaendhnjekaaW.PrintMore Go.Proofs.Ytgmfaendhnjekaa.PX Go.Proofs.Ytgmfaendhnjekaa.B
def keepB (a1 a2 : Int) : Bool := (decide (1 ≤ a1) && decide (a1 ≤ 9)) && isTimeB a2
theorem isKeep_eq (a1 a2 : Int) : impl_isKeep.f a1 a2 = some (keepB a1 a2) := by
  unfold impl_isKeep.f keepB
  rw [within_eq, isTime_eq]
  simp only [Option.bind_some]
  cases (decide (1 ≤ a1) && decide (a1 ≤ 9)) <;> simp
theorem Thinned_both (l : List S32) (hl : l.length ≤ 1048576) (hs : CellSz l) (a1 a2 : Int) :
    ∃ q : List S32, (LG fun k => spec_Thinned.f k l a1 a2 = some q) ∧ (LG fun k => impl_Thinned.f k l a1 a2 = some q) ∧ q.length ≤ 1048576 := by
  have hc1 := spec_CellsOk_eq l (by omega) hs
  have hc2 := impl_areCells_eq l (by omega) hs
  have hkp : keepB a1 a2 = ((decide (1 ≤ a1) && decide (a1 ≤ 9)) && isTimeB a2) := rfl
  by_cases hok : cellsOkB l = true
  · by_cases hk : keepB a1 a2 = true
    · have hk' := hk
      rw [hkp, Bool.and_eq_true] at hk'
      have hr := hk'.1
      rw [Bool.and_eq_true, decide_eq_true_eq, decide_eq_true_eq] at hr
      obtain ⟨q, h1, h2, h3⟩ := thin_both l hl (cellsOk_asc hok) a1 a2 (by omega) hr.2 l.length 0 [] (by omega) (by omega) (by simp)
      refine ⟨q, (hc1.and h1).mono fun k h => ?_, (hc2.and h2).mono fun k h => ?_, by omega⟩
      · have e : spec_l5Thin.f k l a1 a2 = some q := h.2
        unfold spec_Thinned.f
        simp only [h.1, l1In_eq, l2Time_eq, hk'.1, hk'.2, e, hok, Option.bind_some, if_true]
      · have e : impl_thinned.f k l a1 a2 = some q := h.2
        unfold impl_Thinned.f
        simp only [h.1, isKeep_eq, hk, e, hok, Option.bind_some, if_true]
    · refine ⟨[], hc1.mono fun k h => ?_, hc2.mono fun k h => ?_, by simp⟩
      · unfold spec_Thinned.f
        simp only [h, l1In_eq, l2Time_eq, hok, Option.bind_some, if_true]
        by_cases h1 : (decide (1 ≤ a1) && decide (a1 ≤ 9)) = true
        · have h2 : ¬ isTimeB a2 = true := fun h2 => hk (by rw [hkp, h1, h2]; rfl)
          rw [if_pos h1, if_neg h2]
        · rw [if_neg h1]
      · unfold impl_Thinned.f
        simp only [h, isKeep_eq, hok, Option.bind_some, if_true, if_neg hk]
  · refine ⟨[], hc1.mono fun k h => ?_, hc2.mono fun k h => ?_, by simp⟩
    · unfold spec_Thinned.f
      simp only [h, Option.bind_some, if_neg hok]
    · unfold impl_Thinned.f
      simp only [h, Option.bind_some, if_neg hok]
end Go.Proofs.Ytgmfaendhnjekaa.B
namespace Go.Proofs.Ytgmfaendhnjekaa.B
open Go Go.RowKit Go.Proofs.YtgmfaendhnjekaaW.PrintWords Go.Proofs.YtgmfaendhnjekaaW.PrintLast Go.Proofs.YtgmfaendhnjekaaW.PrintMore Go.Proofs.Ytgmfaendhnjekaa.PX Go.Proofs.Ytgmfaendhnjekaa.B
theorem strOfNums1 (n : Int) : (strOfNums [n]).size = 1 := rfl
theorem markText_l0 (d : Nat) : ∀ (x : Int) (s : ByteArray), x ≤ d → (s.size : Int) + x ≤ 9000000000000000000 → (0 ≤ x) → ∃ t, (LG fun k => laws_markText.l0 k x s = some t) := by
  induction d using Nat.strongRecOn with
  | _ d ih =>
    intro x s h1 h2 h3
    by_cases hx : x > 0
    · have hd : Int.tdiv x 10 = x / 10 := by rw [Int.tdiv_eq_ediv_of_nonneg (by omega)]
      have hw : wrap64 (Int.tdiv x 10) = x / 10 := by rw [hd, w64 (by omega) (by omega)]
      have hs : ∀ n : Int, (strOfNums [n] ++ s).size = 1 + s.size := fun n => by rw [ByteArray.size_append, strOfNums1]
      obtain ⟨t, ht⟩ := ih (x / 10).toNat (by omega) (x / 10) (strOfNums [(wrap64 (48 + (Int.tmod x 10))) % 256] ++ s) (by omega) (by rw [hs]; omega) (by omega)
      refine ⟨t, ht.up fun j hj => ?_⟩
      simp only [laws_markText.l0]
      rw [if_pos hx]
      simp only [Option.bind_some]
      rw [strOfNums1, if_pos (by omega), hw]
      exact hj
    · refine ⟨(⟨#[109]⟩ : ByteArray) ++ s, LG.step fun j => ?_⟩
      simp only [laws_markText.l0]
      rw [if_neg hx, if_pos (by omega)]
theorem markText_some (x : Int) (h : x ≤ 4000000000000000000) : ∃ t, (LG fun k => laws_markText.f k x = some t) := by
  by_cases h0 : x ≤ 0
  · refine ⟨⟨#[109, 48]⟩, LG.all fun k => ?_⟩
    unfold laws_markText.f
    rw [if_pos h0]
  · obtain ⟨t, ht⟩ := markText_l0 x.toNat x ⟨#[]⟩ (by omega) (by show ((0 : Nat) : Int) + x ≤ _; omega) (by omega)
    refine ⟨t, ht.mono fun k hk => ?_⟩
    unfold laws_markText.f
    rw [if_neg h0]
    exact hk
open Classical in
/-- the text that the marks have at a number -/
noncomputable def mt (x : Int) : ByteArray := if h : x ≤ 4000000000000000000 then (markText_some x h).choose else ⟨#[]⟩
theorem markText_eq (x : Int) (h : x ≤ 4000000000000000000) : LG fun k => laws_markText.f k x = some (mt x) := by
  unfold mt
  rw [dif_pos h]
  exact (markText_some x h).choose_spec
end Go.Proofs.Ytgmfaendhnjekaa.B
namespace Go.Proofs.Ytgmfaendhnjekaa.B
open Go Go.RowKit Go.Proofs.YtgmfaendhnjekaaW.PrintWords Go.Proofs.YtgmfaendhnjekaaW.PrintLast Go.Proofs.YtgmfaendhnjekaaW.PrintMore Go.Proofs.Ytgmfaendhnjekaa.PX Go.Proofs.Ytgmfaendhnjekaa.B
/-- the marked cell at number n -/
noncomputable def mcell (n : Int) : S32 := ⟨⟨mt n, mt (n + 1), n + 2⟩, n + 3, Int.tmod (n + 4) 3 == 0⟩
noncomputable def mcells : Nat → Int → List S32
  | 0, _ => []
  | m + 1, n => mcell n :: mcells m (n + 5)
theorem mcells_len : ∀ m n, (mcells m n).length = m
  | 0, _ => rfl
  | m + 1, n => by rw [mcells, List.length_cons, mcells_len]
theorem mcells_get : ∀ (m : Nat) (n : Int) (i : Nat) (h : i < (mcells m n).length), (mcells m n)[i] = mcell (n + 5 * i)
  | 0, _, i, h => absurd h (by simp [mcells])
  | m + 1, n, 0, h => by simp [mcells]
  | m + 1, n, i + 1, h => by
    have := mcells_get m (n + 5) i (by simpa [mcells] using h)
    simp only [mcells, List.getElem_cons_succ, this]
    congr 1
    omega
theorem rd_set_Cell (xs : List S32) (i : Nat) (v : S32) (h : i < xs.length) : rd_T32 (xs.set i v) (i : Int) = v := by
  rw [rdI_Cell _ i (by simpa using h), List.getElem_set_self]
theorem markCellS_l0 (m : Nat) (N : Int) (hN : 0 ≤ N) (hb : N + 5 * m ≤ 1000000000) (d : Nat) : ∀ (i : Nat) (x : List S32), m - i = d → i ≤ m → x.length = m → x.take i = (mcells m N).take i →
    LG fun k => laws_markCellS.l0 k x (N + 5 * i) (i : Int) = some (N + 5 * m, mcells m N) := by
  induction d with
  | zero =>
    intro i x h1 h2 h3 h4
    refine LG.step fun j => ?_
    obtain rfl : i = m := by omega
    simp only [laws_markCellS.l0]
    rw [if_neg (by omega), take_all h3 (mcells_len _ _) h4]
  | succ d ih =>
    intro i x h1 h2 h3 h4
    have hi : i < x.length := by omega
    have hi2 : i < (mcells m N).length := by rw [mcells_len]; omega
    refine (((ih (i + 1) (x.set i (mcell (N + 5 * i))) (by omega) (by omega) (by simpa using h3) ?_).and (markText_eq (N + 5 * i) (by omega))).and (markText_eq (N + 5 * i + 1) (by omega))).up fun j hj => ?_
    · rw [set_take _ _ _ hi, List.take_succ_eq_append_getElem hi2, h4, mcells_get]
    · have e1 : wrap64 (N + 5 * (i : Int) + 1) = N + 5 * i + 1 := w64 (by omega) (by omega)
      have e2 : wrap64 (N + 5 * (i : Int) + 1 + 1) = N + 5 * i + 2 := by rw [w64 (by omega) (by omega)]; omega
      have e3 : wrap64 (N + 5 * (i : Int) + 2 + 1) = N + 5 * i + 3 := by rw [w64 (by omega) (by omega)]; omega
      have e4 : wrap64 (N + 5 * (i : Int) + 3 + 1) = N + 5 * i + 4 := by rw [w64 (by omega) (by omega)]; omega
      have e5 : wrap64 (N + 5 * (i : Int) + 4 + 1) = N + 5 * ((i + 1 : Nat) : Int) := by rw [w64 (by omega) (by omega)]; omega
      simp only [laws_markCellS.l0]
      rw [if_pos (by omega), hj.1.2]
      simp only [Option.bind_some, e1, e2, e3, e4, e5, hj.2, Int.toNat_natCast]
      rw [if_pos (by omega), w64 (n := (i : Int) + 1) (by omega) (by omega)]
      simp only [rd_set_Cell x i _ hi, List.set_set, rd_set_Cell]
      simpa [mcell] using hj.1.1
theorem markCellS_eq (x : List S32) (N : Int) (hN : 0 ≤ N) (hb : N + 5 * x.length ≤ 1000000000) : LG fun k => laws_markCellS.f k x N = some (N + 5 * x.length, mcells x.length N) := by
  refine (markCellS_l0 x.length N hN hb x.length 0 x (by omega) (by omega) rfl (by simp)).mono fun k hk => ?_
  unfold laws_markCellS.f
  simpa using hk
theorem heldCellS_l0 (m : Nat) (N : Int) (hN : 0 ≤ N) (hb : N + 5 * m ≤ 1000000000) (d : Nat) : ∀ i : Nat, m - i = d → i ≤ m →
    LG fun k => laws_heldCellS.l0 k (mcells m N) (N + 5 * i) (i : Int) = some (N + 5 * m) := by
  induction d with
  | zero =>
    intro i h1 h2
    refine LG.step fun j => ?_
    obtain rfl : i = m := by omega
    simp only [laws_heldCellS.l0, mcells_len]
    rw [if_neg (by omega)]
  | succ d ih =>
    intro i h1 h2
    have hi2 : i < (mcells m N).length := by rw [mcells_len]; omega
    refine (((ih (i + 1) (by omega) (by omega)).and (markText_eq (N + 5 * i) (by omega))).and (markText_eq (N + 5 * i + 1) (by omega))).up fun j hj => ?_
    have e1 : wrap64 (N + 5 * (i : Int) + 1) = N + 5 * i + 1 := w64 (by omega) (by omega)
    have e2 : wrap64 (N + 5 * (i : Int) + 1 + 1) = N + 5 * i + 2 := by rw [w64 (by omega) (by omega)]; omega
    have e3 : wrap64 (N + 5 * (i : Int) + 2 + 1) = N + 5 * i + 3 := by rw [w64 (by omega) (by omega)]; omega
    have e4 : wrap64 (N + 5 * (i : Int) + 3 + 1) = N + 5 * i + 4 := by rw [w64 (by omega) (by omega)]; omega
    have e5 : wrap64 (N + 5 * (i : Int) + 4 + 1) = N + 5 * ((i + 1 : Nat) : Int) := by rw [w64 (by omega) (by omega)]; omega
    have hlen := mcells_len m N
    simp only [laws_heldCellS.l0, rdI_Cell _ i hi2, mcells_get, e1, e2, e3, e4, e5]
    rw [if_pos (by omega), if_pos (by omega), hj.1.2]
    simp only [Option.bind_some]
    simp only [mcell, hj.2, Option.bind_some, eq_self, ↓reduceIte, bne_self_eq_false, Bool.false_eq_true]
    rw [w64 (n := (i : Int) + 1) (by omega) (by omega)]
    simpa using hj.1.1
theorem heldCellS_eq (m : Nat) (N : Int) (hN : 0 ≤ N) (hb : N + 5 * m ≤ 1000000000) : LG fun k => laws_heldCellS.f k (mcells m N) N = some (N + 5 * m) := by
  refine (heldCellS_l0 m N hN hb m 0 (by omega) (by omega)).mono fun k hk => ?_
  unfold laws_heldCellS.f
  simpa using hk
end Go.Proofs.Ytgmfaendhnjekaa.B
namespace Go.Proofs.Ytgmfaendhnjekaa.Pure
open Go Go.RowKit Go.Proofs.YtgmfaendhnjekaaW.PrintWords Go.Proofs.YtgmfaendhnjekaaW.PrintLast Go.Proofs.YtgmfaendhnjekaaW.PrintMore Go.Proofs.Ytgmfaendhnjekaa.PX Go.Proofs.Ytgmfaendhnjekaa.B
theorem FnExactThinned : FnExactThinned_Pure := by
  intro l a1 a2 hl _ _
  have hz : CellSzL l := fun x hx => ⟨(hl.2 x hx).1.1, (hl.2 x hx).1.2.1⟩
  obtain ⟨r, hr, hle⟩ := szCellS_eq l hl.1 hz
  by_cases h0 : r < 0
  · obtain ⟨k, hk⟩ := hr.rounds
    refine ⟨k, ?_⟩
    unfold laws_FnExactThinned.f
    simp only [hk, Option.bind_some, if_pos h0]
  · have hlen := hle (by omega)
    have hml : (l.map toC).length ≤ 1048576 := by rw [List.length_map]; omega
    have hms := toC_sz l hz
    obtain ⟨q, hq1, hq2, hql⟩ := Thinned_both (l.map toC) hml hms a1 a2
    obtain ⟨K, hK⟩ := ((((((((hr.and (toCellS_eq l hlen)).and hq1).and hq2).and (eqCellS_self q (by omega))).and (eqCellS_self (l.map toC) (by omega))).and (markCellS_eq (l.map toC) 1 (by omega) (by omega))).and (markCellS_eq q 1 (by omega) (by omega))).and (heldCellS_eq q.length 1 (by omega) (by omega)))
    obtain ⟨⟨⟨⟨⟨⟨⟨⟨_, e2⟩, _⟩, e4⟩, e5⟩, _⟩, _⟩, e8⟩, e9⟩ := hK K (Nat.le_refl _)
    obtain ⟨⟨⟨⟨⟨⟨⟨⟨f1, f2⟩, f3⟩, f4⟩, f5⟩, f6⟩, f7⟩, _⟩, _⟩ := hK (K + 1) (by omega)
    refine ⟨K + 1, ?_⟩
    have hn1 : ¬ (1 + 5 * ((l.map toC).length : Int) < 0) := by omega
    have hn2 : ¬ (1 + 5 * (q.length : Int) < 0) := by omega
    have hj : laws_FnExactThinned.j0 (K + 1) l a1 a2 q q false = some true := by
      simp only [laws_FnExactThinned.j0, Bool.false_eq_true, if_false, e2, e4, e5, e8, e9, Option.bind_some, if_neg hn2, if_true]
    unfold laws_FnExactThinned.f
    simp only [f1, f2, f3, f4, f5, f6, f7, Option.bind_some, if_neg h0, if_neg hn1, if_true, Bool.not_true, hj]
end Go.Proofs.Ytgmfaendhnjekaa.Pure
