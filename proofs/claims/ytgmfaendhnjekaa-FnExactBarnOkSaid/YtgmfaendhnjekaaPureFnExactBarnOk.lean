import Derived.Test.YtgmfaendhnjekaaPXx0
import Derived.Test.YtgmfaendhnjekaaPXx2
import Derived.Test.YtgmfaendhnjekaaPXx3
import Derived.Test.YtgmfaendhnjekaaPXx4
import Derived.Test.YtgmfaendhnjekaaPXx5
import Derived.Test.YtgmfaendhnjekaaPXx6
import Derived.Test.YtgmfaendhnjekaaPXx7
import Derived.Test.YtgmfaendhnjekaaPXx12
import Derived.Test.YtgmfaendhnjekaaPXx13
import Derived.Test.YtgmfaendhnjekaaPXx14
import Derived.Test.YtgmfaendhnjekaaStFnExactBarnOk
import Derived.Lib.Bytealg
import Derived.Test.YtgmfaendhnjekaaWMore
set_option linter.unusedVariables false
set_option linter.unusedSimpArgs false
namespace Go.Proofs.Ytgmfaendhnjekaa.B
open Go Go.RowKit Go.Proofs.YtgmfaendhnjekaaW.PrintWords Go.Proofs.YtgmfaendhnjekaaW.PrintLast Go.Proofs.YtgmfaendhnjekaaW.PrintMore Go.Proofs.Ytgmfaendhnjekaa.PX
/-- From some number of rounds on. -/
def LG (p : Nat → Prop) : Prop := ∃ K, ∀ k, K ≤ k → p k
namespace LG
theorem all {p : Nat → Prop} (h : ∀ k, p k) : LG p := ⟨0, fun k _ => h k⟩
theorem step {p : Nat → Prop} (h : ∀ j, p (j + 1)) : LG p := ⟨1, fun k hk => by
  obtain ⟨j, rfl⟩ : ∃ j, k = j + 1 := ⟨k - 1, by omega⟩
  exact h j⟩
theorem and {p q : Nat → Prop} (h : LG p) (g : LG q) : LG fun k => p k ∧ q k := by
  obtain ⟨a, h⟩ := h
  obtain ⟨b, g⟩ := g
  exact ⟨max a b, fun k hk => ⟨h k (by omega), g k (by omega)⟩⟩
theorem mono {p q : Nat → Prop} (h : LG p) (g : ∀ k, p k → q k) : LG q := by
  obtain ⟨a, h⟩ := h
  exact ⟨a, fun k hk => g k (h k hk)⟩
/-- One round: what holds of j holds of j + 1 rounds. -/
theorem up {p q : Nat → Prop} (h : LG p) (g : ∀ j, p j → q (j + 1)) : LG q := by
  obtain ⟨a, h⟩ := h
  refine ⟨a + 1, fun k hk => ?_⟩
  obtain ⟨j, rfl⟩ : ∃ j, k = j + 1 := ⟨k - 1, by omega⟩
  exact g j (h j (by omega))
theorem rounds {p : Nat → Prop} (h : LG p) : ∃ k, p k := by
  obtain ⟨a, h⟩ := h
  exact ⟨a, h a (Nat.le_refl _)⟩
end LG
def I64 (n : Int) : Prop := -9223372036854775808 ≤ n ∧ n ≤ 9223372036854775807
theorem i64_of {n : Int} (h : (Lit.int .i64 n).wf = true) : I64 n := by
  simp only [Lit.wf, IntKind.min, IntKind.max, IntKind.signed, IntKind.bits, Bool.and_eq_true, decide_eq_true_eq, if_true] at h
  unfold I64
  omega
theorem w64 {n : Int} (h0 : -9223372036854775808 ≤ n) (h1 : n ≤ 9223372036854775807) : wrap64 n = n := by
  unfold wrap64
  omega
theorem bt_get (s : ByteArray) (i : Nat) (h : i < s.data.toList.length) : bt s (i : Int) = ((s.data.toList[i]).toNat : Int) := by
  have hs : (i : Int).toNat < s.size := by
    have : s.size = s.data.toList.length := by rw [Array.length_toList]; rfl
    omega
  unfold bt
  rw [dif_pos hs]
  rfl
theorem size_len (s : ByteArray) : s.data.toList.length = s.size := by rw [Array.length_toList]; rfl
end Go.Proofs.Ytgmfaendhnjekaa.B
namespace Go.Proofs.Ytgmfaendhnjekaa.B
open Go Go.RowKit Go.Proofs.YtgmfaendhnjekaaW.PrintWords Go.Proofs.YtgmfaendhnjekaaW.PrintLast Go.Proofs.YtgmfaendhnjekaaW.PrintMore Go.Proofs.Ytgmfaendhnjekaa.PX Go.Proofs.Ytgmfaendhnjekaa.B
theorem getD_nat {α : Type} (xs : List α) (z : α) (i : Nat) (h : i < xs.length) : xs.getD (i : Int).toNat z = xs[i] := by
  rw [Int.toNat_natCast, List.getD_eq_getElem?_getD, List.getElem?_eq_getElem h]
  rfl
theorem set_take {α : Type} (xs : List α) (i : Nat) (v : α) (h : i < xs.length) : (xs.set i v).take (i + 1) = xs.take i ++ [v] := by
  rw [List.take_succ_eq_append_getElem (by simpa using h), List.take_set_of_le (Nat.le_refl i), List.getElem_set_self]
theorem take_map_succ {α β : Type} (f : α → β) (xs : List α) (i : Nat) (h : i < xs.length) : (xs.map f).take (i + 1) = (xs.map f).take i ++ [f xs[i]] := by
  rw [List.take_succ_eq_append_getElem (by simpa using h), List.getElem_map]
theorem take_all {α : Type} {xs ys : List α} {n : Nat} (hx : xs.length = n) (hy : ys.length = n) (h : xs.take n = ys.take n) : xs = ys := by
  rw [List.take_of_length_le (by omega), List.take_of_length_le (by omega)] at h
  exact h
theorem toList_eq (s : ByteArray) : s.toList = s.data.toList := by
  first | exact ByteArray.toList_eq s | simp
theorem toList_inj (s t : ByteArray) : s.toList = t.toList ↔ s = t := by
  rw [toList_eq, toList_eq]
  constructor
  · intro h
    obtain ⟨⟨l⟩⟩ := s
    obtain ⟨⟨m⟩⟩ := t
    simp at h
    rw [h]
  · rintro rfl
    rfl
end Go.Proofs.Ytgmfaendhnjekaa.B
namespace Go.Proofs.Ytgmfaendhnjekaa.B
open Go Go.RowKit Go.Proofs.YtgmfaendhnjekaaW.PrintWords Go.Proofs.YtgmfaendhnjekaaW.PrintLast Go.Proofs.YtgmfaendhnjekaaW.PrintMore Go.Proofs.Ytgmfaendhnjekaa.PX Go.Proofs.Ytgmfaendhnjekaa.B
/-! the order of texts -/
theorem bl_irrefl : ∀ a : List UInt8, Op.bytesLess a a = false
  | [] => rfl
  | c :: a => by simp [Op.bytesLess, bl_irrefl a]
theorem bl_trans : ∀ a b c : List UInt8, Op.bytesLess a b = true → Op.bytesLess b c = true → Op.bytesLess a c = true
  | _, _, [], _, h => by simp [Op.bytesLess] at h
  | _, [], _ :: _, h, _ => by simp [Op.bytesLess] at h
  | [], _ :: _, _ :: _, _, _ => by simp [Op.bytesLess]
  | x :: a, y :: b, z :: c, h, g => by
    simp only [Op.bytesLess, Bool.or_eq_true, decide_eq_true_eq, Bool.and_eq_true, beq_iff_eq] at h g ⊢
    rcases h with h | ⟨rfl, h⟩
    · rcases g with g | ⟨rfl, g⟩
      · exact .inl (UInt8.lt_trans h g)
      · exact .inl h
    · rcases g with g | ⟨rfl, g⟩
      · exact .inl g
      · exact .inr ⟨rfl, bl_trans a b c h g⟩
theorem cb_cases : ∀ a b : List UInt8, (Lib.compareBytes a b = -1 ∧ Op.bytesLess a b = true) ∨ (Lib.compareBytes a b = 0 ∧ a = b) ∨ (Lib.compareBytes a b = 1 ∧ Op.bytesLess b a = true)
  | [], [] => by simp [Lib.compareBytes]
  | [], _ :: _ => by simp [Lib.compareBytes, Op.bytesLess]
  | _ :: _, [] => by simp [Lib.compareBytes, Op.bytesLess]
  | x :: a, y :: b => by
    simp only [Lib.compareBytes, Op.bytesLess]
    by_cases h : x < y
    · simp [h]
    · by_cases g : y < x
      · simp [h, g]
      · have e : x = y := by
          have h1 : ¬ x.toNat < y.toNat := h
          have h2 : ¬ y.toNat < x.toNat := g
          exact UInt8.toNat_inj.mp (by omega)
        subst e
        rcases cb_cases a b with ⟨h1, h2⟩ | ⟨h1, h2⟩ | ⟨h1, h2⟩
        · simp [h1, h2]
        · subst h2
          simp [h1]
        · simp [h1, h2]
theorem bl_asymm (a b : List UInt8) (h : Op.bytesLess a b = true) : Op.bytesLess b a = false := by
  cases e : Op.bytesLess b a
  · rfl
  · have := bl_trans a b a h e
    rw [bl_irrefl] at this
    exact absurd this (by simp)
theorem bl_tri (a b : List UInt8) : Op.bytesLess a b = true ∨ a = b ∨ Op.bytesLess b a = true := by
  rcases cb_cases a b with h | h | h
  · exact .inl h.2
  · exact .inr (.inl h.2)
  · exact .inr (.inr h.2)
end Go.Proofs.Ytgmfaendhnjekaa.B
namespace Go.Proofs.Ytgmfaendhnjekaa.B
open Go Go.RowKit Go.Proofs.YtgmfaendhnjekaaW.PrintWords Go.Proofs.YtgmfaendhnjekaaW.PrintLast Go.Proofs.YtgmfaendhnjekaaW.PrintMore Go.Proofs.Ytgmfaendhnjekaa.PX Go.Proofs.Ytgmfaendhnjekaa.B
/-- a key comes ahead of another one -/
def klt (a b : S30) : Bool :=
  if a.f0 = b.f0 then (if a.f1 = b.f1 then decide (a.f2 > b.f2) else Op.bytesLess a.f1.toList b.f1.toList) else Op.bytesLess a.f0.toList b.f0.toList
theorem klt_irrefl (a : S30) : klt a a = false := by simp [klt]
theorem tl_ne {s t : ByteArray} (h : s ≠ t) : s.toList ≠ t.toList := fun e => h ((toList_inj s t).mp e)
theorem bl_ne {s t : ByteArray} (h : Op.bytesLess s.toList t.toList = true) : s ≠ t := by
  rintro rfl
  rw [bl_irrefl] at h
  exact absurd h (by simp)
theorem klt_iff (a b : S30) : klt a b = true ↔ Op.bytesLess a.f0.toList b.f0.toList = true ∨ (a.f0 = b.f0 ∧ (Op.bytesLess a.f1.toList b.f1.toList = true ∨ (a.f1 = b.f1 ∧ b.f2 < a.f2))) := by
  unfold klt
  by_cases h : a.f0 = b.f0
  · rw [if_pos h]
    have e : Op.bytesLess a.f0.toList b.f0.toList = false := by rw [h]; exact bl_irrefl _
    by_cases g : a.f1 = b.f1
    · rw [if_pos g]
      have e2 : Op.bytesLess a.f1.toList b.f1.toList = false := by rw [g]; exact bl_irrefl _
      simp [h, g, e, e2, bl_irrefl]
    · rw [if_neg g]
      simp [h, g, bl_irrefl]
  · rw [if_neg h]
    simp [h]
theorem klt_trans (a b c : S30) (h : klt a b = true) (g : klt b c = true) : klt a c = true := by
  rw [klt_iff] at h g ⊢
  rcases h with h | ⟨h0, h⟩
  · rcases g with g | ⟨g0, g⟩
    · exact .inl (bl_trans _ _ _ h g)
    · exact .inl (by rw [← g0]; exact h)
  · rcases g with g | ⟨g0, g⟩
    · exact .inl (by rw [h0]; exact g)
    · refine .inr ⟨h0.trans g0, ?_⟩
      rcases h with h | ⟨h1, h⟩
      · rcases g with g | ⟨g1, g⟩
        · exact .inl (bl_trans _ _ _ h g)
        · exact .inl (by rw [← g1]; exact h)
      · rcases g with g | ⟨g1, g⟩
        · exact .inl (by rw [h1]; exact g)
        · exact .inr ⟨h1.trans g1, by omega⟩
theorem klt_asymm (a b : S30) (h : klt a b = true) : klt b a = false := by
  cases e : klt b a
  · rfl
  · have := klt_trans a b a h e
    rw [klt_irrefl] at this
    exact absurd this (by simp)
theorem klt_tri (a b : S30) : klt a b = true ∨ a = b ∨ klt b a = true := by
  rw [klt_iff, klt_iff]
  rcases bl_tri a.f0.toList b.f0.toList with h | h | h
  · exact .inl (.inl h)
  · have h0 := (toList_inj _ _).mp h
    rcases bl_tri a.f1.toList b.f1.toList with g | g | g
    · exact .inl (.inr ⟨h0, .inl g⟩)
    · have g0 := (toList_inj _ _).mp g
      rcases Int.lt_trichotomy a.f2 b.f2 with t | t | t
      · exact .inr (.inr (.inr ⟨h0.symm, .inr ⟨g0.symm, t⟩⟩))
      · refine .inr (.inl ?_)
        obtain ⟨a0, a1, a2⟩ := a
        obtain ⟨b0, b1, b2⟩ := b
        simp only at h0 g0 t
        subst h0 g0 t
        rfl
      · exact .inl (.inr ⟨h0, .inr ⟨g0, t⟩⟩)
    · exact .inr (.inr (.inr ⟨h0.symm, .inl g⟩))
  · exact .inr (.inr (.inl h))
/-- the comparison of two keys as a number -/
def kcmp (a b : S30) : Int := if klt a b = true then -1 else if a.f0 = b.f0 ∧ a.f1 = b.f1 ∧ a.f2 = b.f2 then 0 else 1
theorem key_ext (a b : S30) : (a.f0 = b.f0 ∧ a.f1 = b.f1 ∧ a.f2 = b.f2) ↔ a = b := by
  obtain ⟨a0, a1, a2⟩ := a
  obtain ⟨b0, b1, b2⟩ := b
  constructor
  · rintro ⟨h0, h1, h2⟩
    simp only at h0 h1 h2
    subst h0 h1 h2
    rfl
  · rintro h
    injection h with h0 h1 h2
    exact ⟨h0, h1, h2⟩
theorem kcmp_neg (a b : S30) : (kcmp a b < 0) ↔ klt a b = true := by
  unfold kcmp
  by_cases h : klt a b = true
  · simp [h]
  · rw [if_neg h]
    split <;> simp_all
theorem kcmp_zero (a b : S30) : (kcmp a b = 0) ↔ a = b := by
  rw [← key_ext]
  unfold kcmp
  by_cases h : klt a b = true
  · rw [if_pos h]
    constructor
    · intro e
      omega
    · intro e
      obtain rfl := (key_ext a b).mp e
      rw [klt_irrefl] at h
      exact absurd h (by simp)
  · rw [if_neg h]
    split <;> simp_all
end Go.Proofs.Ytgmfaendhnjekaa.B
namespace Go.Proofs.Ytgmfaendhnjekaa.B
open Go Go.RowKit Go.Proofs.YtgmfaendhnjekaaW.PrintWords Go.Proofs.YtgmfaendhnjekaaW.PrintLast Go.Proofs.YtgmfaendhnjekaaW.PrintMore Go.Proofs.Ytgmfaendhnjekaa.PX Go.Proofs.Ytgmfaendhnjekaa.B
/-- all bytes are from a to z -/
def nameRun (l : List UInt8) : Bool := l.all fun c => decide (97 ≤ c.toNat) && decide (c.toNat ≤ 122)
def isNameB (s : ByteArray) : Bool := nameRun s.data.toList && (decide (1 ≤ s.size) && decide (s.size ≤ 8))
theorem nameRun_at (l : List UInt8) (i : Nat) (h : i < l.length) : nameRun (l.drop i) = (decide (97 ≤ (l[i]).toNat) && decide ((l[i]).toNat ≤ 122) && nameRun (l.drop (i + 1))) := by
  rw [List.drop_eq_getElem_cons h]
  simp only [nameRun, List.all_cons]
end Go.Proofs.Ytgmfaendhnjekaa.B
namespace Go.Proofs.Ytgmfaendhnjekaa.B
open Go Go.RowKit Go.Proofs.YtgmfaendhnjekaaW.PrintWords Go.Proofs.YtgmfaendhnjekaaW.PrintLast Go.Proofs.YtgmfaendhnjekaaW.PrintMore Go.Proofs.Ytgmfaendhnjekaa.PX Go.Proofs.Ytgmfaendhnjekaa.B
def isTimeB (t : Int) : Bool := decide (0 ≤ t) && decide (t ≤ 1000000)
def isKeyB (r b : ByteArray) (t : Int) : Bool := isNameB r && (isNameB b && isTimeB t)
end Go.Proofs.Ytgmfaendhnjekaa.B
namespace Go.Proofs.Ytgmfaendhnjekaa.B
open Go Go.RowKit Go.Proofs.YtgmfaendhnjekaaW.PrintWords Go.Proofs.YtgmfaendhnjekaaW.PrintLast Go.Proofs.YtgmfaendhnjekaaW.PrintMore Go.Proofs.Ytgmfaendhnjekaa.PX Go.Proofs.Ytgmfaendhnjekaa.B
def isWordB (n : Int) : Bool := decide (-2147483648 ≤ n) && decide (n ≤ 2147483647)
theorem l1In_eq (a b c : Int) : spec_l1In.f a b c = some (decide (b ≤ a) && decide (a ≤ c)) := by
  unfold spec_l1In.f
  by_cases h : a ≥ b
  · rw [if_pos h, decide_eq_true (show b ≤ a from h), Bool.true_and]
  · rw [if_neg h, decide_eq_false (show ¬ b ≤ a from h), Bool.false_and]
theorem l1Word_eq (n : Int) : spec_l1Word.f n = some (isWordB n) := by
  unfold spec_l1Word.f
  rw [l1In_eq]
  rfl
theorem w32_range (n : Int) : -2147483648 ≤ wrap32 n ∧ wrap32 n ≤ 2147483647 := by
  unfold wrap32
  omega
theorem impl_wrap_eq (n : Int) : impl_wrap.f n = some (wrap32 n) := by
  have := w32_range n
  unfold impl_wrap.f
  rw [w64 (by omega) (by omega)]
theorem isWordB_wrap (n : Int) : (n == wrap32 n) = isWordB n := by
  unfold isWordB
  rw [Bool.eq_iff_iff]
  simp only [beq_iff_eq, Bool.and_eq_true, decide_eq_true_eq]
  unfold wrap32
  omega
theorem impl_isWord_eq (n : Int) : impl_isWord.f n = some (isWordB n) := by
  unfold impl_isWord.f
  rw [impl_wrap_eq]
  simp only [Option.bind_some]
  rw [isWordB_wrap]
end Go.Proofs.Ytgmfaendhnjekaa.B
namespace Go.Proofs.Ytgmfaendhnjekaa.B
open Go Go.RowKit Go.Proofs.YtgmfaendhnjekaaW.PrintWords Go.Proofs.YtgmfaendhnjekaaW.PrintLast Go.Proofs.YtgmfaendhnjekaaW.PrintMore Go.Proofs.Ytgmfaendhnjekaa.PX Go.Proofs.Ytgmfaendhnjekaa.B
def isCellB (r b : ByteArray) (t v : Int) (g : Bool) : Bool := isKeyB r b t && (isWordB v && (!g || v == 0))
end Go.Proofs.Ytgmfaendhnjekaa.B
namespace Go.Proofs.Ytgmfaendhnjekaa.B
open Go Go.RowKit Go.Proofs.YtgmfaendhnjekaaW.PrintWords Go.Proofs.YtgmfaendhnjekaaW.PrintLast Go.Proofs.YtgmfaendhnjekaaW.PrintMore Go.Proofs.Ytgmfaendhnjekaa.PX Go.Proofs.Ytgmfaendhnjekaa.B
/-- a cell's parts -/
def cellOkB (x : S32) : Bool := isCellB x.f0.f0 x.f0.f1 x.f0.f2 x.f1 x.f2
def cellsRun (p : Option S30) : List S32 → Bool
  | [] => true
  | x :: r => cellOkB x && ((match p with | none => true | some q => klt q x.f0) && cellsRun (some x.f0) r)
def cellsOkB (l : List S32) : Bool := cellsRun none l && decide (l.length ≤ 200)
def cellAhead (l : List S32) (i : Nat) : Option S30 := if i = 0 then none else (l[i - 1]?).map (fun x => x.f0)
theorem rdI_Cell (xs : List S32) (i : Nat) (h : i < xs.length) : rd_T32 xs (i : Int) = xs[i] := getD_nat xs _ i h
theorem cellsRun_at (l : List S32) (i : Nat) (h : i < l.length) : cellsRun (cellAhead l i) (l.drop i) =
    (cellOkB l[i] && ((if i = 0 then true else klt (rd_T32 l ((i - 1 : Nat) : Int)).f0 (l[i]).f0) && cellsRun (cellAhead l (i + 1)) (l.drop (i + 1)))) := by
  rw [List.drop_eq_getElem_cons h]
  have e : cellAhead l (i + 1) = some (l[i]).f0 := by simp [cellAhead, List.getElem?_eq_getElem h]
  rw [e]
  by_cases h0 : i = 0
  · subst h0
    simp [cellsRun, cellAhead]
  · have h1 : i - 1 < l.length := by omega
    rw [rdI_Cell l (i - 1) h1]
    simp [cellsRun, cellAhead, h0, List.getElem?_eq_getElem h1]
def CellSz (l : List S32) : Prop := ∀ x ∈ l, x.f0.f0.size ≤ 9223372036854775807 ∧ x.f0.f1.size ≤ 9223372036854775807
end Go.Proofs.Ytgmfaendhnjekaa.B
namespace Go.Proofs.Ytgmfaendhnjekaa.B
open Go Go.RowKit Go.Proofs.YtgmfaendhnjekaaW.PrintWords Go.Proofs.YtgmfaendhnjekaaW.PrintLast Go.Proofs.YtgmfaendhnjekaaW.PrintMore Go.Proofs.Ytgmfaendhnjekaa.PX Go.Proofs.Ytgmfaendhnjekaa.B
theorem szKey_some (r b : ByteArray) (t left : Int) : ∃ q, laws_szKey.f r b t left = some q := by
  unfold laws_szKey.f
  split
  · exact ⟨_, rfl⟩
  · split <;> exact ⟨_, rfl⟩
end Go.Proofs.Ytgmfaendhnjekaa.B
namespace Go.Proofs.Ytgmfaendhnjekaa.B
open Go Go.RowKit Go.Proofs.YtgmfaendhnjekaaW.PrintWords Go.Proofs.YtgmfaendhnjekaaW.PrintLast Go.Proofs.YtgmfaendhnjekaaW.PrintMore Go.Proofs.Ytgmfaendhnjekaa.PX Go.Proofs.Ytgmfaendhnjekaa.B
theorem szCell_some (r b : ByteArray) (t v : Int) (g : Bool) (left : Int) : ∃ q, laws_szCell.f r b t v g left = some q := by
  obtain ⟨q, hq⟩ := szKey_some r b t left
  unfold laws_szCell.f
  rw [hq]
  simp only [Option.bind_some]
  split <;> exact ⟨_, rfl⟩
end Go.Proofs.Ytgmfaendhnjekaa.B
namespace Go.Proofs.Ytgmfaendhnjekaa.B
open Go Go.RowKit Go.Proofs.YtgmfaendhnjekaaW.PrintWords Go.Proofs.YtgmfaendhnjekaaW.PrintLast Go.Proofs.YtgmfaendhnjekaaW.PrintMore Go.Proofs.Ytgmfaendhnjekaa.PX Go.Proofs.Ytgmfaendhnjekaa.B
def toK (x : S48) : S30 := ⟨x.f0, x.f1, x.f2⟩
def toC (x : S50) : S32 := ⟨toK x.f0, x.f1, x.f2⟩
theorem rdL_Cell (xs : List S50) (i : Nat) (h : i < xs.length) : rd_T50 xs (i : Int) = xs[i] := getD_nat xs _ i h
theorem szKey_le (r b : ByteArray) (t left : Int) (hr : r.size ≤ 9223372036854775807) (hb : b.size ≤ 9223372036854775807) (h0 : 0 ≤ left) (h1 : left ≤ 1048576) : ∃ q, laws_szKey.f r b t left = some q ∧ q ≤ left := by
  unfold laws_szKey.f
  rw [w64 (n := left - r.size) (by omega) (by omega)]
  by_cases h : left - (r.size : Int) < 0
  · rw [if_pos h]
    exact ⟨-1, rfl, by omega⟩
  · rw [if_neg h, w64 (by omega) (by omega)]
    split
    · exact ⟨-1, rfl, by omega⟩
    · exact ⟨_, rfl, by omega⟩
theorem szCell_le (r b : ByteArray) (t v : Int) (g : Bool) (left : Int) (hr : r.size ≤ 9223372036854775807) (hb : b.size ≤ 9223372036854775807) (h0 : 0 ≤ left) (h1 : left ≤ 1048576) : ∃ q, laws_szCell.f r b t v g left = some q ∧ q ≤ left := by
  obtain ⟨q, hq, hle⟩ := szKey_le r b t left hr hb h0 h1
  unfold laws_szCell.f
  rw [hq]
  simp only [Option.bind_some]
  split
  · exact ⟨-1, rfl, by omega⟩
  · exact ⟨q, rfl, hle⟩
def CellSzL (l : List S50) : Prop := ∀ x ∈ l, x.f0.f0.size ≤ 9223372036854775807 ∧ x.f0.f1.size ≤ 9223372036854775807
theorem szCellS_l0 (l : List S50) (hl : l.length ≤ 1048576) (hs : CellSzL l) (d : Nat) : ∀ (i : Nat) (left : Int), l.length - i = d → i ≤ l.length → 0 ≤ left → left ≤ 1048576 →
    ∃ r, (LG fun k => laws_szCellS.l0 k l left (i : Int) = some r) ∧ r ≤ left := by
  induction d with
  | zero =>
    intro i left h1 h2 _ _
    refine ⟨left, LG.step fun j => ?_, by omega⟩
    simp only [laws_szCellS.l0]
    rw [if_neg (by omega)]
  | succ d ih =>
    intro i left h1 h2 h3 h4
    have hi : i < l.length := by omega
    have hz := hs _ (List.getElem_mem hi)
    obtain ⟨r, hr, hle⟩ := szCell_le (l[i]).f0.f0 (l[i]).f0.f1 (l[i]).f0.f2 (l[i]).f1 (l[i]).f2 left hz.1 hz.2 h3 h4
    by_cases hn : r < 0
    · refine ⟨-1, LG.step fun j => ?_, by omega⟩
      simp only [laws_szCellS.l0]
      rw [if_pos (by omega), if_pos (by omega), rdL_Cell l i hi, hr]
      simp only [Option.bind_some]
      rw [if_pos hn]
    · obtain ⟨q, hq, hqr⟩ := ih (i + 1) r (by omega) (by omega) (by omega) (by omega)
      refine ⟨q, hq.up fun j hj => ?_, by omega⟩
      simp only [laws_szCellS.l0]
      rw [if_pos (by omega), if_pos (by omega), rdL_Cell l i hi, hr]
      simp only [Option.bind_some]
      rw [if_neg hn, w64 (by omega) (by omega)]
      simpa using hj
theorem szCellS_gen (l : List S50) (left : Int) (h0 : 0 ≤ left) (h1 : left ≤ 1048576) (hm : l.length ≤ 9223372036854775807) (hs : CellSzL l) : ∃ r, (LG fun k => laws_szCellS.f k l left = some r) ∧ r ≤ left ∧ (0 ≤ r → l.length ≤ 1048576) := by
  by_cases h : (l.length : Int) ≤ left
  · obtain ⟨r, hr, hle⟩ := szCellS_l0 l (by omega) hs l.length 0 (left - l.length) (by omega) (by omega) (by omega) (by omega)
    refine ⟨r, hr.mono fun k hk => ?_, by omega, fun _ => by omega⟩
    unfold laws_szCellS.f
    rw [w64 (by omega) (by omega), if_neg (by omega)]
    exact hk
  · refine ⟨-1, LG.all fun k => ?_, by omega, by omega⟩
    unfold laws_szCellS.f
    rw [w64 (by omega) (by omega), if_pos (by omega)]
theorem szCellS_eq (l : List S50) (hm : l.length ≤ 9223372036854775807) (hs : CellSzL l) : ∃ r, (LG fun k => laws_szCellS.f k l 1048576 = some r) ∧ (0 ≤ r → l.length ≤ 1048576) := by
  obtain ⟨r, hr, _, h⟩ := szCellS_gen l 1048576 (by omega) (by omega) hm hs
  exact ⟨r, hr, h⟩
theorem toCell_eq (x : S50) : laws_toCell.f x.f0.f0 x.f0.f1 x.f0.f2 x.f1 x.f2 = some ((toC x).f0.f0, (toC x).f0.f1, (toC x).f0.f2, (toC x).f1, (toC x).f2) := by
  unfold laws_toCell.f laws_toKey.f
  rfl
theorem toCellS_l0 (l : List S50) (hl : l.length ≤ 1048576) (d : Nat) : ∀ (i : Nat) (x : List S32), l.length - i = d → i ≤ l.length → x.length = l.length → x.take i = (l.map toC).take i →
    LG fun k => laws_toCellS.l0 k l x (i : Int) = some (l.map toC) := by
  induction d with
  | zero =>
    intro i x h1 h2 h3 h4
    refine LG.step fun j => ?_
    obtain rfl : i = l.length := by omega
    simp only [laws_toCellS.l0]
    rw [if_neg (by omega), take_all h3 (by simp) h4]
  | succ d ih =>
    intro i x h1 h2 h3 h4
    have hi : i < l.length := by omega
    refine (ih (i + 1) (x.set i (toC l[i])) (by omega) (by omega) (by simpa using h3) ?_).up fun j hj => ?_
    · rw [set_take _ _ _ (by omega), take_map_succ _ _ _ hi, h4]
    · simp only [laws_toCellS.l0]
      rw [if_pos (by omega), if_pos (by omega), rdL_Cell l i hi, toCell_eq]
      simp only [Option.bind_some]
      rw [if_pos (by omega), w64 (by omega) (by omega)]
      simpa using hj
theorem toCellS_eq (l : List S50) (hl : l.length ≤ 1048576) : LG fun k => laws_toCellS.f k l = some (l.map toC) := by
  refine (toCellS_l0 l hl l.length 0 (List.replicate l.length z32) (by omega) (by omega) (by simp) (by simp)).mono fun k hk => ?_
  unfold laws_toCellS.f
  rw [if_pos (by omega), if_pos (by omega), Int.toNat_natCast]
  exact hk
theorem eqCell_self (r b : ByteArray) (t v : Int) (g : Bool) : laws_eqCell.f r b t v g r b t v g = some true := by
  unfold laws_eqCell.f laws_eqKey.f
  simp
theorem eqCellS_l0 (l : List S32) (hl : l.length ≤ 9223372036854775807) (d : Nat) : ∀ i : Nat, l.length - i = d → i ≤ l.length → LG fun k => laws_eqCellS.l0 k l l (i : Int) = some true := by
  induction d with
  | zero =>
    intro i h1 h2
    refine LG.step fun j => ?_
    simp only [laws_eqCellS.l0]
    rw [if_neg (by omega)]
  | succ d ih =>
    intro i h1 h2
    refine (ih (i + 1) (by omega) (by omega)).up fun j hj => ?_
    simp only [laws_eqCellS.l0]
    rw [if_pos (by omega), if_pos (by omega), if_pos (by omega), eqCell_self]
    simp only [Option.bind_some, if_true]
    rw [w64 (by omega) (by omega)]
    simpa using hj
theorem eqCellS_self (l : List S32) (hl : l.length ≤ 9223372036854775807) : LG fun k => laws_eqCellS.f k l l = some true := by
  refine (eqCellS_l0 l hl l.length 0 (by omega) (by omega)).mono fun k hk => ?_
  unfold laws_eqCellS.f
  rw [if_pos rfl]
  exact hk
theorem toC_sz (l : List S50) (h : CellSzL l) : CellSz (l.map toC) := by
  intro x hx
  obtain ⟨y, hy, rfl⟩ := List.mem_map.mp hx
  exact h y hy
end Go.Proofs.Ytgmfaendhnjekaa.B
namespace Go.Proofs.Ytgmfaendhnjekaa.B
open Go Go.RowKit Go.Proofs.YtgmfaendhnjekaaW.PrintWords Go.Proofs.YtgmfaendhnjekaaW.PrintLast Go.Proofs.YtgmfaendhnjekaaW.PrintMore Go.Proofs.Ytgmfaendhnjekaa.PX Go.Proofs.Ytgmfaendhnjekaa.B
theorem rdL_Cells (xs : List (List S50)) (i : Nat) (h : i < xs.length) : rd_L7 xs (i : Int) = xs[i] := getD_nat xs _ i h
theorem rdI_Cells (xs : List (List S32)) (i : Nat) (h : i < xs.length) : rd_L8 xs (i : Int) = xs[i] := getD_nat xs _ i h
def CellSzLL (l : List (List S50)) : Prop := ∀ x ∈ l, x.length ≤ 9223372036854775807 ∧ CellSzL x
theorem szCellSS_l0 (l : List (List S50)) (hl : l.length ≤ 1048576) (hs : CellSzLL l) (d : Nat) : ∀ (i : Nat) (left : Int), l.length - i = d → i ≤ l.length → 0 ≤ left → left ≤ 1048576 →
    ∃ r, (LG fun k => laws_szCellSS.l0 k l left (i : Int) = some r) ∧ r ≤ left ∧ (0 ≤ r → ∀ j (h : j < l.length), i ≤ j → (l[j]).length ≤ 1048576) := by
  induction d with
  | zero =>
    intro i left h1 h2 _ _
    refine ⟨left, LG.step fun j => ?_, by omega, fun _ j h h' => by omega⟩
    simp only [laws_szCellSS.l0]
    rw [if_neg (by omega)]
  | succ d ih =>
    intro i left h1 h2 h3 h4
    have hi : i < l.length := by omega
    have hz := hs _ (List.getElem_mem hi)
    obtain ⟨r, hr, hle, hlen⟩ := szCellS_gen l[i] left h3 h4 hz.1 hz.2
    by_cases hn : r < 0
    · refine ⟨-1, hr.up fun j hj => ?_, by omega, fun h => by omega⟩
      simp only [laws_szCellSS.l0]
      rw [if_pos (by omega), if_pos (by omega), rdL_Cells l i hi, hj]
      simp only [Option.bind_some]
      rw [if_pos hn]
    · obtain ⟨q, hq, hqr, hqa⟩ := ih (i + 1) r (by omega) (by omega) (by omega) (by omega)
      refine ⟨q, (hq.and hr).up fun j hj => ?_, by omega, fun h j hj hij => ?_⟩
      · simp only [laws_szCellSS.l0]
        rw [if_pos (by omega), if_pos (by omega), rdL_Cells l i hi, hj.2]
        simp only [Option.bind_some]
        rw [if_neg hn, w64 (by omega) (by omega)]
        simpa using hj.1
      · by_cases hji : j = i
        · subst hji; exact hlen (by omega)
        · exact hqa h j hj (by omega)
theorem szCellSS_gen (l : List (List S50)) (left : Int) (h0 : 0 ≤ left) (h1 : left ≤ 1048576) (hm : l.length ≤ 9223372036854775807) (hs : CellSzLL l) : ∃ r, (LG fun k => laws_szCellSS.f k l left = some r) ∧ r ≤ left ∧ (0 ≤ r → l.length ≤ 1048576 ∧ ∀ x ∈ l, x.length ≤ 1048576) := by
  by_cases h : (l.length : Int) ≤ left
  · obtain ⟨r, hr, hle, ha⟩ := szCellSS_l0 l (by omega) hs l.length 0 (left - l.length) (by omega) (by omega) (by omega) (by omega)
    refine ⟨r, hr.mono fun k hk => ?_, by omega, fun hp => ⟨by omega, fun x hx => ?_⟩⟩
    · unfold laws_szCellSS.f
      rw [w64 (by omega) (by omega), if_neg (by omega)]
      exact hk
    · obtain ⟨j, hj, rfl⟩ := List.getElem_of_mem hx
      exact ha hp j hj (by omega)
  · refine ⟨-1, LG.all fun k => ?_, by omega, by omega⟩
    unfold laws_szCellSS.f
    rw [w64 (by omega) (by omega), if_pos (by omega)]
theorem szBarn_gen (t : List S50) (l : List (List S50)) (left : Int) (h0 : 0 ≤ left) (h1 : left ≤ 1048576) (hmt : t.length ≤ 9223372036854775807) (hst : CellSzL t) (hm : l.length ≤ 9223372036854775807) (hs : CellSzLL l) :
    ∃ r, (LG fun k => laws_szBarn.f k t l left = some r) ∧ r ≤ left ∧ (0 ≤ r → t.length ≤ 1048576 ∧ l.length ≤ 1048576 ∧ ∀ x ∈ l, x.length ≤ 1048576) := by
  obtain ⟨r, hr, hle, hlen⟩ := szCellS_gen t left h0 h1 hmt hst
  by_cases hn : r < 0
  · refine ⟨-1, hr.mono fun k hk => ?_, by omega, by omega⟩
    unfold laws_szBarn.f
    simp only [hk, Option.bind_some, if_pos hn]
  · obtain ⟨q, hq, hqr, hqa⟩ := szCellSS_gen l r (by omega) (by omega) hm hs
    by_cases hqn : q < 0
    · refine ⟨-1, (hr.and hq).mono fun k hk => ?_, by omega, by omega⟩
      unfold laws_szBarn.f
      simp only [hk.1, hk.2, Option.bind_some, if_neg hn, if_pos hqn]
    · refine ⟨q, (hr.and hq).mono fun k hk => ?_, by omega, fun h => ⟨hlen (by omega), hqa h⟩⟩
      unfold laws_szBarn.f
      simp only [hk.1, hk.2, Option.bind_some, if_neg hn, if_neg hqn]
def toCs (l : List S50) : List S32 := l.map toC
theorem toCellSS_l0 (l : List (List S50)) (hl : l.length ≤ 1048576) (hx : ∀ x ∈ l, x.length ≤ 1048576) (d : Nat) : ∀ (i : Nat) (x : List (List S32)), l.length - i = d → i ≤ l.length → x.length = l.length → x.take i = (l.map toCs).take i →
    LG fun k => laws_toCellSS.l0 k l x (i : Int) = some (l.map toCs) := by
  induction d with
  | zero =>
    intro i x h1 h2 h3 h4
    refine LG.step fun j => ?_
    obtain rfl : i = l.length := by omega
    simp only [laws_toCellSS.l0]
    rw [if_neg (by omega), take_all h3 (by simp) h4]
  | succ d ih =>
    intro i x h1 h2 h3 h4
    have hi : i < l.length := by omega
    refine ((ih (i + 1) (x.set i (toCs l[i])) (by omega) (by omega) (by simpa using h3) ?_).and (toCellS_eq l[i] (hx _ (List.getElem_mem hi)))).up fun j hj => ?_
    · rw [set_take _ _ _ (by omega), take_map_succ _ _ _ hi, h4]
    · simp only [laws_toCellSS.l0]
      rw [if_pos (by omega), if_pos (by omega), rdL_Cells l i hi, hj.2]
      simp only [Option.bind_some]
      rw [if_pos (by omega), w64 (by omega) (by omega)]
      have h2 := hj.1
      change laws_toCellSS.l0 j l (x.set i (List.map toC l[i])) _ = _ at h2
      simpa using h2
theorem toCellSS_eq (l : List (List S50)) (hl : l.length ≤ 1048576) (hx : ∀ x ∈ l, x.length ≤ 1048576) : LG fun k => laws_toCellSS.f k l = some (l.map toCs) := by
  refine (toCellSS_l0 l hl hx l.length 0 (List.replicate l.length []) (by omega) (by omega) (by simp) (by simp)).mono fun k hk => ?_
  unfold laws_toCellSS.f
  rw [if_pos (by omega), if_pos (by omega), Int.toNat_natCast]
  exact hk
theorem toBarn_eq (t : List S50) (l : List (List S50)) (ht : t.length ≤ 1048576) (hl : l.length ≤ 1048576) (hx : ∀ x ∈ l, x.length ≤ 1048576) : LG fun k => laws_toBarn.f k t l = some (toCs t, l.map toCs) := by
  refine ((toCellS_eq t ht).and (toCellSS_eq l hl hx)).mono fun k hk => ?_
  unfold laws_toBarn.f
  simp only [hk.1, hk.2, Option.bind_some]
  rfl
theorem eqCellSS_l0 (l : List (List S32)) (hl : l.length ≤ 9223372036854775807) (hx : ∀ x ∈ l, x.length ≤ 9223372036854775807) (d : Nat) : ∀ i : Nat, l.length - i = d → i ≤ l.length → LG fun k => laws_eqCellSS.l0 k l l (i : Int) = some true := by
  induction d with
  | zero =>
    intro i h1 h2
    refine LG.step fun j => ?_
    simp only [laws_eqCellSS.l0]
    rw [if_neg (by omega)]
  | succ d ih =>
    intro i h1 h2
    have hi : i < l.length := by omega
    refine ((ih (i + 1) (by omega) (by omega)).and (eqCellS_self l[i] (hx _ (List.getElem_mem hi)))).up fun j hj => ?_
    simp only [laws_eqCellSS.l0]
    rw [if_pos (by omega), if_pos (by omega), if_pos (by omega), rdI_Cells l i hi, hj.2]
    simp only [Option.bind_some, if_true]
    rw [w64 (by omega) (by omega)]
    simpa using hj.1
theorem eqBarn_self (t : List S32) (l : List (List S32)) (ht : t.length ≤ 9223372036854775807) (hl : l.length ≤ 9223372036854775807) (hx : ∀ x ∈ l, x.length ≤ 9223372036854775807) : LG fun k => laws_eqBarn.f k t l t l = some true := by
  refine ((eqCellS_self t ht).and (eqCellSS_l0 l hl hx l.length 0 (by omega) (by omega))).mono fun k hk => ?_
  have e : laws_eqCellSS.f k l l = some true := by
    unfold laws_eqCellSS.f
    rw [if_pos rfl]
    exact hk.2
  unfold laws_eqBarn.f
  simp only [hk.1, e, Option.bind_some, if_true]
def CellSzI (l : List (List S32)) : Prop := ∀ x ∈ l, x.length ≤ 1048576 ∧ CellSz x
theorem toCs_sz (l : List (List S50)) (h : CellSzLL l) (hx : ∀ x ∈ l, x.length ≤ 1048576) : CellSzI (l.map toCs) := by
  intro x hm
  obtain ⟨y, hy, rfl⟩ := List.mem_map.mp hm
  exact ⟨by simpa [toCs] using hx y hy, toC_sz y (h y hy).2⟩
end Go.Proofs.Ytgmfaendhnjekaa.B
namespace Go.Proofs.Ytgmfaendhnjekaa.B
open Go Go.RowKit Go.Proofs.YtgmfaendhnjekaaW.PrintWords Go.Proofs.YtgmfaendhnjekaaW.PrintLast Go.Proofs.YtgmfaendhnjekaaW.PrintMore Go.Proofs.Ytgmfaendhnjekaa.PX Go.Proofs.Ytgmfaendhnjekaa.B
theorem spec_NameOk_l0 (s : ByteArray) (hs : s.size ≤ 9223372036854775807) (d : Nat) : ∀ i : Nat, i ≤ s.size → s.size - i = d →
    LG fun k => spec_NameOk.l0 k s (i : Int) = some (nameRun (s.data.toList.drop i) && (decide (1 ≤ s.size) && decide (s.size ≤ 8))) := by
  have hl := size_len s
  induction d with
  | zero =>
    intro i h1 h2
    refine LG.step fun j => ?_
    obtain rfl : i = s.size := by omega
    simp only [spec_NameOk.l0]
    rw [if_neg (by omega), l1In_eq]
    have e : nameRun (s.data.toList.drop s.size) = true := by rw [List.drop_of_length_le (by omega)]; rfl
    rw [e, Bool.true_and, Option.bind_some]
    congr 1
    rw [Bool.eq_iff_iff]
    simp only [Bool.and_eq_true, decide_eq_true_eq]
    omega
  | succ d ih =>
    intro i h1 h2
    have hi : i < s.data.toList.length := by omega
    refine (ih (i + 1) (by omega) (by omega)).up fun j hj => ?_
    simp only [spec_NameOk.l0]
    rw [if_pos (by omega), if_pos (by omega), bt_get s i hi, nameRun_at _ i hi]
    by_cases ha : (97 : Nat) ≤ (s.data.toList[i]).toNat
    · rw [if_neg (by omega)]
      by_cases hb : (s.data.toList[i]).toNat ≤ 122
      · rw [if_neg (by omega), w64 (by omega) (by omega), decide_eq_true ha, decide_eq_true hb]
        simpa using hj
      · rw [if_pos (by omega), decide_eq_false hb]
        simp
    · rw [if_pos (by omega), decide_eq_false ha]
      simp
theorem spec_NameOk_eq (s : ByteArray) (hs : s.size ≤ 9223372036854775807) : LG fun k => spec_NameOk.f k s = some (isNameB s) :=
  spec_NameOk_l0 s hs s.size 0 (by omega) (by omega)
end Go.Proofs.Ytgmfaendhnjekaa.B
namespace Go.Proofs.Ytgmfaendhnjekaa.B
open Go Go.RowKit Go.Proofs.YtgmfaendhnjekaaW.PrintWords Go.Proofs.YtgmfaendhnjekaaW.PrintLast Go.Proofs.YtgmfaendhnjekaaW.PrintMore Go.Proofs.Ytgmfaendhnjekaa.PX Go.Proofs.Ytgmfaendhnjekaa.B
theorem l2Time_eq (t : Int) : spec_l2Time.f t = some (isTimeB t) := by
  unfold spec_l2Time.f
  rw [l1In_eq]
  rfl
theorem spec_KeyOk_eq (r b : ByteArray) (t : Int) (hr : r.size ≤ 9223372036854775807) (hb : b.size ≤ 9223372036854775807) : LG fun k => spec_KeyOk.f k r b t = some (isKeyB r b t) := by
  refine ((spec_NameOk_eq r hr).and (spec_NameOk_eq b hb)).mono fun k ⟨h1, h2⟩ => ?_
  unfold spec_KeyOk.f isKeyB
  simp only [h1, h2, l2Time_eq, Option.bind_some]
  cases isNameB r <;> cases isNameB b <;> simp
end Go.Proofs.Ytgmfaendhnjekaa.B
namespace Go.Proofs.Ytgmfaendhnjekaa.B
open Go Go.RowKit Go.Proofs.YtgmfaendhnjekaaW.PrintWords Go.Proofs.YtgmfaendhnjekaaW.PrintLast Go.Proofs.YtgmfaendhnjekaaW.PrintMore Go.Proofs.Ytgmfaendhnjekaa.PX Go.Proofs.Ytgmfaendhnjekaa.B
theorem spec_CellOk_eq (r b : ByteArray) (t v : Int) (g : Bool) (hr : r.size ≤ 9223372036854775807) (hb : b.size ≤ 9223372036854775807) : LG fun k => spec_CellOk.f k r b t v g = some (isCellB r b t v g) := by
  refine (spec_KeyOk_eq r b t hr hb).mono fun k h => ?_
  unfold spec_CellOk.f isCellB
  simp only [h, l1Word_eq, Option.bind_some]
  cases isKeyB r b t <;> cases isWordB v <;> cases g <;> simp
end Go.Proofs.Ytgmfaendhnjekaa.B
namespace Go.Proofs.Ytgmfaendhnjekaa.B
open Go Go.RowKit Go.Proofs.YtgmfaendhnjekaaW.PrintWords Go.Proofs.YtgmfaendhnjekaaW.PrintLast Go.Proofs.YtgmfaendhnjekaaW.PrintMore Go.Proofs.Ytgmfaendhnjekaa.PX Go.Proofs.Ytgmfaendhnjekaa.B
theorem l2Less_eq (r1 b1 : ByteArray) (t1 : Int) (r2 b2 : ByteArray) (t2 : Int) : spec_l2Less.f r1 b1 t1 r2 b2 t2 = some (klt ⟨r1, b1, t1⟩ ⟨r2, b2, t2⟩) := by
  unfold spec_l2Less.f klt
  simp only [toList_inj]
  split
  · split <;> rfl
  · rfl
theorem cmp64_eq (a b : Int) : cmp_Compare_int64.f a b = some (if a < b then -1 else if a > b then 1 else 0) := by
  unfold cmp_Compare_int64.f cmp_isNaN_int64.f
  simp
  split
  · rfl
  · split <;> rfl
theorem or3_eq (a b c : Int) : LG fun k => cmp_Or_int.f k [a, b, c] = some (if a = 0 then (if b = 0 then c else b) else a) := by
  refine ⟨4, fun k hk => ?_⟩
  obtain ⟨j, rfl⟩ : ∃ j, k = j + 4 := ⟨k - 4, by omega⟩
  unfold cmp_Or_int.f
  have e1 : wrap64 1 = 1 := w64 (by omega) (by omega)
  have e2 : wrap64 2 = 2 := w64 (by omega) (by omega)
  have e3 : wrap64 3 = 3 := w64 (by omega) (by omega)
  by_cases ha : a = 0
  · by_cases hb : b = 0
    · by_cases hc : c = 0
      · simp [cmp_Or_int.l0, rd, ha, hb, hc, e1, e2, e3]
      · simp [cmp_Or_int.l0, rd, ha, hb, hc, e1, e2]
    · simp [cmp_Or_int.l0, rd, ha, hb, e1]
  · simp [cmp_Or_int.l0, rd, ha]
theorem compareKeys_eq (r1 b1 : ByteArray) (t1 : Int) (r2 b2 : ByteArray) (t2 : Int) : LG fun k => impl_compareKeys.f k r1 b1 t1 r2 b2 t2 = some (kcmp ⟨r1, b1, t1⟩ ⟨r2, b2, t2⟩) := by
  refine (or3_eq (Lib.compareBytes r1.data.toList r2.data.toList) (Lib.compareBytes b1.data.toList b2.data.toList) (if t2 < t1 then -1 else if t2 > t1 then 1 else 0)).mono fun k hk => ?_
  unfold impl_compareKeys.f strings_Compare.f
  simp only [Option.bind_some, cmp64_eq, hk]
  congr 1
  have key : ∀ s t : ByteArray, s.data.toList = t.data.toList ↔ s = t := fun s t => by rw [← toList_eq, ← toList_eq]; exact toList_inj s t
  unfold kcmp klt
  simp only [toList_eq]
  rcases cb_cases r1.data.toList r2.data.toList with ⟨h1, h2⟩ | ⟨h1, h2⟩ | ⟨h1, h2⟩
  · have hn : ¬ r1 = r2 := fun e => by rw [e, bl_irrefl] at h2; exact absurd h2 (by simp)
    simp [h1, h2, hn]
  · have h0 := (key _ _).mp h2
    subst h0
    rcases cb_cases b1.data.toList b2.data.toList with ⟨g1, g2⟩ | ⟨g1, g2⟩ | ⟨g1, g2⟩
    · have hn : ¬ b1 = b2 := fun e => by rw [e, bl_irrefl] at g2; exact absurd g2 (by simp)
      simp [h1, g1, g2, hn]
    · have g0 := (key _ _).mp g2
      subst g0
      simp only [h1, g1, if_true]
      by_cases ht : t2 < t1
      · simp [ht]
      · by_cases hu : t1 < t2
        · simp [ht, hu, show ¬ t1 = t2 by omega]
        · have : t1 = t2 := by omega
          simp [this]
    · have hn : ¬ b1 = b2 := fun e => by rw [e, bl_irrefl] at g2; exact absurd g2 (by simp)
      have hb : Op.bytesLess b1.data.toList b2.data.toList = false := bl_asymm _ _ g2
      simp [h1, g1, hb, hn]
  · have hn : ¬ r1 = r2 := fun e => by rw [e, bl_irrefl] at h2; exact absurd h2 (by simp)
    have hb : Op.bytesLess r1.data.toList r2.data.toList = false := bl_asymm _ _ h2
    simp [h1, hb, hn]
end Go.Proofs.Ytgmfaendhnjekaa.B
namespace Go.Proofs.Ytgmfaendhnjekaa.B
open Go Go.RowKit Go.Proofs.YtgmfaendhnjekaaW.PrintWords Go.Proofs.YtgmfaendhnjekaaW.PrintLast Go.Proofs.YtgmfaendhnjekaaW.PrintMore Go.Proofs.Ytgmfaendhnjekaa.PX Go.Proofs.Ytgmfaendhnjekaa.B
theorem spec_CellsOk_l0 (l : List S32) (hl : l.length ≤ 9223372036854775807) (hs : CellSz l) (d : Nat) : ∀ i : Nat, l.length - i = d → i ≤ l.length →
    LG fun k => spec_CellsOk.l0 k l (i : Int) = some (cellsRun (cellAhead l i) (l.drop i) && decide (l.length ≤ 200)) := by
  induction d with
  | zero =>
    intro i h1 h2
    refine LG.step fun j => ?_
    simp only [spec_CellsOk.l0]
    rw [if_neg (by omega), List.drop_of_length_le (by omega)]
    simp only [cellsRun, Bool.true_and]
    congr 1
    rw [Bool.eq_iff_iff]
    simp only [decide_eq_true_eq]
    omega
  | succ d ih =>
    intro i h1 h2
    have hi : i < l.length := by omega
    have hz := hs _ (List.getElem_mem hi)
    refine ((ih (i + 1) (by omega) (by omega)).and (spec_CellOk_eq (l[i]).f0.f0 (l[i]).f0.f1 (l[i]).f0.f2 (l[i]).f1 (l[i]).f2 hz.1 hz.2)).up fun j ⟨hj, hn⟩ => ?_
    simp only [spec_CellsOk.l0]
    rw [if_pos (by omega), if_pos (by omega), cellsRun_at l i hi, rdI_Cell l i hi, hn]
    simp only [Option.bind_some, l2Less_eq]
    rw [show isCellB (l[i]).f0.f0 (l[i]).f0.f1 (l[i]).f0.f2 (l[i]).f1 (l[i]).f2 = cellOkB l[i] from rfl]
    cases cellOkB l[i] with
    | false => simp
    | true =>
      simp only [if_true, Bool.true_and]
      have e1 : wrap64 ((i : Int) + 1) = ((i + 1 : Nat) : Int) := by rw [w64 (by omega) (by omega)]; omega
      by_cases h0 : i = 0
      · rw [if_neg (by omega), if_pos h0, e1, hj, Bool.true_and]
      · have e : wrap64 ((i : Int) - 1) = ((i - 1 : Nat) : Int) := by rw [w64 (by omega) (by omega)]; omega
        rw [if_pos (by omega), e, if_pos (by omega), if_pos (by omega), if_neg h0, e1, hj]
        cases klt (rd_T32 l ((i - 1 : Nat) : Int)).f0 (l[i]).f0 <;> simp
theorem spec_CellsOk_eq (l : List S32) (hl : l.length ≤ 9223372036854775807) (hs : CellSz l) : LG fun k => spec_CellsOk.f k l = some (cellsOkB l) := by
  simpa [spec_CellsOk.f, cellsOkB, cellAhead] using spec_CellsOk_l0 l hl hs l.length 0 (by omega) (by omega)
end Go.Proofs.Ytgmfaendhnjekaa.B
namespace Go.Proofs.Ytgmfaendhnjekaa.B
open Go Go.RowKit Go.Proofs.YtgmfaendhnjekaaW.PrintWords Go.Proofs.YtgmfaendhnjekaaW.PrintLast Go.Proofs.YtgmfaendhnjekaaW.PrintMore Go.Proofs.Ytgmfaendhnjekaa.PX Go.Proofs.Ytgmfaendhnjekaa.B
theorem impl_isName_l0 (s : ByteArray) (hs : s.size ≤ 9223372036854775807) (d : Nat) : ∀ i : Nat, i ≤ s.size → s.size - i = d →
    LG fun k => impl_isName.l0 k s (s.size : Int) (i : Int) = some (nameRun (s.data.toList.drop i) && (decide (1 ≤ s.size) && decide (s.size ≤ 8))) := by
  have hl := size_len s
  induction d with
  | zero =>
    intro i h1 h2
    refine LG.step fun j => ?_
    obtain rfl : i = s.size := by omega
    simp only [impl_isName.l0]
    rw [if_neg (by omega)]
    have e : nameRun (s.data.toList.drop s.size) = true := by rw [List.drop_of_length_le (by omega)]; rfl
    rw [e, Bool.true_and]
    by_cases h : 1 ≤ s.size
    · rw [if_pos (by omega), decide_eq_true h, Bool.true_and]
      congr 1
      rw [Bool.eq_iff_iff]
      simp only [decide_eq_true_eq]
      omega
    · rw [if_neg (by omega), decide_eq_false h, Bool.false_and]
  | succ d ih =>
    intro i h1 h2
    have hi : i < s.data.toList.length := by omega
    refine (ih (i + 1) (by omega) (by omega)).up fun j hj => ?_
    simp only [impl_isName.l0]
    rw [if_pos (by omega), if_pos (by omega), if_pos (by omega), bt_get s i hi, nameRun_at _ i hi]
    by_cases ha : (97 : Nat) ≤ (s.data.toList[i]).toNat
    · rw [if_neg (by omega)]
      by_cases hb : (s.data.toList[i]).toNat ≤ 122
      · rw [if_neg (by omega), w64 (by omega) (by omega), decide_eq_true ha, decide_eq_true hb]
        simpa using hj
      · rw [if_pos (by omega), decide_eq_false hb]
        simp
    · rw [if_pos (by omega), decide_eq_false ha]
      simp
theorem impl_isName_eq (s : ByteArray) (hs : s.size ≤ 9223372036854775807) : LG fun k => impl_isName.f k s = some (isNameB s) :=
  impl_isName_l0 s hs s.size 0 (by omega) (by omega)
end Go.Proofs.Ytgmfaendhnjekaa.B
namespace Go.Proofs.Ytgmfaendhnjekaa.B
open Go Go.RowKit Go.Proofs.YtgmfaendhnjekaaW.PrintWords Go.Proofs.YtgmfaendhnjekaaW.PrintLast Go.Proofs.YtgmfaendhnjekaaW.PrintMore Go.Proofs.Ytgmfaendhnjekaa.PX Go.Proofs.Ytgmfaendhnjekaa.B
theorem within_eq (a b c : Int) : impl_within.f a b c = some (decide (b ≤ a) && decide (a ≤ c)) := by
  unfold impl_within.f
  by_cases h : a ≥ b
  · rw [if_pos h, decide_eq_true (show b ≤ a from h), Bool.true_and]
  · rw [if_neg h, decide_eq_false (show ¬ b ≤ a from h), Bool.false_and]
end Go.Proofs.Ytgmfaendhnjekaa.B
namespace Go.Proofs.Ytgmfaendhnjekaa.B
open Go Go.RowKit Go.Proofs.YtgmfaendhnjekaaW.PrintWords Go.Proofs.YtgmfaendhnjekaaW.PrintLast Go.Proofs.YtgmfaendhnjekaaW.PrintMore Go.Proofs.Ytgmfaendhnjekaa.PX Go.Proofs.Ytgmfaendhnjekaa.B
theorem isTime_eq (t : Int) : impl_isTime.f t = some (isTimeB t) := by
  unfold impl_isTime.f
  rw [within_eq]
  rfl
theorem impl_isKey_eq (r b : ByteArray) (t : Int) (hr : r.size ≤ 9223372036854775807) (hb : b.size ≤ 9223372036854775807) : LG fun k => impl_isKey.f k r b t = some (isKeyB r b t) := by
  refine ((impl_isName_eq r hr).and (impl_isName_eq b hb)).mono fun k ⟨h1, h2⟩ => ?_
  unfold impl_isKey.f isKeyB
  simp only [h1, h2, isTime_eq, Option.bind_some]
  cases isNameB r <;> cases isNameB b <;> simp
end Go.Proofs.Ytgmfaendhnjekaa.B
namespace Go.Proofs.Ytgmfaendhnjekaa.B
open Go Go.RowKit Go.Proofs.YtgmfaendhnjekaaW.PrintWords Go.Proofs.YtgmfaendhnjekaaW.PrintLast Go.Proofs.YtgmfaendhnjekaaW.PrintMore Go.Proofs.Ytgmfaendhnjekaa.PX Go.Proofs.Ytgmfaendhnjekaa.B
theorem impl_isCell_eq (r b : ByteArray) (t v : Int) (g : Bool) (hr : r.size ≤ 9223372036854775807) (hb : b.size ≤ 9223372036854775807) : LG fun k => impl_isCell.f k r b t v g = some (isCellB r b t v g) := by
  refine (impl_isKey_eq r b t hr hb).mono fun k h => ?_
  unfold impl_isCell.f isCellB
  simp only [h, impl_isWord_eq, Option.bind_some]
  cases isKeyB r b t <;> cases isWordB v <;> cases g <;> simp
end Go.Proofs.Ytgmfaendhnjekaa.B
namespace Go.Proofs.Ytgmfaendhnjekaa.B
open Go Go.RowKit Go.Proofs.YtgmfaendhnjekaaW.PrintWords Go.Proofs.YtgmfaendhnjekaaW.PrintLast Go.Proofs.YtgmfaendhnjekaaW.PrintMore Go.Proofs.Ytgmfaendhnjekaa.PX Go.Proofs.Ytgmfaendhnjekaa.B
theorem impl_areCells_l0 (l : List S32) (hl : l.length ≤ 9223372036854775807) (hs : CellSz l) (d : Nat) : ∀ i : Nat, l.length - i = d → i ≤ l.length →
    LG fun k => impl_areCells.l0 k l l (l.length : Int) (i : Int) = some (cellsRun (cellAhead l i) (l.drop i) && decide (l.length ≤ 200)) := by
  induction d with
  | zero =>
    intro i h1 h2
    refine LG.step fun j => ?_
    simp only [impl_areCells.l0]
    rw [if_neg (by omega), List.drop_of_length_le (by omega)]
    simp only [cellsRun, Bool.true_and]
    congr 1
    rw [Bool.eq_iff_iff]
    simp only [decide_eq_true_eq]
    omega
  | succ d ih =>
    intro i h1 h2
    have hi : i < l.length := by omega
    have hz := hs _ (List.getElem_mem hi)
    refine (((ih (i + 1) (by omega) (by omega)).and (impl_isCell_eq (l[i]).f0.f0 (l[i]).f0.f1 (l[i]).f0.f2 (l[i]).f1 (l[i]).f2 hz.1 hz.2)).and
      (compareKeys_eq (rd_T32 l ((i - 1 : Nat) : Int)).f0.f0 (rd_T32 l ((i - 1 : Nat) : Int)).f0.f1 (rd_T32 l ((i - 1 : Nat) : Int)).f0.f2 (l[i]).f0.f0 (l[i]).f0.f1 (l[i]).f0.f2)).up fun j ⟨⟨hj, hn⟩, hc⟩ => ?_
    simp only [impl_areCells.l0]
    rw [if_pos (by omega), if_pos (by omega), if_pos (by omega), cellsRun_at l i hi, rdI_Cell l i hi, hn]
    simp only [Option.bind_some]
    rw [show isCellB (l[i]).f0.f0 (l[i]).f0.f1 (l[i]).f0.f2 (l[i]).f1 (l[i]).f2 = cellOkB l[i] from rfl]
    cases cellOkB l[i] with
    | false => simp
    | true =>
      simp only [if_true, Bool.true_and]
      have e1 : wrap64 ((i : Int) + 1) = ((i + 1 : Nat) : Int) := by rw [w64 (by omega) (by omega)]; omega
      by_cases h0 : i = 0
      · rw [if_neg (by omega), if_pos h0, e1, hj, Bool.true_and]
      · have e : wrap64 ((i : Int) - 1) = ((i - 1 : Nat) : Int) := by rw [w64 (by omega) (by omega)]; omega
        rw [if_pos (by omega), e, if_pos (by omega), if_pos (by omega), if_neg h0, e1, hj, hc]
        simp only [Option.bind_some]
        have hk := kcmp_neg (rd_T32 l ((i - 1 : Nat) : Int)).f0 (l[i]).f0
        have hkk : kcmp ⟨(rd_T32 l ((i - 1 : Nat) : Int)).f0.f0, (rd_T32 l ((i - 1 : Nat) : Int)).f0.f1, (rd_T32 l ((i - 1 : Nat) : Int)).f0.f2⟩ ⟨(l[i]).f0.f0, (l[i]).f0.f1, (l[i]).f0.f2⟩ = kcmp (rd_T32 l ((i - 1 : Nat) : Int)).f0 (l[i]).f0 := rfl
        rw [hkk]
        cases hb : klt (rd_T32 l ((i - 1 : Nat) : Int)).f0 (l[i]).f0 with
        | false =>
          rw [hb] at hk
          rw [if_pos (by have : ¬ kcmp (rd_T32 l ((i - 1 : Nat) : Int)).f0 (l[i]).f0 < 0 := fun h => by simpa using hk.mp h
                         omega)]
          simp
        | true =>
          rw [hb] at hk
          rw [if_neg (by have := hk.mpr rfl
                         omega)]
          simp
theorem impl_areCells_eq (l : List S32) (hl : l.length ≤ 9223372036854775807) (hs : CellSz l) : LG fun k => impl_areCells.f k l = some (cellsOkB l) := by
  simpa [impl_areCells.f, cellsOkB, cellAhead] using impl_areCells_l0 l hl hs l.length 0 (by omega) (by omega)
end Go.Proofs.Ytgmfaendhnjekaa.B
namespace Go.Proofs.Ytgmfaendhnjekaa.B
open Go Go.RowKit Go.Proofs.YtgmfaendhnjekaaW.PrintWords Go.Proofs.YtgmfaendhnjekaaW.PrintLast Go.Proofs.YtgmfaendhnjekaaW.PrintMore Go.Proofs.Ytgmfaendhnjekaa.PX Go.Proofs.Ytgmfaendhnjekaa.B
def deckB (x : List S32) : Bool := cellsOkB x && decide (x.length ≠ 0)
def barnB (t : List S32) (l : List (List S32)) : Bool := l.all deckB && (cellsOkB t && decide (l.length ≤ 5))
theorem spec_BarnOk_l0 (t : List S32) (l : List (List S32)) (ht : t.length ≤ 1048576) (hst : CellSz t) (hl : l.length ≤ 1048576) (hx : CellSzI l) (d : Nat) : ∀ i : Nat, l.length - i = d → i ≤ l.length →
    LG fun k => spec_BarnOk.l0 k (i : Int) t l = some ((l.drop i).all deckB && (cellsOkB t && decide (l.length ≤ 5))) := by
  induction d with
  | zero =>
    intro i h1 h2
    refine (spec_CellsOk_eq t (by omega) hst).up fun j hj => ?_
    simp only [spec_BarnOk.l0]
    rw [if_neg (by omega), hj, List.drop_eq_nil_of_le (by omega)]
    simp only [Option.bind_some, List.all_nil, Bool.true_and]
    by_cases hc : cellsOkB t = true
    · rw [if_pos hc, hc, Bool.true_and]
      congr 1
      apply decide_eq_decide.mpr
      omega
    · rw [if_neg hc]
      simp at hc
      rw [hc, Bool.false_and]
  | succ d ih =>
    intro i h1 h2
    have hi : i < l.length := by omega
    have hz := hx _ (List.getElem_mem hi)
    refine ((ih (i + 1) (by omega) (by omega)).and (spec_CellsOk_eq l[i] (by omega) hz.2)).up fun j hj => ?_
    simp only [spec_BarnOk.l0]
    rw [if_pos (by omega), if_pos (by omega), rdI_Cells l i hi, hj.2, List.drop_eq_getElem_cons hi, w64 (by omega) (by omega)]
    have hj' := hj.1
    simp only [Option.bind_some, List.all_cons]
    by_cases hc : cellsOkB l[i] = true
    · rw [if_pos hc]
      by_cases h0 : (l[i]).length = 0
      · rw [if_pos (by omega)]
        simp [deckB, h0]
      · rw [if_neg (by omega)]
        have hd : deckB l[i] = true := by simp [deckB, hc]; exact fun h => h0 (by rw [h]; rfl)
        rw [hd, Bool.true_and]
        simpa using hj'
    · rw [if_neg hc]
      simp at hc
      simp [deckB, hc]
theorem spec_BarnOk_eq (t : List S32) (l : List (List S32)) (ht : t.length ≤ 1048576) (hst : CellSz t) (hl : l.length ≤ 1048576) (hx : CellSzI l) : LG fun k => spec_BarnOk.f k t l = some (barnB t l) :=
  spec_BarnOk_l0 t l ht hst hl hx l.length 0 (by omega) (by omega)
theorem isBarn_1_eq (x : List S32) (ht : x.length ≤ 1048576) (hst : CellSz x) : LG fun k => impl_isBarn_1.f k x = some (!deckB x) := by
  refine (impl_areCells_eq x (by omega) hst).mono fun k hk => ?_
  unfold impl_isBarn_1.f
  rw [hk]
  by_cases h0 : x.length = 0
  · rw [if_pos (by omega)]
    simp [deckB, h0]
  · rw [if_neg (by omega)]
    have hne : x ≠ [] := fun h => h0 (by rw [h]; rfl)
    simp [deckB, hne]
theorem IndexFunc_l0 (l : List (List S32)) (hl : l.length ≤ 1048576) (hx : CellSzI l) (d : Nat) : ∀ i : Nat, l.length - i = d → i ≤ l.length →
    ∃ q : Int, (LG fun k => slices_IndexFunc_impl_Cell_impl_Cell.l0 k l (l.length : Int) (i : Int) = some q) ∧ (decide (q ≥ 0) = !(l.drop i).all deckB) := by
  induction d with
  | zero =>
    intro i h1 h2
    refine ⟨-1, LG.step fun j => ?_, ?_⟩
    · simp only [slices_IndexFunc_impl_Cell_impl_Cell.l0]
      rw [if_neg (by omega)]
    · rw [List.drop_eq_nil_of_le (by omega)]
      rfl
  | succ d ih =>
    intro i h1 h2
    have hi : i < l.length := by omega
    have hz := hx _ (List.getElem_mem hi)
    obtain ⟨q, hq, hd⟩ := ih (i + 1) (by omega) (by omega)
    have h1 := isBarn_1_eq l[i] hz.1 hz.2
    by_cases hb : deckB l[i] = true
    · refine ⟨q, (hq.and h1).up fun j hj => ?_, ?_⟩
      · simp only [slices_IndexFunc_impl_Cell_impl_Cell.l0]
        rw [if_pos (by omega), if_pos (by omega), if_pos (by omega), rdI_Cells l i hi, hj.2, w64 (by omega) (by omega)]
        simp only [Option.bind_some, hb]
        simpa using hj.1
      · rw [List.drop_eq_getElem_cons hi, List.all_cons, hb, Bool.true_and]
        exact hd
    · refine ⟨i, h1.up fun j hj => ?_, ?_⟩
      · simp only [slices_IndexFunc_impl_Cell_impl_Cell.l0]
        rw [if_pos (by omega), if_pos (by omega), if_pos (by omega), rdI_Cells l i hi, hj]
        simp only [Option.bind_some]
        rw [if_pos (by simpa using hb)]
      · rw [List.drop_eq_getElem_cons hi, List.all_cons]
        simp at hb
        rw [hb, Bool.false_and]
        simp
theorem impl_isBarn_eq (t : List S32) (l : List (List S32)) (ht : t.length ≤ 1048576) (hst : CellSz t) (hl : l.length ≤ 1048576) (hx : CellSzI l) : LG fun k => impl_isBarn.f k t l = some (barnB t l) := by
  obtain ⟨q, hq, hd⟩ := IndexFunc_l0 l hl hx l.length 0 (by omega) (by omega)
  refine ((impl_areCells_eq t (by omega) hst).and hq).mono fun k hk => ?_
  have e : slices_ContainsFunc_impl_Cell_impl_Cell.f k l = some (!(l.all deckB)) := by
    unfold slices_ContainsFunc_impl_Cell_impl_Cell.f slices_IndexFunc_impl_Cell_impl_Cell.f
    have h2 := hk.2
    have h2 : slices_IndexFunc_impl_Cell_impl_Cell.l0 k l (l.length : Int) 0 = some q := h2
    rw [h2]
    simp only [Option.bind_some]
    rw [hd, List.drop_zero]
  unfold impl_isBarn.f barnB
  rw [hk.1]
  simp only [Option.bind_some]
  by_cases hc : cellsOkB t = true
  · rw [if_pos hc, hc, Bool.true_and]
    by_cases h5 : l.length ≤ 5
    · rw [if_pos (by omega), e]
      simp [h5]
    · rw [if_neg (by omega)]
      simp [h5]
  · rw [if_neg hc]
    simp at hc
    rw [hc, Bool.false_and, Bool.and_false]
end Go.Proofs.Ytgmfaendhnjekaa.B
namespace Go.Proofs.Ytgmfaendhnjekaa.Pure
open Go Go.RowKit Go.Proofs.YtgmfaendhnjekaaW.PrintWords Go.Proofs.YtgmfaendhnjekaaW.PrintLast Go.Proofs.YtgmfaendhnjekaaW.PrintMore Go.Proofs.Ytgmfaendhnjekaa.PX Go.Proofs.Ytgmfaendhnjekaa.B
theorem FnExactBarnOk : FnExactBarnOk_Pure := by
  intro t l ht hl
  have hzt : CellSzL t := fun x hx => ⟨(ht.2 x hx).1.1, (ht.2 x hx).1.2.1⟩
  have hzl : CellSzLL l := fun x hx => ⟨(hl.2 x hx).1, fun y hy => ⟨((hl.2 x hx).2 y hy).1.1, ((hl.2 x hx).2 y hy).1.2.1⟩⟩
  obtain ⟨r, hr, _, hlen⟩ := szBarn_gen t l 1048576 (by omega) (by omega) ht.1 hzt hl.1 hzl
  by_cases h0 : r < 0
  · obtain ⟨k, hk⟩ := hr.rounds
    refine ⟨k, ?_⟩
    unfold laws_FnExactBarnOk.f
    simp only [hk, Option.bind_some, if_pos h0]
  · obtain ⟨g1, g2, g3⟩ := hlen (by omega)
    have m1 : (toCs t).length ≤ 1048576 := by simpa [toCs] using g1
    have m2 : (l.map toCs).length ≤ 1048576 := by simpa using g2
    have s1 := toC_sz t hzt
    have s2 := toCs_sz l hzl g3
    obtain ⟨k, ⟨⟨⟨k1, k2⟩, k3⟩, k4⟩, k5⟩ := ((((hr.and (toBarn_eq t l g1 g2 g3)).and (spec_BarnOk_eq (toCs t) (l.map toCs) m1 s1 m2 s2)).and (impl_isBarn_eq (toCs t) (l.map toCs) m1 s1 m2 s2)).and (eqBarn_self (toCs t) (l.map toCs) (by omega) (by omega) (fun x hx => by have := (s2 x hx).1; omega))).rounds
    refine ⟨k, ?_⟩
    unfold laws_FnExactBarnOk.f impl_BarnOk.f
    simp only [k1, k2, k3, k4, k5, Option.bind_some, if_neg h0, if_true, bne_self_eq_false, Bool.false_eq_true, if_false]
end Go.Proofs.Ytgmfaendhnjekaa.Pure
