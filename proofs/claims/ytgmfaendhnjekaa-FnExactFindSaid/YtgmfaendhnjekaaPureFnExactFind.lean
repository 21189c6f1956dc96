import Derived.Test.YtgmfaendhnjekaaPXx0
import Derived.Test.YtgmfaendhnjekaaPXx2
import Derived.Test.YtgmfaendhnjekaaPXx3
import Derived.Test.YtgmfaendhnjekaaPXx4
import Derived.Test.YtgmfaendhnjekaaPXx5
import Derived.Test.YtgmfaendhnjekaaPXx6
import Derived.Test.YtgmfaendhnjekaaPXx7
import Derived.Test.YtgmfaendhnjekaaPXx8
import Derived.Test.YtgmfaendhnjekaaPXx9
import Derived.Test.YtgmfaendhnjekaaStFnExactFind
import Derived.Lib.Bytealg
import Derived.Test.YtgmfaendhnjekaaWMore
set_option linter.unusedVariables false
set_option linter.unusedSimpArgs false
namespace Go.Proofs.Ytgmfaendhnjekaa.B
open Go Go.RowKit Go.Proofs.YtgmfaendhnjekaaW.PrintWords Go.Proofs.YtgmfaendhnjekaaW.PrintLast Go.Proofs.YtgmfaendhnjekaaW.PrintMore Go.Proofs.Ytgmfaendhnjekaa.PX
/-- From some number of rounds on. -/
def LG (p : Nat → Prop) : Prop := ∃ K, ∀ k, K ≤ k → p k
namespace LG
theorem all {p : Nat → Prop} (h : ∀ k, p k) : LG p := ⟨0, fun k _ => h k⟩
theorem step {p : Nat → Prop} (h : ∀ j, p (j + 1)) : LG p := ⟨1, fun k hk => by
  obtain ⟨j, rfl⟩ : ∃ j, k = j + 1 := ⟨k - 1, by omega⟩
  exact h j⟩
theorem and {p q : Nat → Prop} (h : LG p) (g : LG q) : LG fun k => p k ∧ q k := by
  obtain ⟨a, h⟩ := h
  obtain ⟨b, g⟩ := g
  exact ⟨max a b, fun k hk => ⟨h k (by omega), g k (by omega)⟩⟩
theorem mono {p q : Nat → Prop} (h : LG p) (g : ∀ k, p k → q k) : LG q := by
  obtain ⟨a, h⟩ := h
  exact ⟨a, fun k hk => g k (h k hk)⟩
/-- One round: what holds of j holds of j + 1 rounds. -/
theorem up {p q : Nat → Prop} (h : LG p) (g : ∀ j, p j → q (j + 1)) : LG q := by
  obtain ⟨a, h⟩ := h
  refine ⟨a + 1, fun k hk => ?_⟩
  obtain ⟨j, rfl⟩ : ∃ j, k = j + 1 := ⟨k - 1, by omega⟩
  exact g j (h j (by omega))
theorem rounds {p : Nat → Prop} (h : LG p) : ∃ k, p k := by
  obtain ⟨a, h⟩ := h
  exact ⟨a, h a (Nat.le_refl _)⟩
end LG
def I64 (n : Int) : Prop := -9223372036854775808 ≤ n ∧ n ≤ 9223372036854775807
theorem i64_of {n : Int} (h : (Lit.int .i64 n).wf = true) : I64 n := by
  simp only [Lit.wf, IntKind.min, IntKind.max, IntKind.signed, IntKind.bits, Bool.and_eq_true, decide_eq_true_eq, if_true] at h
  unfold I64
  omega
theorem w64 {n : Int} (h0 : -9223372036854775808 ≤ n) (h1 : n ≤ 9223372036854775807) : wrap64 n = n := by
  unfold wrap64
  omega
theorem bt_get (s : ByteArray) (i : Nat) (h : i < s.data.toList.length) : bt s (i : Int) = ((s.data.toList[i]).toNat : Int) := by
  have hs : (i : Int).toNat < s.size := by
    have : s.size = s.data.toList.length := by rw [Array.length_toList]; rfl
    omega
  unfold bt
  rw [dif_pos hs]
  rfl
theorem size_len (s : ByteArray) : s.data.toList.length = s.size := by rw [Array.length_toList]; rfl
end Go.Proofs.Ytgmfaendhnjekaa.B
namespace Go.Proofs.Ytgmfaendhnjekaa.B
open Go Go.RowKit Go.Proofs.YtgmfaendhnjekaaW.PrintWords Go.Proofs.YtgmfaendhnjekaaW.PrintLast Go.Proofs.YtgmfaendhnjekaaW.PrintMore Go.Proofs.Ytgmfaendhnjekaa.PX Go.Proofs.Ytgmfaendhnjekaa.B
theorem getD_nat {α : Type} (xs : List α) (z : α) (i : Nat) (h : i < xs.length) : xs.getD (i : Int).toNat z = xs[i] := by
  rw [Int.toNat_natCast, List.getD_eq_getElem?_getD, List.getElem?_eq_getElem h]
  rfl
theorem set_take {α : Type} (xs : List α) (i : Nat) (v : α) (h : i < xs.length) : (xs.set i v).take (i + 1) = xs.take i ++ [v] := by
  rw [List.take_succ_eq_append_getElem (by simpa using h), List.take_set_of_le (Nat.le_refl i), List.getElem_set_self]
theorem take_map_succ {α β : Type} (f : α → β) (xs : List α) (i : Nat) (h : i < xs.length) : (xs.map f).take (i + 1) = (xs.map f).take i ++ [f xs[i]] := by
  rw [List.take_succ_eq_append_getElem (by simpa using h), List.getElem_map]
theorem take_all {α : Type} {xs ys : List α} {n : Nat} (hx : xs.length = n) (hy : ys.length = n) (h : xs.take n = ys.take n) : xs = ys := by
  rw [List.take_of_length_le (by omega), List.take_of_length_le (by omega)] at h
  exact h
theorem toList_eq (s : ByteArray) : s.toList = s.data.toList := by
  first | exact ByteArray.toList_eq s | simp
theorem toList_inj (s t : ByteArray) : s.toList = t.toList ↔ s = t := by
  rw [toList_eq, toList_eq]
  constructor
  · intro h
    obtain ⟨⟨l⟩⟩ := s
    obtain ⟨⟨m⟩⟩ := t
    simp at h
    rw [h]
  · rintro rfl
    rfl
end Go.Proofs.Ytgmfaendhnjekaa.B
namespace Go.Proofs.Ytgmfaendhnjekaa.B
open Go Go.RowKit Go.Proofs.YtgmfaendhnjekaaW.PrintWords Go.Proofs.YtgmfaendhnjekaaW.PrintLast Go.Proofs.YtgmfaendhnjekaaW.PrintMore Go.Proofs.Ytgmfaendhnjekaa.PX Go.Proofs.Ytgmfaendhnjekaa.B
/-! the order of texts -/
theorem bl_irrefl : ∀ a : List UInt8, Op.bytesLess a a = false
  | [] => rfl
  | c :: a => by simp [Op.bytesLess, bl_irrefl a]
theorem bl_trans : ∀ a b c : List UInt8, Op.bytesLess a b = true → Op.bytesLess b c = true → Op.bytesLess a c = true
  | _, _, [], _, h => by simp [Op.bytesLess] at h
  | _, [], _ :: _, h, _ => by simp [Op.bytesLess] at h
  | [], _ :: _, _ :: _, _, _ => by simp [Op.bytesLess]
  | x :: a, y :: b, z :: c, h, g => by
    simp only [Op.bytesLess, Bool.or_eq_true, decide_eq_true_eq, Bool.and_eq_true, beq_iff_eq] at h g ⊢
    rcases h with h | ⟨rfl, h⟩
    · rcases g with g | ⟨rfl, g⟩
      · exact .inl (UInt8.lt_trans h g)
      · exact .inl h
    · rcases g with g | ⟨rfl, g⟩
      · exact .inl g
      · exact .inr ⟨rfl, bl_trans a b c h g⟩
theorem cb_cases : ∀ a b : List UInt8, (Lib.compareBytes a b = -1 ∧ Op.bytesLess a b = true) ∨ (Lib.compareBytes a b = 0 ∧ a = b) ∨ (Lib.compareBytes a b = 1 ∧ Op.bytesLess b a = true)
  | [], [] => by simp [Lib.compareBytes]
  | [], _ :: _ => by simp [Lib.compareBytes, Op.bytesLess]
  | _ :: _, [] => by simp [Lib.compareBytes, Op.bytesLess]
  | x :: a, y :: b => by
    simp only [Lib.compareBytes, Op.bytesLess]
    by_cases h : x < y
    · simp [h]
    · by_cases g : y < x
      · simp [h, g]
      · have e : x = y := by
          have h1 : ¬ x.toNat < y.toNat := h
          have h2 : ¬ y.toNat < x.toNat := g
          exact UInt8.toNat_inj.mp (by omega)
        subst e
        rcases cb_cases a b with ⟨h1, h2⟩ | ⟨h1, h2⟩ | ⟨h1, h2⟩
        · simp [h1, h2]
        · subst h2
          simp [h1]
        · simp [h1, h2]
theorem bl_asymm (a b : List UInt8) (h : Op.bytesLess a b = true) : Op.bytesLess b a = false := by
  cases e : Op.bytesLess b a
  · rfl
  · have := bl_trans a b a h e
    rw [bl_irrefl] at this
    exact absurd this (by simp)
theorem bl_tri (a b : List UInt8) : Op.bytesLess a b = true ∨ a = b ∨ Op.bytesLess b a = true := by
  rcases cb_cases a b with h | h | h
  · exact .inl h.2
  · exact .inr (.inl h.2)
  · exact .inr (.inr h.2)
end Go.Proofs.Ytgmfaendhnjekaa.B
namespace Go.Proofs.Ytgmfaendhnjekaa.B
open Go Go.RowKit Go.Proofs.YtgmfaendhnjekaaW.PrintWords Go.Proofs.YtgmfaendhnjekaaW.PrintLast Go.Proofs.YtgmfaendhnjekaaW.PrintMore Go.Proofs.Ytgmfaendhnjekaa.PX Go.Proofs.Ytgmfaendhnjekaa.B
/-- a key comes ahead of another one -/
def klt (a b : S30) : Bool :=
  if a.f0 = b.f0 then (if a.f1 = b.f1 then decide (a.f2 > b.f2) else Op.bytesLess a.f1.toList b.f1.toList) else Op.bytesLess a.f0.toList b.f0.toList
theorem klt_irrefl (a : S30) : klt a a = false := by simp [klt]
theorem tl_ne {s t : ByteArray} (h : s ≠ t) : s.toList ≠ t.toList := fun e => h ((toList_inj s t).mp e)
theorem bl_ne {s t : ByteArray} (h : Op.bytesLess s.toList t.toList = true) : s ≠ t := by
  rintro rfl
  rw [bl_irrefl] at h
  exact absurd h (by simp)
theorem klt_iff (a b : S30) : klt a b = true ↔ Op.bytesLess a.f0.toList b.f0.toList = true ∨ (a.f0 = b.f0 ∧ (Op.bytesLess a.f1.toList b.f1.toList = true ∨ (a.f1 = b.f1 ∧ b.f2 < a.f2))) := by
  unfold klt
  by_cases h : a.f0 = b.f0
  · rw [if_pos h]
    have e : Op.bytesLess a.f0.toList b.f0.toList = false := by rw [h]; exact bl_irrefl _
    by_cases g : a.f1 = b.f1
    · rw [if_pos g]
      have e2 : Op.bytesLess a.f1.toList b.f1.toList = false := by rw [g]; exact bl_irrefl _
      simp [h, g, e, e2, bl_irrefl]
    · rw [if_neg g]
      simp [h, g, bl_irrefl]
  · rw [if_neg h]
    simp [h]
theorem klt_trans (a b c : S30) (h : klt a b = true) (g : klt b c = true) : klt a c = true := by
  rw [klt_iff] at h g ⊢
  rcases h with h | ⟨h0, h⟩
  · rcases g with g | ⟨g0, g⟩
    · exact .inl (bl_trans _ _ _ h g)
    · exact .inl (by rw [← g0]; exact h)
  · rcases g with g | ⟨g0, g⟩
    · exact .inl (by rw [h0]; exact g)
    · refine .inr ⟨h0.trans g0, ?_⟩
      rcases h with h | ⟨h1, h⟩
      · rcases g with g | ⟨g1, g⟩
        · exact .inl (bl_trans _ _ _ h g)
        · exact .inl (by rw [← g1]; exact h)
      · rcases g with g | ⟨g1, g⟩
        · exact .inl (by rw [h1]; exact g)
        · exact .inr ⟨h1.trans g1, by omega⟩
theorem klt_asymm (a b : S30) (h : klt a b = true) : klt b a = false := by
  cases e : klt b a
  · rfl
  · have := klt_trans a b a h e
    rw [klt_irrefl] at this
    exact absurd this (by simp)
theorem klt_tri (a b : S30) : klt a b = true ∨ a = b ∨ klt b a = true := by
  rw [klt_iff, klt_iff]
  rcases bl_tri a.f0.toList b.f0.toList with h | h | h
  · exact .inl (.inl h)
  · have h0 := (toList_inj _ _).mp h
    rcases bl_tri a.f1.toList b.f1.toList with g | g | g
    · exact .inl (.inr ⟨h0, .inl g⟩)
    · have g0 := (toList_inj _ _).mp g
      rcases Int.lt_trichotomy a.f2 b.f2 with t | t | t
      · exact .inr (.inr (.inr ⟨h0.symm, .inr ⟨g0.symm, t⟩⟩))
      · refine .inr (.inl ?_)
        obtain ⟨a0, a1, a2⟩ := a
        obtain ⟨b0, b1, b2⟩ := b
        simp only at h0 g0 t
        subst h0 g0 t
        rfl
      · exact .inl (.inr ⟨h0, .inr ⟨g0, t⟩⟩)
    · exact .inr (.inr (.inr ⟨h0.symm, .inl g⟩))
  · exact .inr (.inr (.inl h))
/-- the comparison of two keys as a number -/
def kcmp (a b : S30) : Int := if klt a b = true then -1 else if a.f0 = b.f0 ∧ a.f1 = b.f1 ∧ a.f2 = b.f2 then 0 else 1
theorem key_ext (a b : S30) : (a.f0 = b.f0 ∧ a.f1 = b.f1 ∧ a.f2 = b.f2) ↔ a = b := by
  obtain ⟨a0, a1, a2⟩ := a
  obtain ⟨b0, b1, b2⟩ := b
  constructor
  · rintro ⟨h0, h1, h2⟩
    simp only at h0 h1 h2
    subst h0 h1 h2
    rfl
  · rintro h
    injection h with h0 h1 h2
    exact ⟨h0, h1, h2⟩
theorem kcmp_neg (a b : S30) : (kcmp a b < 0) ↔ klt a b = true := by
  unfold kcmp
  by_cases h : klt a b = true
  · simp [h]
  · rw [if_neg h]
    split <;> simp_all
theorem kcmp_zero (a b : S30) : (kcmp a b = 0) ↔ a = b := by
  rw [← key_ext]
  unfold kcmp
  by_cases h : klt a b = true
  · rw [if_pos h]
    constructor
    · intro e
      omega
    · intro e
      obtain rfl := (key_ext a b).mp e
      rw [klt_irrefl] at h
      exact absurd h (by simp)
  · rw [if_neg h]
    split <;> simp_all
end Go.Proofs.Ytgmfaendhnjekaa.B
namespace Go.Proofs.Ytgmfaendhnjekaa.B
open Go Go.RowKit Go.Proofs.YtgmfaendhnjekaaW.PrintWords Go.Proofs.YtgmfaendhnjekaaW.PrintLast Go.Proofs.YtgmfaendhnjekaaW.PrintMore Go.Proofs.Ytgmfaendhnjekaa.PX Go.Proofs.Ytgmfaendhnjekaa.B
/-- all bytes are from a to z -/
def nameRun (l : List UInt8) : Bool := l.all fun c => decide (97 ≤ c.toNat) && decide (c.toNat ≤ 122)
def isNameB (s : ByteArray) : Bool := nameRun s.data.toList && (decide (1 ≤ s.size) && decide (s.size ≤ 8))
theorem nameRun_at (l : List UInt8) (i : Nat) (h : i < l.length) : nameRun (l.drop i) = (decide (97 ≤ (l[i]).toNat) && decide ((l[i]).toNat ≤ 122) && nameRun (l.drop (i + 1))) := by
  rw [List.drop_eq_getElem_cons h]
  simp only [nameRun, List.all_cons]
end Go.Proofs.Ytgmfaendhnjekaa.B
namespace Go.Proofs.Ytgmfaendhnjekaa.B
open Go Go.RowKit Go.Proofs.YtgmfaendhnjekaaW.PrintWords Go.Proofs.YtgmfaendhnjekaaW.PrintLast Go.Proofs.YtgmfaendhnjekaaW.PrintMore Go.Proofs.Ytgmfaendhnjekaa.PX Go.Proofs.Ytgmfaendhnjekaa.B
def isTimeB (t : Int) : Bool := decide (0 ≤ t) && decide (t ≤ 1000000)
def isKeyB (r b : ByteArray) (t : Int) : Bool := isNameB r && (isNameB b && isTimeB t)
end Go.Proofs.Ytgmfaendhnjekaa.B
namespace Go.Proofs.Ytgmfaendhnjekaa.B
open Go Go.RowKit Go.Proofs.YtgmfaendhnjekaaW.PrintWords Go.Proofs.YtgmfaendhnjekaaW.PrintLast Go.Proofs.YtgmfaendhnjekaaW.PrintMore Go.Proofs.Ytgmfaendhnjekaa.PX Go.Proofs.Ytgmfaendhnjekaa.B
def isWordB (n : Int) : Bool := decide (-2147483648 ≤ n) && decide (n ≤ 2147483647)
theorem l1In_eq (a b c : Int) : spec_l1In.f a b c = some (decide (b ≤ a) && decide (a ≤ c)) := by
  unfold spec_l1In.f
  by_cases h : a ≥ b
  · rw [if_pos h, decide_eq_true (show b ≤ a from h), Bool.true_and]
  · rw [if_neg h, decide_eq_false (show ¬ b ≤ a from h), Bool.false_and]
theorem l1Word_eq (n : Int) : spec_l1Word.f n = some (isWordB n) := by
  unfold spec_l1Word.f
  rw [l1In_eq]
  rfl
theorem w32_range (n : Int) : -2147483648 ≤ wrap32 n ∧ wrap32 n ≤ 2147483647 := by
  unfold wrap32
  omega
theorem impl_wrap_eq (n : Int) : impl_wrap.f n = some (wrap32 n) := by
  have := w32_range n
  unfold impl_wrap.f
  rw [w64 (by omega) (by omega)]
theorem isWordB_wrap (n : Int) : (n == wrap32 n) = isWordB n := by
  unfold isWordB
  rw [Bool.eq_iff_iff]
  simp only [beq_iff_eq, Bool.and_eq_true, decide_eq_true_eq]
  unfold wrap32
  omega
theorem impl_isWord_eq (n : Int) : impl_isWord.f n = some (isWordB n) := by
  unfold impl_isWord.f
  rw [impl_wrap_eq]
  simp only [Option.bind_some]
  rw [isWordB_wrap]
end Go.Proofs.Ytgmfaendhnjekaa.B
namespace Go.Proofs.Ytgmfaendhnjekaa.B
open Go Go.RowKit Go.Proofs.YtgmfaendhnjekaaW.PrintWords Go.Proofs.YtgmfaendhnjekaaW.PrintLast Go.Proofs.YtgmfaendhnjekaaW.PrintMore Go.Proofs.Ytgmfaendhnjekaa.PX Go.Proofs.Ytgmfaendhnjekaa.B
def isCellB (r b : ByteArray) (t v : Int) (g : Bool) : Bool := isKeyB r b t && (isWordB v && (!g || v == 0))
end Go.Proofs.Ytgmfaendhnjekaa.B
namespace Go.Proofs.Ytgmfaendhnjekaa.B
open Go Go.RowKit Go.Proofs.YtgmfaendhnjekaaW.PrintWords Go.Proofs.YtgmfaendhnjekaaW.PrintLast Go.Proofs.YtgmfaendhnjekaaW.PrintMore Go.Proofs.Ytgmfaendhnjekaa.PX Go.Proofs.Ytgmfaendhnjekaa.B
/-- a cell's parts -/
def cellOkB (x : S32) : Bool := isCellB x.f0.f0 x.f0.f1 x.f0.f2 x.f1 x.f2
def cellsRun (p : Option S30) : List S32 → Bool
  | [] => true
  | x :: r => cellOkB x && ((match p with | none => true | some q => klt q x.f0) && cellsRun (some x.f0) r)
def cellsOkB (l : List S32) : Bool := cellsRun none l && decide (l.length ≤ 200)
def cellAhead (l : List S32) (i : Nat) : Option S30 := if i = 0 then none else (l[i - 1]?).map (fun x => x.f0)
theorem rdI_Cell (xs : List S32) (i : Nat) (h : i < xs.length) : rd_T32 xs (i : Int) = xs[i] := getD_nat xs _ i h
theorem cellsRun_at (l : List S32) (i : Nat) (h : i < l.length) : cellsRun (cellAhead l i) (l.drop i) =
    (cellOkB l[i] && ((if i = 0 then true else klt (rd_T32 l ((i - 1 : Nat) : Int)).f0 (l[i]).f0) && cellsRun (cellAhead l (i + 1)) (l.drop (i + 1)))) := by
  rw [List.drop_eq_getElem_cons h]
  have e : cellAhead l (i + 1) = some (l[i]).f0 := by simp [cellAhead, List.getElem?_eq_getElem h]
  rw [e]
  by_cases h0 : i = 0
  · subst h0
    simp [cellsRun, cellAhead]
  · have h1 : i - 1 < l.length := by omega
    rw [rdI_Cell l (i - 1) h1]
    simp [cellsRun, cellAhead, h0, List.getElem?_eq_getElem h1]
def CellSz (l : List S32) : Prop := ∀ x ∈ l, x.f0.f0.size ≤ 9223372036854775807 ∧ x.f0.f1.size ≤ 9223372036854775807
end Go.Proofs.Ytgmfaendhnjekaa.B
namespace Go.Proofs.Ytgmfaendhnjekaa.B
open Go Go.RowKit Go.Proofs.YtgmfaendhnjekaaW.PrintWords Go.Proofs.YtgmfaendhnjekaaW.PrintLast Go.Proofs.YtgmfaendhnjekaaW.PrintMore Go.Proofs.Ytgmfaendhnjekaa.PX Go.Proofs.Ytgmfaendhnjekaa.B
theorem szKey_some (r b : ByteArray) (t left : Int) : ∃ q, laws_szKey.f r b t left = some q := by
  unfold laws_szKey.f
  split
  · exact ⟨_, rfl⟩
  · split <;> exact ⟨_, rfl⟩
end Go.Proofs.Ytgmfaendhnjekaa.B
namespace Go.Proofs.Ytgmfaendhnjekaa.B
open Go Go.RowKit Go.Proofs.YtgmfaendhnjekaaW.PrintWords Go.Proofs.YtgmfaendhnjekaaW.PrintLast Go.Proofs.YtgmfaendhnjekaaW.PrintMore Go.Proofs.Ytgmfaendhnjekaa.PX Go.Proofs.Ytgmfaendhnjekaa.B
theorem szCell_some (r b : ByteArray) (t v : Int) (g : Bool) (left : Int) : ∃ q, laws_szCell.f r b t v g left = some q := by
  obtain ⟨q, hq⟩ := szKey_some r b t left
  unfold laws_szCell.f
  rw [hq]
  simp only [Option.bind_some]
  split <;> exact ⟨_, rfl⟩
end Go.Proofs.Ytgmfaendhnjekaa.B
namespace Go.Proofs.Ytgmfaendhnjekaa.B
open Go Go.RowKit Go.Proofs.YtgmfaendhnjekaaW.PrintWords Go.Proofs.YtgmfaendhnjekaaW.PrintLast Go.Proofs.YtgmfaendhnjekaaW.PrintMore Go.Proofs.Ytgmfaendhnjekaa.PX Go.Proofs.Ytgmfaendhnjekaa.B
def toK (x : S48) : S30 := ⟨x.f0, x.f1, x.f2⟩
def toC (x : S50) : S32 := ⟨toK x.f0, x.f1, x.f2⟩
theorem rdL_Cell (xs : List S50) (i : Nat) (h : i < xs.length) : rd_T50 xs (i : Int) = xs[i] := getD_nat xs _ i h
theorem szKey_le (r b : ByteArray) (t left : Int) (hr : r.size ≤ 9223372036854775807) (hb : b.size ≤ 9223372036854775807) (h0 : 0 ≤ left) (h1 : left ≤ 1048576) : ∃ q, laws_szKey.f r b t left = some q ∧ q ≤ left := by
  unfold laws_szKey.f
  rw [w64 (n := left - r.size) (by omega) (by omega)]
  by_cases h : left - (r.size : Int) < 0
  · rw [if_pos h]
    exact ⟨-1, rfl, by omega⟩
  · rw [if_neg h, w64 (by omega) (by omega)]
    split
    · exact ⟨-1, rfl, by omega⟩
    · exact ⟨_, rfl, by omega⟩
theorem szCell_le (r b : ByteArray) (t v : Int) (g : Bool) (left : Int) (hr : r.size ≤ 9223372036854775807) (hb : b.size ≤ 9223372036854775807) (h0 : 0 ≤ left) (h1 : left ≤ 1048576) : ∃ q, laws_szCell.f r b t v g left = some q ∧ q ≤ left := by
  obtain ⟨q, hq, hle⟩ := szKey_le r b t left hr hb h0 h1
  unfold laws_szCell.f
  rw [hq]
  simp only [Option.bind_some]
  split
  · exact ⟨-1, rfl, by omega⟩
  · exact ⟨q, rfl, hle⟩
def CellSzL (l : List S50) : Prop := ∀ x ∈ l, x.f0.f0.size ≤ 9223372036854775807 ∧ x.f0.f1.size ≤ 9223372036854775807
theorem szCellS_l0 (l : List S50) (hl : l.length ≤ 1048576) (hs : CellSzL l) (d : Nat) : ∀ (i : Nat) (left : Int), l.length - i = d → i ≤ l.length → 0 ≤ left → left ≤ 1048576 →
    ∃ r, (LG fun k => laws_szCellS.l0 k l left (i : Int) = some r) ∧ r ≤ left := by
  induction d with
  | zero =>
    intro i left h1 h2 _ _
    refine ⟨left, LG.step fun j => ?_, by omega⟩
    simp only [laws_szCellS.l0]
    rw [if_neg (by omega)]
  | succ d ih =>
    intro i left h1 h2 h3 h4
    have hi : i < l.length := by omega
    have hz := hs _ (List.getElem_mem hi)
    obtain ⟨r, hr, hle⟩ := szCell_le (l[i]).f0.f0 (l[i]).f0.f1 (l[i]).f0.f2 (l[i]).f1 (l[i]).f2 left hz.1 hz.2 h3 h4
    by_cases hn : r < 0
    · refine ⟨-1, LG.step fun j => ?_, by omega⟩
      simp only [laws_szCellS.l0]
      rw [if_pos (by omega), if_pos (by omega), rdL_Cell l i hi, hr]
      simp only [Option.bind_some]
      rw [if_pos hn]
    · obtain ⟨q, hq, hqr⟩ := ih (i + 1) r (by omega) (by omega) (by omega) (by omega)
      refine ⟨q, hq.up fun j hj => ?_, by omega⟩
      simp only [laws_szCellS.l0]
      rw [if_pos (by omega), if_pos (by omega), rdL_Cell l i hi, hr]
      simp only [Option.bind_some]
      rw [if_neg hn, w64 (by omega) (by omega)]
      simpa using hj
theorem szCellS_gen (l : List S50) (left : Int) (h0 : 0 ≤ left) (h1 : left ≤ 1048576) (hm : l.length ≤ 9223372036854775807) (hs : CellSzL l) : ∃ r, (LG fun k => laws_szCellS.f k l left = some r) ∧ r ≤ left ∧ (0 ≤ r → l.length ≤ 1048576) := by
  by_cases h : (l.length : Int) ≤ left
  · obtain ⟨r, hr, hle⟩ := szCellS_l0 l (by omega) hs l.length 0 (left - l.length) (by omega) (by omega) (by omega) (by omega)
    refine ⟨r, hr.mono fun k hk => ?_, by omega, fun _ => by omega⟩
    unfold laws_szCellS.f
    rw [w64 (by omega) (by omega), if_neg (by omega)]
    exact hk
  · refine ⟨-1, LG.all fun k => ?_, by omega, by omega⟩
    unfold laws_szCellS.f
    rw [w64 (by omega) (by omega), if_pos (by omega)]
theorem szCellS_eq (l : List S50) (hm : l.length ≤ 9223372036854775807) (hs : CellSzL l) : ∃ r, (LG fun k => laws_szCellS.f k l 1048576 = some r) ∧ (0 ≤ r → l.length ≤ 1048576) := by
  obtain ⟨r, hr, _, h⟩ := szCellS_gen l 1048576 (by omega) (by omega) hm hs
  exact ⟨r, hr, h⟩
theorem toCell_eq (x : S50) : laws_toCell.f x.f0.f0 x.f0.f1 x.f0.f2 x.f1 x.f2 = some ((toC x).f0.f0, (toC x).f0.f1, (toC x).f0.f2, (toC x).f1, (toC x).f2) := by
  unfold laws_toCell.f laws_toKey.f
  rfl
theorem toCellS_l0 (l : List S50) (hl : l.length ≤ 1048576) (d : Nat) : ∀ (i : Nat) (x : List S32), l.length - i = d → i ≤ l.length → x.length = l.length → x.take i = (l.map toC).take i →
    LG fun k => laws_toCellS.l0 k l x (i : Int) = some (l.map toC) := by
  induction d with
  | zero =>
    intro i x h1 h2 h3 h4
    refine LG.step fun j => ?_
    obtain rfl : i = l.length := by omega
    simp only [laws_toCellS.l0]
    rw [if_neg (by omega), take_all h3 (by simp) h4]
  | succ d ih =>
    intro i x h1 h2 h3 h4
    have hi : i < l.length := by omega
    refine (ih (i + 1) (x.set i (toC l[i])) (by omega) (by omega) (by simpa using h3) ?_).up fun j hj => ?_
    · rw [set_take _ _ _ (by omega), take_map_succ _ _ _ hi, h4]
    · simp only [laws_toCellS.l0]
      rw [if_pos (by omega), if_pos (by omega), rdL_Cell l i hi, toCell_eq]
      simp only [Option.bind_some]
      rw [if_pos (by omega), w64 (by omega) (by omega)]
      simpa using hj
theorem toCellS_eq (l : List S50) (hl : l.length ≤ 1048576) : LG fun k => laws_toCellS.f k l = some (l.map toC) := by
  refine (toCellS_l0 l hl l.length 0 (List.replicate l.length z32) (by omega) (by omega) (by simp) (by simp)).mono fun k hk => ?_
  unfold laws_toCellS.f
  rw [if_pos (by omega), if_pos (by omega), Int.toNat_natCast]
  exact hk
theorem eqCell_self (r b : ByteArray) (t v : Int) (g : Bool) : laws_eqCell.f r b t v g r b t v g = some true := by
  unfold laws_eqCell.f laws_eqKey.f
  simp
theorem eqCellS_l0 (l : List S32) (hl : l.length ≤ 9223372036854775807) (d : Nat) : ∀ i : Nat, l.length - i = d → i ≤ l.length → LG fun k => laws_eqCellS.l0 k l l (i : Int) = some true := by
  induction d with
  | zero =>
    intro i h1 h2
    refine LG.step fun j => ?_
    simp only [laws_eqCellS.l0]
    rw [if_neg (by omega)]
  | succ d ih =>
    intro i h1 h2
    refine (ih (i + 1) (by omega) (by omega)).up fun j hj => ?_
    simp only [laws_eqCellS.l0]
    rw [if_pos (by omega), if_pos (by omega), if_pos (by omega), eqCell_self]
    simp only [Option.bind_some, if_true]
    rw [w64 (by omega) (by omega)]
    simpa using hj
theorem eqCellS_self (l : List S32) (hl : l.length ≤ 9223372036854775807) : LG fun k => laws_eqCellS.f k l l = some true := by
  refine (eqCellS_l0 l hl l.length 0 (by omega) (by omega)).mono fun k hk => ?_
  unfold laws_eqCellS.f
  rw [if_pos rfl]
  exact hk
theorem toC_sz (l : List S50) (h : CellSzL l) : CellSz (l.map toC) := by
  intro x hx
  obtain ⟨y, hy, rfl⟩ := List.mem_map.mp hx
  exact h y hy
end Go.Proofs.Ytgmfaendhnjekaa.B
namespace Go.Proofs.Ytgmfaendhnjekaa.B
open Go Go.RowKit Go.Proofs.YtgmfaendhnjekaaW.PrintWords Go.Proofs.YtgmfaendhnjekaaW.PrintLast Go.Proofs.YtgmfaendhnjekaaW.PrintMore Go.Proofs.Ytgmfaendhnjekaa.PX Go.Proofs.Ytgmfaendhnjekaa.B
theorem spec_NameOk_l0 (s : ByteArray) (hs : s.size ≤ 9223372036854775807) (d : Nat) : ∀ i : Nat, i ≤ s.size → s.size - i = d →
    LG fun k => spec_NameOk.l0 k s (i : Int) = some (nameRun (s.data.toList.drop i) && (decide (1 ≤ s.size) && decide (s.size ≤ 8))) := by
  have hl := size_len s
  induction d with
  | zero =>
    intro i h1 h2
    refine LG.step fun j => ?_
    obtain rfl : i = s.size := by omega
    simp only [spec_NameOk.l0]
    rw [if_neg (by omega), l1In_eq]
    have e : nameRun (s.data.toList.drop s.size) = true := by rw [List.drop_of_length_le (by omega)]; rfl
    rw [e, Bool.true_and, Option.bind_some]
    congr 1
    rw [Bool.eq_iff_iff]
    simp only [Bool.and_eq_true, decide_eq_true_eq]
    omega
  | succ d ih =>
    intro i h1 h2
    have hi : i < s.data.toList.length := by omega
    refine (ih (i + 1) (by omega) (by omega)).up fun j hj => ?_
    simp only [spec_NameOk.l0]
    rw [if_pos (by omega), if_pos (by omega), bt_get s i hi, nameRun_at _ i hi]
    by_cases ha : (97 : Nat) ≤ (s.data.toList[i]).toNat
    · rw [if_neg (by omega)]
      by_cases hb : (s.data.toList[i]).toNat ≤ 122
      · rw [if_neg (by omega), w64 (by omega) (by omega), decide_eq_true ha, decide_eq_true hb]
        simpa using hj
      · rw [if_pos (by omega), decide_eq_false hb]
        simp
    · rw [if_pos (by omega), decide_eq_false ha]
      simp
theorem spec_NameOk_eq (s : ByteArray) (hs : s.size ≤ 9223372036854775807) : LG fun k => spec_NameOk.f k s = some (isNameB s) :=
  spec_NameOk_l0 s hs s.size 0 (by omega) (by omega)
end Go.Proofs.Ytgmfaendhnjekaa.B
namespace Go.Proofs.Ytgmfaendhnjekaa.B
open Go Go.RowKit Go.Proofs.YtgmfaendhnjekaaW.PrintWords Go.Proofs.YtgmfaendhnjekaaW.PrintLast Go.Proofs.YtgmfaendhnjekaaW.PrintMore Go.Proofs.Ytgmfaendhnjekaa.PX Go.Proofs.Ytgmfaendhnjekaa.B
theorem l2Time_eq (t : Int) : spec_l2Time.f t = some (isTimeB t) := by
  unfold spec_l2Time.f
  rw [l1In_eq]
  rfl
theorem spec_KeyOk_eq (r b : ByteArray) (t : Int) (hr : r.size ≤ 9223372036854775807) (hb : b.size ≤ 9223372036854775807) : LG fun k => spec_KeyOk.f k r b t = some (isKeyB r b t) := by
  refine ((spec_NameOk_eq r hr).and (spec_NameOk_eq b hb)).mono fun k ⟨h1, h2⟩ => ?_
  unfold spec_KeyOk.f isKeyB
  simp only [h1, h2, l2Time_eq, Option.bind_some]
  cases isNameB r <;> cases isNameB b <;> simp
end Go.Proofs.Ytgmfaendhnjekaa.B
namespace Go.Proofs.Ytgmfaendhnjekaa.B
open Go Go.RowKit Go.Proofs.YtgmfaendhnjekaaW.PrintWords Go.Proofs.YtgmfaendhnjekaaW.PrintLast Go.Proofs.YtgmfaendhnjekaaW.PrintMore Go.Proofs.Ytgmfaendhnjekaa.PX Go.Proofs.Ytgmfaendhnjekaa.B
theorem spec_CellOk_eq (r b : ByteArray) (t v : Int) (g : Bool) (hr : r.size ≤ 9223372036854775807) (hb : b.size ≤ 9223372036854775807) : LG fun k => spec_CellOk.f k r b t v g = some (isCellB r b t v g) := by
  refine (spec_KeyOk_eq r b t hr hb).mono fun k h => ?_
  unfold spec_CellOk.f isCellB
  simp only [h, l1Word_eq, Option.bind_some]
  cases isKeyB r b t <;> cases isWordB v <;> cases g <;> simp
end Go.Proofs.Ytgmfaendhnjekaa.B
namespace Go.Proofs.Ytgmfaendhnjekaa.B
open Go Go.RowKit Go.Proofs.YtgmfaendhnjekaaW.PrintWords Go.Proofs.YtgmfaendhnjekaaW.PrintLast Go.Proofs.YtgmfaendhnjekaaW.PrintMore Go.Proofs.Ytgmfaendhnjekaa.PX Go.Proofs.Ytgmfaendhnjekaa.B
theorem l2Less_eq (r1 b1 : ByteArray) (t1 : Int) (r2 b2 : ByteArray) (t2 : Int) : spec_l2Less.f r1 b1 t1 r2 b2 t2 = some (klt ⟨r1, b1, t1⟩ ⟨r2, b2, t2⟩) := by
  unfold spec_l2Less.f klt
  simp only [toList_inj]
  split
  · split <;> rfl
  · rfl
theorem cmp64_eq (a b : Int) : cmp_Compare_int64.f a b = some (if a < b then -1 else if a > b then 1 else 0) := by
  unfold cmp_Compare_int64.f cmp_isNaN_int64.f
  simp
  split
  · rfl
  · split <;> rfl
theorem or3_eq (a b c : Int) : LG fun k => cmp_Or_int.f k [a, b, c] = some (if a = 0 then (if b = 0 then c else b) else a) := by
  refine ⟨4, fun k hk => ?_⟩
  obtain ⟨j, rfl⟩ : ∃ j, k = j + 4 := ⟨k - 4, by omega⟩
  unfold cmp_Or_int.f
  have e1 : wrap64 1 = 1 := w64 (by omega) (by omega)
  have e2 : wrap64 2 = 2 := w64 (by omega) (by omega)
  have e3 : wrap64 3 = 3 := w64 (by omega) (by omega)
  by_cases ha : a = 0
  · by_cases hb : b = 0
    · by_cases hc : c = 0
      · simp [cmp_Or_int.l0, rd, ha, hb, hc, e1, e2, e3]
      · simp [cmp_Or_int.l0, rd, ha, hb, hc, e1, e2]
    · simp [cmp_Or_int.l0, rd, ha, hb, e1]
  · simp [cmp_Or_int.l0, rd, ha]
theorem compareKeys_eq (r1 b1 : ByteArray) (t1 : Int) (r2 b2 : ByteArray) (t2 : Int) : LG fun k => impl_compareKeys.f k r1 b1 t1 r2 b2 t2 = some (kcmp ⟨r1, b1, t1⟩ ⟨r2, b2, t2⟩) := by
  refine (or3_eq (Lib.compareBytes r1.data.toList r2.data.toList) (Lib.compareBytes b1.data.toList b2.data.toList) (if t2 < t1 then -1 else if t2 > t1 then 1 else 0)).mono fun k hk => ?_
  unfold impl_compareKeys.f strings_Compare.f
  simp only [Option.bind_some, cmp64_eq, hk]
  congr 1
  have key : ∀ s t : ByteArray, s.data.toList = t.data.toList ↔ s = t := fun s t => by rw [← toList_eq, ← toList_eq]; exact toList_inj s t
  unfold kcmp klt
  simp only [toList_eq]
  rcases cb_cases r1.data.toList r2.data.toList with ⟨h1, h2⟩ | ⟨h1, h2⟩ | ⟨h1, h2⟩
  · have hn : ¬ r1 = r2 := fun e => by rw [e, bl_irrefl] at h2; exact absurd h2 (by simp)
    simp [h1, h2, hn]
  · have h0 := (key _ _).mp h2
    subst h0
    rcases cb_cases b1.data.toList b2.data.toList with ⟨g1, g2⟩ | ⟨g1, g2⟩ | ⟨g1, g2⟩
    · have hn : ¬ b1 = b2 := fun e => by rw [e, bl_irrefl] at g2; exact absurd g2 (by simp)
      simp [h1, g1, g2, hn]
    · have g0 := (key _ _).mp g2
      subst g0
      simp only [h1, g1, if_true]
      by_cases ht : t2 < t1
      · simp [ht]
      · by_cases hu : t1 < t2
        · simp [ht, hu, show ¬ t1 = t2 by omega]
        · have : t1 = t2 := by omega
          simp [this]
    · have hn : ¬ b1 = b2 := fun e => by rw [e, bl_irrefl] at g2; exact absurd g2 (by simp)
      have hb : Op.bytesLess b1.data.toList b2.data.toList = false := bl_asymm _ _ g2
      simp [h1, g1, hb, hn]
  · have hn : ¬ r1 = r2 := fun e => by rw [e, bl_irrefl] at h2; exact absurd h2 (by simp)
    have hb : Op.bytesLess r1.data.toList r2.data.toList = false := bl_asymm _ _ h2
    simp [h1, hb, hn]
end Go.Proofs.Ytgmfaendhnjekaa.B
namespace Go.Proofs.Ytgmfaendhnjekaa.B
open Go Go.RowKit Go.Proofs.YtgmfaendhnjekaaW.PrintWords Go.Proofs.YtgmfaendhnjekaaW.PrintLast Go.Proofs.YtgmfaendhnjekaaW.PrintMore Go.Proofs.Ytgmfaendhnjekaa.PX Go.Proofs.Ytgmfaendhnjekaa.B
theorem spec_CellsOk_l0 (l : List S32) (hl : l.length ≤ 9223372036854775807) (hs : CellSz l) (d : Nat) : ∀ i : Nat, l.length - i = d → i ≤ l.length →
    LG fun k => spec_CellsOk.l0 k l (i : Int) = some (cellsRun (cellAhead l i) (l.drop i) && decide (l.length ≤ 200)) := by
  induction d with
  | zero =>
    intro i h1 h2
    refine LG.step fun j => ?_
    simp only [spec_CellsOk.l0]
    rw [if_neg (by omega), List.drop_of_length_le (by omega)]
    simp only [cellsRun, Bool.true_and]
    congr 1
    rw [Bool.eq_iff_iff]
    simp only [decide_eq_true_eq]
    omega
  | succ d ih =>
    intro i h1 h2
    have hi : i < l.length := by omega
    have hz := hs _ (List.getElem_mem hi)
    refine ((ih (i + 1) (by omega) (by omega)).and (spec_CellOk_eq (l[i]).f0.f0 (l[i]).f0.f1 (l[i]).f0.f2 (l[i]).f1 (l[i]).f2 hz.1 hz.2)).up fun j ⟨hj, hn⟩ => ?_
    simp only [spec_CellsOk.l0]
    rw [if_pos (by omega), if_pos (by omega), cellsRun_at l i hi, rdI_Cell l i hi, hn]
    simp only [Option.bind_some, l2Less_eq]
    rw [show isCellB (l[i]).f0.f0 (l[i]).f0.f1 (l[i]).f0.f2 (l[i]).f1 (l[i]).f2 = cellOkB l[i] from rfl]
    cases cellOkB l[i] with
    | false => simp
    | true =>
      simp only [if_true, Bool.true_and]
      have e1 : wrap64 ((i : Int) + 1) = ((i + 1 : Nat) : Int) := by rw [w64 (by omega) (by omega)]; omega
      by_cases h0 : i = 0
      · rw [if_neg (by omega), if_pos h0, e1, hj, Bool.true_and]
      · have e : wrap64 ((i : Int) - 1) = ((i - 1 : Nat) : Int) := by rw [w64 (by omega) (by omega)]; omega
        rw [if_pos (by omega), e, if_pos (by omega), if_pos (by omega), if_neg h0, e1, hj]
        cases klt (rd_T32 l ((i - 1 : Nat) : Int)).f0 (l[i]).f0 <;> simp
theorem spec_CellsOk_eq (l : List S32) (hl : l.length ≤ 9223372036854775807) (hs : CellSz l) : LG fun k => spec_CellsOk.f k l = some (cellsOkB l) := by
  simpa [spec_CellsOk.f, cellsOkB, cellAhead] using spec_CellsOk_l0 l hl hs l.length 0 (by omega) (by omega)
end Go.Proofs.Ytgmfaendhnjekaa.B
namespace Go.Proofs.Ytgmfaendhnjekaa.B
open Go Go.RowKit Go.Proofs.YtgmfaendhnjekaaW.PrintWords Go.Proofs.YtgmfaendhnjekaaW.PrintLast Go.Proofs.YtgmfaendhnjekaaW.PrintMore Go.Proofs.Ytgmfaendhnjekaa.PX Go.Proofs.Ytgmfaendhnjekaa.B
theorem impl_isName_l0 (s : ByteArray) (hs : s.size ≤ 9223372036854775807) (d : Nat) : ∀ i : Nat, i ≤ s.size → s.size - i = d →
    LG fun k => impl_isName.l0 k s (s.size : Int) (i : Int) = some (nameRun (s.data.toList.drop i) && (decide (1 ≤ s.size) && decide (s.size ≤ 8))) := by
  have hl := size_len s
  induction d with
  | zero =>
    intro i h1 h2
    refine LG.step fun j => ?_
    obtain rfl : i = s.size := by omega
    simp only [impl_isName.l0]
    rw [if_neg (by omega)]
    have e : nameRun (s.data.toList.drop s.size) = true := by rw [List.drop_of_length_le (by omega)]; rfl
    rw [e, Bool.true_and]
    by_cases h : 1 ≤ s.size
    · rw [if_pos (by omega), decide_eq_true h, Bool.true_and]
      congr 1
      rw [Bool.eq_iff_iff]
      simp only [decide_eq_true_eq]
      omega
    · rw [if_neg (by omega), decide_eq_false h, Bool.false_and]
  | succ d ih =>
    intro i h1 h2
    have hi : i < s.data.toList.length := by omega
    refine (ih (i + 1) (by omega) (by omega)).up fun j hj => ?_
    simp only [impl_isName.l0]
    rw [if_pos (by omega), if_pos (by omega), if_pos (by omega), bt_get s i hi, nameRun_at _ i hi]
    by_cases ha : (97 : Nat) ≤ (s.data.toList[i]).toNat
    · rw [if_neg (by omega)]
      by_cases hb : (s.data.toList[i]).toNat ≤ 122
      · rw [if_neg (by omega), w64 (by omega) (by omega), decide_eq_true ha, decide_eq_true hb]
        simpa using hj
      · rw [if_pos (by omega), decide_eq_false hb]
        simp
    · rw [if_pos (by omega), decide_eq_false ha]
      simp
theorem impl_isName_eq (s : ByteArray) (hs : s.size ≤ 9223372036854775807) : LG fun k => impl_isName.f k s = some (isNameB s) :=
  impl_isName_l0 s hs s.size 0 (by omega) (by omega)
end Go.Proofs.Ytgmfaendhnjekaa.B
namespace Go.Proofs.Ytgmfaendhnjekaa.B
open Go Go.RowKit Go.Proofs.YtgmfaendhnjekaaW.PrintWords Go.Proofs.YtgmfaendhnjekaaW.PrintLast Go.Proofs.YtgmfaendhnjekaaW.PrintMore Go.Proofs.Ytgmfaendhnjekaa.PX Go.Proofs.Ytgmfaendhnjekaa.B
theorem within_eq (a b c : Int) : impl_within.f a b c = some (decide (b ≤ a) && decide (a ≤ c)) := by
  unfold impl_within.f
  by_cases h : a ≥ b
  · rw [if_pos h, decide_eq_true (show b ≤ a from h), Bool.true_and]
  · rw [if_neg h, decide_eq_false (show ¬ b ≤ a from h), Bool.false_and]
end Go.Proofs.Ytgmfaendhnjekaa.B
namespace Go.Proofs.Ytgmfaendhnjekaa.B
open Go Go.RowKit Go.Proofs.YtgmfaendhnjekaaW.PrintWords Go.Proofs.YtgmfaendhnjekaaW.PrintLast Go.Proofs.YtgmfaendhnjekaaW.PrintMore Go.Proofs.Ytgmfaendhnjekaa.PX Go.Proofs.Ytgmfaendhnjekaa.B
theorem isTime_eq (t : Int) : impl_isTime.f t = some (isTimeB t) := by
  unfold impl_isTime.f
  rw [within_eq]
  rfl
theorem impl_isKey_eq (r b : ByteArray) (t : Int) (hr : r.size ≤ 9223372036854775807) (hb : b.size ≤ 9223372036854775807) : LG fun k => impl_isKey.f k r b t = some (isKeyB r b t) := by
  refine ((impl_isName_eq r hr).and (impl_isName_eq b hb)).mono fun k ⟨h1, h2⟩ => ?_
  unfold impl_isKey.f isKeyB
  simp only [h1, h2, isTime_eq, Option.bind_some]
  cases isNameB r <;> cases isNameB b <;> simp
end Go.Proofs.Ytgmfaendhnjekaa.B
namespace Go.Proofs.Ytgmfaendhnjekaa.B
open Go Go.RowKit Go.Proofs.YtgmfaendhnjekaaW.PrintWords Go.Proofs.YtgmfaendhnjekaaW.PrintLast Go.Proofs.YtgmfaendhnjekaaW.PrintMore Go.Proofs.Ytgmfaendhnjekaa.PX Go.Proofs.Ytgmfaendhnjekaa.B
theorem impl_isCell_eq (r b : ByteArray) (t v : Int) (g : Bool) (hr : r.size ≤ 9223372036854775807) (hb : b.size ≤ 9223372036854775807) : LG fun k => impl_isCell.f k r b t v g = some (isCellB r b t v g) := by
  refine (impl_isKey_eq r b t hr hb).mono fun k h => ?_
  unfold impl_isCell.f isCellB
  simp only [h, impl_isWord_eq, Option.bind_some]
  cases isKeyB r b t <;> cases isWordB v <;> cases g <;> simp
end Go.Proofs.Ytgmfaendhnjekaa.B
namespace Go.Proofs.Ytgmfaendhnjekaa.B
open Go Go.RowKit Go.Proofs.YtgmfaendhnjekaaW.PrintWords Go.Proofs.YtgmfaendhnjekaaW.PrintLast Go.Proofs.YtgmfaendhnjekaaW.PrintMore Go.Proofs.Ytgmfaendhnjekaa.PX Go.Proofs.Ytgmfaendhnjekaa.B
theorem impl_areCells_l0 (l : List S32) (hl : l.length ≤ 9223372036854775807) (hs : CellSz l) (d : Nat) : ∀ i : Nat, l.length - i = d → i ≤ l.length →
    LG fun k => impl_areCells.l0 k l l (l.length : Int) (i : Int) = some (cellsRun (cellAhead l i) (l.drop i) && decide (l.length ≤ 200)) := by
  induction d with
  | zero =>
    intro i h1 h2
    refine LG.step fun j => ?_
    simp only [impl_areCells.l0]
    rw [if_neg (by omega), List.drop_of_length_le (by omega)]
    simp only [cellsRun, Bool.true_and]
    congr 1
    rw [Bool.eq_iff_iff]
    simp only [decide_eq_true_eq]
    omega
  | succ d ih =>
    intro i h1 h2
    have hi : i < l.length := by omega
    have hz := hs _ (List.getElem_mem hi)
    refine (((ih (i + 1) (by omega) (by omega)).and (impl_isCell_eq (l[i]).f0.f0 (l[i]).f0.f1 (l[i]).f0.f2 (l[i]).f1 (l[i]).f2 hz.1 hz.2)).and
      (compareKeys_eq (rd_T32 l ((i - 1 : Nat) : Int)).f0.f0 (rd_T32 l ((i - 1 : Nat) : Int)).f0.f1 (rd_T32 l ((i - 1 : Nat) : Int)).f0.f2 (l[i]).f0.f0 (l[i]).f0.f1 (l[i]).f0.f2)).up fun j ⟨⟨hj, hn⟩, hc⟩ => ?_
    simp only [impl_areCells.l0]
    rw [if_pos (by omega), if_pos (by omega), if_pos (by omega), cellsRun_at l i hi, rdI_Cell l i hi, hn]
    simp only [Option.bind_some]
    rw [show isCellB (l[i]).f0.f0 (l[i]).f0.f1 (l[i]).f0.f2 (l[i]).f1 (l[i]).f2 = cellOkB l[i] from rfl]
    cases cellOkB l[i] with
    | false => simp
    | true =>
      simp only [if_true, Bool.true_and]
      have e1 : wrap64 ((i : Int) + 1) = ((i + 1 : Nat) : Int) := by rw [w64 (by omega) (by omega)]; omega
      by_cases h0 : i = 0
      · rw [if_neg (by omega), if_pos h0, e1, hj, Bool.true_and]
      · have e : wrap64 ((i : Int) - 1) = ((i - 1 : Nat) : Int) := by rw [w64 (by omega) (by omega)]; omega
        rw [if_pos (by omega), e, if_pos (by omega), if_pos (by omega), if_neg h0, e1, hj, hc]
        simp only [Option.bind_some]
        have hk := kcmp_neg (rd_T32 l ((i - 1 : Nat) : Int)).f0 (l[i]).f0
        have hkk : kcmp ⟨(rd_T32 l ((i - 1 : Nat) : Int)).f0.f0, (rd_T32 l ((i - 1 : Nat) : Int)).f0.f1, (rd_T32 l ((i - 1 : Nat) : Int)).f0.f2⟩ ⟨(l[i]).f0.f0, (l[i]).f0.f1, (l[i]).f0.f2⟩ = kcmp (rd_T32 l ((i - 1 : Nat) : Int)).f0 (l[i]).f0 := rfl
        rw [hkk]
        cases hb : klt (rd_T32 l ((i - 1 : Nat) : Int)).f0 (l[i]).f0 with
        | false =>
          rw [hb] at hk
          rw [if_pos (by have : ¬ kcmp (rd_T32 l ((i - 1 : Nat) : Int)).f0 (l[i]).f0 < 0 := fun h => by simpa using hk.mp h
                         omega)]
          simp
        | true =>
          rw [hb] at hk
          rw [if_neg (by have := hk.mpr rfl
                         omega)]
          simp
theorem impl_areCells_eq (l : List S32) (hl : l.length ≤ 9223372036854775807) (hs : CellSz l) : LG fun k => impl_areCells.f k l = some (cellsOkB l) := by
  simpa [impl_areCells.f, cellsOkB, cellAhead] using impl_areCells_l0 l hl hs l.length 0 (by omega) (by omega)
end Go.Proofs.Ytgmfaendhnjekaa.B
namespace Go.Proofs.Ytgmfaendhnjekaa.B
open Go Go.RowKit Go.Proofs.YtgmfaendhnjekaaW.PrintWords Go.Proofs.YtgmfaendhnjekaaW.PrintLast Go.Proofs.YtgmfaendhnjekaaW.PrintMore Go.Proofs.Ytgmfaendhnjekaa.PX Go.Proofs.Ytgmfaendhnjekaa.B
def CellAsc (l : List S32) : Prop := l.Pairwise fun x y => klt x.f0 y.f0 = true
theorem cellsRun_asc : ∀ (l : List S32) (p : Option S30), cellsRun p l = true → CellAsc l ∧ ∀ q, p = some q → ∀ x ∈ l, klt q x.f0 = true
  | [], p, _ => ⟨List.Pairwise.nil, fun _ _ x hx => absurd hx (by simp)⟩
  | x :: r, p, h => by
    rw [show cellsRun p (x :: r) = (cellOkB x && ((match p with | none => true | some q => klt q x.f0) && cellsRun (some x.f0) r)) from by cases p <;> rfl, Bool.and_eq_true, Bool.and_eq_true] at h
    obtain ⟨_, hp, hr⟩ := h
    obtain ⟨h1, h2⟩ := cellsRun_asc r (some x.f0) hr
    refine ⟨List.Pairwise.cons (fun y hy => h2 _ rfl y hy) h1, ?_⟩
    rintro q rfl y hy
    simp only at hp
    rcases List.mem_cons.mp hy with rfl | hy
    · exact hp
    · exact klt_trans _ _ _ hp (h2 _ rfl y hy)
theorem cellsOk_asc {l : List S32} (h : cellsOkB l = true) : CellAsc l := by
  unfold cellsOkB at h
  rw [Bool.and_eq_true] at h
  exact (cellsRun_asc l none h.1).1
theorem cellsOk_len {l : List S32} (h : cellsOkB l = true) : l.length ≤ 200 := by
  unfold cellsOkB at h
  rw [Bool.and_eq_true] at h
  exact of_decide_eq_true h.2
theorem asc_at {l : List S32} (h : CellAsc l) (i j : Nat) (hi : i < l.length) (hj : j < l.length) (hij : i < j) : klt (l[i]).f0 (l[j]).f0 = true := (List.pairwise_iff_getElem.mp h) i j hi hj hij
/-- the place of a key in a rising list of cells -/
structure Bdy (l : List S32) (q : S30) (n : Nat) : Prop where
  le : n ≤ l.length
  lo : ∀ i (h : i < l.length), i < n → klt (l[i]).f0 q = true
  hi : ∀ i (h : i < l.length), n ≤ i → klt (l[i]).f0 q = false
end Go.Proofs.Ytgmfaendhnjekaa.B
namespace Go.Proofs.Ytgmfaendhnjekaa.B
open Go Go.RowKit Go.Proofs.YtgmfaendhnjekaaW.PrintWords Go.Proofs.YtgmfaendhnjekaaW.PrintLast Go.Proofs.YtgmfaendhnjekaaW.PrintMore Go.Proofs.Ytgmfaendhnjekaa.PX Go.Proofs.Ytgmfaendhnjekaa.B
theorem half64 (a b : Nat) (h : a + b < 9223372036854775808) : wrap64 ((IntKind.u64.wrap (wrap64 ((a : Int) + (b : Int)))) / 2) = (((a + b) / 2 : Nat) : Int) := by
  rw [w64 (n := (a : Int) + b) (by omega) (by omega)]
  have e : IntKind.u64.wrap ((a : Int) + b) = (a : Int) + b := by
    unfold IntKind.wrap
    simp only [IntKind.signed, IntKind.bits, Bool.false_and, Bool.false_eq_true, if_false]
    omega
  rw [e, w64 (by omega) (by omega)]
  omega
theorem compareCells_eq (r1 b1 : ByteArray) (t1 v1 : Int) (g1 : Bool) (r2 b2 : ByteArray) (t2 v2 : Int) (g2 : Bool) : LG fun k => impl_compareCells.f k r1 b1 t1 v1 g1 r2 b2 t2 v2 g2 = some (kcmp ⟨r1, b1, t1⟩ ⟨r2, b2, t2⟩) :=
  (compareKeys_eq r1 b1 t1 r2 b2 t2).mono fun k hk => by unfold impl_compareCells.f; rw [hk]; rfl
theorem bsearchC_l0 (l : List S32) (hl : l.length ≤ 1048576) (ha : CellAsc l) (r b : ByteArray) (t v : Int) (g : Bool) (d : Nat) : ∀ (lo hi : Nat), hi - lo ≤ d → lo ≤ hi → hi ≤ l.length →
    (∀ i (h : i < l.length), i < lo → klt (l[i]).f0 ⟨r, b, t⟩ = true) → (∀ i (h : i < l.length), hi ≤ i → klt (l[i]).f0 ⟨r, b, t⟩ = false) →
    ∃ (n : Nat) (e : Bool), (LG fun k => slices_BinarySearchFunc_impl_Cell_impl_Cell_impl_Cell.l0 k l (l.length : Int) (lo : Int) (hi : Int) r b t v g = some ((n : Int), e)) ∧ Bdy l ⟨r, b, t⟩ n ∧ (e = true ↔ ∃ h : n < l.length, (l[n]).f0 = ⟨r, b, t⟩) := by
  induction d with
  | zero =>
    intro lo hi h1 h2 h3 hlo hhi
    obtain rfl : lo = hi := by omega
    by_cases hn : lo < l.length
    · refine ⟨lo, kcmp (l[lo]).f0 ⟨r, b, t⟩ == 0, (compareCells_eq (l[lo]).f0.f0 (l[lo]).f0.f1 (l[lo]).f0.f2 (l[lo]).f1 (l[lo]).f2 r b t v g).up fun j hj => ?_, ⟨h3, hlo, hhi⟩, ?_⟩
      · simp only [slices_BinarySearchFunc_impl_Cell_impl_Cell_impl_Cell.l0]
        rw [if_neg (by omega), if_pos (by omega), if_pos (by omega), if_pos (by omega), rdI_Cell l lo hn, hj]
        rfl
      · rw [beq_iff_eq, kcmp_zero]
        exact ⟨fun h => ⟨hn, h⟩, fun ⟨_, h⟩ => h⟩
    · refine ⟨lo, false, LG.step fun j => ?_, ⟨h3, hlo, hhi⟩, ?_⟩
      · simp only [slices_BinarySearchFunc_impl_Cell_impl_Cell_impl_Cell.l0]
        rw [if_neg (by omega), if_neg (by omega)]
      · simp
        intro h
        omega
  | succ d ih =>
    intro lo hi h1 h2 h3 hlo hhi
    by_cases he : lo = hi
    · exact ih lo hi (by omega) h2 h3 hlo hhi
    · have hm : (lo + hi) / 2 < l.length := by omega
      have hh : wrap64 ((IntKind.u64.wrap (wrap64 ((lo : Int) + (hi : Int)))) / 2) = (((lo + hi) / 2 : Nat) : Int) := half64 lo hi (by omega)
      generalize hmd : (lo + hi) / 2 = m at hm hh
      have hcmp := compareCells_eq (l[m]).f0.f0 (l[m]).f0.f1 (l[m]).f0.f2 (l[m]).f1 (l[m]).f2 r b t v g
      by_cases hlt : klt (l[m]).f0 ⟨r, b, t⟩ = true
      · obtain ⟨n, e, hk, hb, hx⟩ := ih (m + 1) hi (by omega) (by omega) h3 (by
          intro i h hi'
          by_cases hie : i = m
          · subst hie; exact hlt
          · exact klt_trans _ _ _ (asc_at ha i m h hm (by omega)) hlt) hhi
        refine ⟨n, e, (hk.and hcmp).up fun j hj => ?_, hb, hx⟩
        simp only [slices_BinarySearchFunc_impl_Cell_impl_Cell_impl_Cell.l0]
        rw [if_pos (by omega), hh, if_pos (by omega), if_pos (by omega), rdI_Cell l m hm, hj.2]
        simp only [Option.bind_some]
        rw [if_pos ((kcmp_neg _ _).mpr hlt), w64 (by omega) (by omega)]
        simpa using hj.1
      · obtain ⟨n, e, hk, hb, hx⟩ := ih lo m (by omega) (by omega) (by omega) hlo (by
          intro i h hi'
          by_cases hie : i = m
          · subst hie; simpa using hlt
          · cases hc : klt (l[i]).f0 ⟨r, b, t⟩
            · rfl
            · exact absurd (klt_trans _ _ _ (asc_at ha m i hm h (by omega)) hc) hlt)
        refine ⟨n, e, (hk.and hcmp).up fun j hj => ?_, hb, hx⟩
        simp only [slices_BinarySearchFunc_impl_Cell_impl_Cell_impl_Cell.l0]
        rw [if_pos (by omega), hh, if_pos (by omega), if_pos (by omega), rdI_Cell l m hm, hj.2]
        simp only [Option.bind_some]
        rw [if_neg (fun h => hlt ((kcmp_neg _ _).mp h))]
        exact hj.1
theorem bsearchC_eq (l : List S32) (hl : l.length ≤ 1048576) (ha : CellAsc l) (r b : ByteArray) (t v : Int) (g : Bool) :
    ∃ (n : Nat) (e : Bool), (LG fun k => slices_BinarySearchFunc_impl_Cell_impl_Cell_impl_Cell.f k l r b t v g = some ((n : Int), e)) ∧ Bdy l ⟨r, b, t⟩ n ∧ (e = true ↔ ∃ h : n < l.length, (l[n]).f0 = ⟨r, b, t⟩) := by
  obtain ⟨n, e, hk, hb, hx⟩ := bsearchC_l0 l hl ha r b t v g l.length 0 l.length (by omega) (by omega) (by omega) (fun i _ h => by omega) (fun i h h' => by omega)
  exact ⟨n, e, hk, hb, hx⟩
end Go.Proofs.Ytgmfaendhnjekaa.B
namespace Go.Proofs.Ytgmfaendhnjekaa.B
open Go Go.RowKit Go.Proofs.YtgmfaendhnjekaaW.PrintWords Go.Proofs.YtgmfaendhnjekaaW.PrintLast Go.Proofs.YtgmfaendhnjekaaW.PrintMore Go.Proofs.Ytgmfaendhnjekaa.PX Go.Proofs.Ytgmfaendhnjekaa.B
abbrev FR : Type := ByteArray × ByteArray × Int × Int × Bool × Bool
/-- what a search finds at place n -/
def findAt (l : List S32) (r b : ByteArray) (n : Nat) : FR :=
  if h : n < l.length then (if (l[n]).f0.f0 = r ∧ (l[n]).f0.f1 = b then ((l[n]).f0.f0, (l[n]).f0.f1, (l[n]).f0.f2, (l[n]).f1, (l[n]).f2, true) else (⟨#[]⟩, ⟨#[]⟩, 0, 0, false, false)) else (⟨#[]⟩, ⟨#[]⟩, 0, 0, false, false)
/-- cells behind the place do not match, when the cell at the place does not -/
theorem no_later {l : List S32} (ha : CellAsc l) {r b : ByteArray} {t : Int} {n : Nat} (hb : Bdy l ⟨r, b, t⟩ n) (hn : n < l.length) (hne : ¬ ((l[n]).f0.f0 = r ∧ (l[n]).f0.f1 = b)) (j : Nat) (hj : j < l.length) (hnj : n ≤ j) : ¬ ((l[j]).f0.f0 = r ∧ (l[j]).f0.f1 = b) := by
  rintro ⟨e0, e1⟩
  by_cases hjn : j = n
  · subst hjn; exact hne ⟨e0, e1⟩
  have hlt := asc_at ha n j hn hj (by omega)
  have hnl := hb.hi n hn (Nat.le_refl _)
  rcases klt_tri (l[n]).f0 ⟨r, b, t⟩ with h | h | h
  · rw [h] at hnl; exact absurd hnl (by simp)
  · exact hne (by rw [h]; exact ⟨rfl, rfl⟩)
  · rw [klt_iff] at hlt h
    simp only at h
    rcases h with h | ⟨h0, h | ⟨h1, _⟩⟩
    · rcases hlt with g | ⟨g0, _⟩
      · rw [e0] at g; rw [bl_asymm _ _ h] at g; exact absurd g (by simp)
      · rw [← e0, g0, bl_irrefl] at h; exact absurd h (by simp)
    · rcases hlt with g | ⟨g0, g | ⟨g1, _⟩⟩
      · rw [e0, h0, bl_irrefl] at g; exact absurd g (by simp)
      · rw [e1, bl_asymm _ _ h] at g; exact absurd g (by simp)
      · rw [← e1, g1, bl_irrefl] at h; exact absurd h (by simp)
    · exact hne ⟨h0.symm, h1.symm⟩
theorem l4Find_l0 (l : List S32) (hl : l.length ≤ 1048576) (ha : CellAsc l) (r b : ByteArray) (t : Int) (n : Nat) (hb : Bdy l ⟨r, b, t⟩ n) (d : Nat) : ∀ i : Nat, l.length - i = d → i ≤ l.length → (n < i → ∃ h : n < l.length, ¬ ((l[n]).f0.f0 = r ∧ (l[n]).f0.f1 = b)) →
    LG fun k => spec_l4Find.l0 k l r b t (i : Int) = some (findAt l r b n) := by
  induction d with
  | zero =>
    intro i h1 h2 h3
    refine LG.step fun j => ?_
    simp only [spec_l4Find.l0]
    rw [if_neg (by omega)]
    congr 1
    unfold findAt
    by_cases hn : n < l.length
    · obtain ⟨_, hne⟩ := h3 (by omega)
      rw [dif_pos hn, if_neg hne]
    · rw [dif_neg hn]
  | succ d ih =>
    intro i h1 h2 h3
    have hi : i < l.length := by omega
    by_cases hm : i = n ∧ (l[i]).f0.f0 = r ∧ (l[i]).f0.f1 = b
    · obtain ⟨rfl, hr, hbn⟩ := hm
      refine LG.step fun j => ?_
      have hnl := hb.hi i hi (Nat.le_refl _)
      have ht : (l[i]).f0.f2 ≤ t := by
        apply Int.not_lt.mp
        intro hlt
        rw [(klt_iff _ _).mpr (.inr ⟨hr, .inr ⟨hbn, hlt⟩⟩)] at hnl
        exact absurd hnl (by simp)
      simp only [spec_l4Find.l0]
      rw [if_pos (by omega), if_pos (by omega), rdI_Cell l i hi, if_pos ((toList_inj _ _).mpr hr), if_pos ((toList_inj _ _).mpr hbn), if_pos ht]
      unfold findAt
      rw [dif_pos hi, if_pos ⟨hr, hbn⟩]
    · have hskip : ¬ ((l[i]).f0.f0 = r ∧ (l[i]).f0.f1 = b ∧ (l[i]).f0.f2 ≤ t) := by
        rintro ⟨e0, e1, e2⟩
        rcases Nat.lt_trichotomy i n with h | h | h
        · have := hb.lo i hi h
          rw [klt_iff] at this
          simp only at this
          rcases this with g | ⟨_, g | ⟨_, g⟩⟩
          · rw [e0, bl_irrefl] at g; exact absurd g (by simp)
          · rw [e1, bl_irrefl] at g; exact absurd g (by simp)
          · omega
        · exact hm ⟨h, e0, e1⟩
        · obtain ⟨hn, hne⟩ := h3 h
          exact no_later ha hb hn hne i hi (by omega) ⟨e0, e1⟩
      refine (ih (i + 1) (by omega) (by omega) (fun h => ?_)).up fun j hj => ?_
      · by_cases hin : i = n
        · subst hin
          exact ⟨hi, fun hx => hm ⟨rfl, hx⟩⟩
        · exact h3 (by omega)
      · simp only [spec_l4Find.l0]
        rw [if_pos (by omega), if_pos (by omega), rdI_Cell l i hi, w64 (by omega) (by omega)]
        simp only [toList_inj]
        have hj' : spec_l4Find.l0 j l r b t ((i : Int) + 1) = some (findAt l r b n) := by simpa using hj
        split
        · split
          · rw [if_neg (fun h => hskip ⟨by assumption, by assumption, h⟩), hj']
          · exact hj'
        · exact hj'
theorem impl_find_eq (l : List S32) (hl : l.length ≤ 1048576) (ha : CellAsc l) (r b : ByteArray) (t : Int) :
    ∃ q, (LG fun k => impl_find.f k l r b t = some q) ∧ (LG fun k => spec_l4Find.f k l r b t = some q) := by
  obtain ⟨n, e, hk, hb, _⟩ := bsearchC_eq l hl ha r b t 0 false
  refine ⟨findAt l r b n, hk.mono fun k h => ?_, l4Find_l0 l hl ha r b t n hb l.length 0 (by omega) (by omega) (fun h => by omega)⟩
  unfold impl_find.f findAt
  rw [h]
  simp only [Option.bind_some]
  have hle := hb.le
  by_cases hn : n < l.length
  · rw [if_neg (by omega), if_pos (by omega), if_pos (by omega), rdI_Cell l n hn, dif_pos hn]
    simp only [toList_inj]
    by_cases h0 : (l[n]).f0.f0 = r
    · by_cases h1 : (l[n]).f0.f1 = b
      · rw [if_pos h0, if_pos h1, if_pos ⟨h0, h1⟩]
      · rw [if_pos h0, if_neg h1, if_neg (fun h => h1 h.2)]
    · rw [if_neg h0, if_neg (fun h => h0 h.1)]
  · rw [if_pos (by omega), dif_neg hn]
theorem Find_both (l : List S32) (hl : l.length ≤ 1048576) (hs : CellSz l) (r b : ByteArray) (t : Int) (hr : r.size ≤ 9223372036854775807) (hbz : b.size ≤ 9223372036854775807)
    (hc1 : LG fun k => spec_CellsOk.f k l = some (cellsOkB l)) (hc2 : LG fun k => impl_areCells.f k l = some (cellsOkB l))
    (hk1 : LG fun k => spec_KeyOk.f k r b t = some (isKeyB r b t)) (hk2 : LG fun k => impl_isKey.f k r b t = some (isKeyB r b t)) :
    ∃ q, (LG fun k => spec_Find.f k l r b t = some q) ∧ (LG fun k => impl_Find.f k l r b t = some q) := by
  by_cases hok : cellsOkB l = true
  · obtain ⟨q, hq1, hq2⟩ := impl_find_eq l hl (cellsOk_asc hok) r b t
    by_cases hky : isKeyB r b t = true
    · refine ⟨q, ((hc1.and hk1).and hq2).mono fun k h => ?_, ((hc2.and hk2).and hq1).mono fun k h => ?_⟩
      · unfold spec_Find.f
        simp only [h.1.1, h.1.2, h.2, hok, hky, Option.bind_some, if_true]
      · unfold impl_Find.f
        simp only [h.1.1, h.1.2, h.2, hok, hky, Option.bind_some, if_true]
    · refine ⟨(⟨#[]⟩, ⟨#[]⟩, 0, 0, false, false), (hc1.and hk1).mono fun k h => ?_, (hc2.and hk2).mono fun k h => ?_⟩
      · unfold spec_Find.f
        simp only [h.1, h.2, hok, Option.bind_some, if_true, if_neg hky]
      · unfold impl_Find.f
        simp only [h.1, h.2, hok, Option.bind_some, if_true, if_neg hky]
  · refine ⟨(⟨#[]⟩, ⟨#[]⟩, 0, 0, false, false), hc1.mono fun k h => ?_, hc2.mono fun k h => ?_⟩
    · unfold spec_Find.f
      simp only [h, Option.bind_some, if_neg hok]
    · unfold impl_Find.f
      simp only [h, Option.bind_some, if_neg hok]
end Go.Proofs.Ytgmfaendhnjekaa.B
namespace Go.Proofs.Ytgmfaendhnjekaa.Pure
open Go Go.RowKit Go.Proofs.YtgmfaendhnjekaaW.PrintWords Go.Proofs.YtgmfaendhnjekaaW.PrintLast Go.Proofs.YtgmfaendhnjekaaW.PrintMore Go.Proofs.Ytgmfaendhnjekaa.PX Go.Proofs.Ytgmfaendhnjekaa.B
theorem FnExactFind : FnExactFind_Pure := by
  intro l a1 a2 a3 hl h1 h2 _
  have hz : CellSzL l := fun x hx => ⟨(hl.2 x hx).1.1, (hl.2 x hx).1.2.1⟩
  obtain ⟨r, hr, hle⟩ := szCellS_eq l hl.1 hz
  by_cases h0 : r < 0
  · obtain ⟨k, hk⟩ := hr.rounds
    refine ⟨k, ?_⟩
    unfold laws_FnExactFind.f
    simp only [hk, Option.bind_some, if_pos h0]
    repeat' split
    all_goals rfl
  · have hlen := hle (by omega)
    have hml : (l.map toC).length ≤ 1048576 := by rw [List.length_map]; omega
    have hms := toC_sz l hz
    obtain ⟨q, hq1, hq2⟩ := Find_both (l.map toC) hml hms a1 a2 a3 h1 h2 (spec_CellsOk_eq _ (by omega) hms) (impl_areCells_eq _ (by omega) hms) (spec_KeyOk_eq a1 a2 a3 h1 h2) (impl_isKey_eq a1 a2 a3 h1 h2)
    obtain ⟨k, g⟩ := (((((hr.and (toCellS_eq l hlen)).and hq1).and hq2).and (eqCellS_self (l.map toC) (by omega)))).rounds
    have g' := g
    have hj : ∃ k, (((((laws_szCellS.f k l 1048576 = some r) ∧ laws_toCellS.f k l = some (l.map toC)) ∧ spec_Find.f k (l.map toC) a1 a2 a3 = some q) ∧ impl_Find.f k (l.map toC) a1 a2 a3 = some q)) ∧ laws_FnExactFind.j0 k l (l.map toC) false = some true := by
      obtain ⟨K, hK⟩ := (((((hr.and (toCellS_eq l hlen)).and hq1).and hq2).and (eqCellS_self (l.map toC) (by omega))))
      refine ⟨K + 1, (hK (K + 1) (by omega)).1, ?_⟩
      have hh := hK K (by omega)
      simp only [laws_FnExactFind.j0, Bool.false_eq_true, if_false, hh.1.1.1.2, hh.2, Option.bind_some, if_true]
    obtain ⟨k, ⟨⟨⟨e1, e2⟩, e3⟩, e4⟩, e5⟩ := hj
    refine ⟨k, ?_⟩
    unfold laws_FnExactFind.f
    simp only [e1, e2, e3, e4, eqCell_self, Option.bind_some, if_neg h0, if_true, bne_self_eq_false, e5]
    repeat' split
    all_goals rfl
end Go.Proofs.Ytgmfaendhnjekaa.Pure
