import Derived.Test.YthelgojccmchjaaPXx0
import Derived.Test.YthelgojccmchjaaPXx1
import Derived.Test.YthelgojccmchjaaPXx2
import Derived.Test.YthelgojccmchjaaPXx3
import Derived.Test.YthelgojccmchjaaStFnExactBinsOk
import Derived.Test.YthelgojccmchjaaWMore
set_option linter.unusedVariables false
set_option linter.unusedSimpArgs false
namespace Go.Proofs.Ythelgojccmchjaa.B
open Go Go.RowKit Go.Proofs.YthelgojccmchjaaW.PrintWords Go.Proofs.YthelgojccmchjaaW.PrintLast Go.Proofs.YthelgojccmchjaaW.PrintMore Go.Proofs.Ythelgojccmchjaa.PX
/-- From some number of rounds on. -/
def LG (p : Nat → Prop) : Prop := ∃ K, ∀ k, K ≤ k → p k
namespace LG
theorem all {p : Nat → Prop} (h : ∀ k, p k) : LG p := ⟨0, fun k _ => h k⟩
theorem step {p : Nat → Prop} (h : ∀ j, p (j + 1)) : LG p := ⟨1, fun k hk => by
  obtain ⟨j, rfl⟩ : ∃ j, k = j + 1 := ⟨k - 1, by omega⟩
  exact h j⟩
theorem and {p q : Nat → Prop} (h : LG p) (g : LG q) : LG fun k => p k ∧ q k := by
  obtain ⟨a, h⟩ := h
  obtain ⟨b, g⟩ := g
  exact ⟨max a b, fun k hk => ⟨h k (by omega), g k (by omega)⟩⟩
theorem mono {p q : Nat → Prop} (h : LG p) (g : ∀ k, p k → q k) : LG q := by
  obtain ⟨a, h⟩ := h
  exact ⟨a, fun k hk => g k (h k hk)⟩
/-- One round: what holds of j holds of j + 1 rounds. -/
theorem up {p q : Nat → Prop} (h : LG p) (g : ∀ j, p j → q (j + 1)) : LG q := by
  obtain ⟨a, h⟩ := h
  refine ⟨a + 1, fun k hk => ?_⟩
  obtain ⟨j, rfl⟩ : ∃ j, k = j + 1 := ⟨k - 1, by omega⟩
  exact g j (h j (by omega))
theorem rounds {p : Nat → Prop} (h : LG p) : ∃ k, p k := by
  obtain ⟨a, h⟩ := h
  exact ⟨a, h a (Nat.le_refl _)⟩
end LG
def I64 (n : Int) : Prop := -9223372036854775808 ≤ n ∧ n ≤ 9223372036854775807
theorem i64_of {n : Int} (h : (Lit.int .i64 n).wf = true) : I64 n := by
  simp only [Lit.wf, IntKind.min, IntKind.max, IntKind.signed, IntKind.bits, Bool.and_eq_true, decide_eq_true_eq, if_true] at h
  unfold I64
  omega
theorem w64 {n : Int} (h0 : -9223372036854775808 ≤ n) (h1 : n ≤ 9223372036854775807) : wrap64 n = n := by
  unfold wrap64
  omega
theorem bt_get (s : ByteArray) (i : Nat) (h : i < s.data.toList.length) : bt s (i : Int) = ((s.data.toList[i]).toNat : Int) := by
  have hs : (i : Int).toNat < s.size := by
    have : s.size = s.data.toList.length := by rw [Array.length_toList]; rfl
    omega
  unfold bt
  rw [dif_pos hs]
  rfl
theorem size_len (s : ByteArray) : s.data.toList.length = s.size := by rw [Array.length_toList]; rfl
end Go.Proofs.Ythelgojccmchjaa.B
namespace Go.Proofs.Ythelgojccmchjaa.B
open Go Go.RowKit Go.Proofs.YthelgojccmchjaaW.PrintWords Go.Proofs.YthelgojccmchjaaW.PrintLast Go.Proofs.YthelgojccmchjaaW.PrintMore Go.Proofs.Ythelgojccmchjaa.PX Go.Proofs.Ythelgojccmchjaa.B
theorem getD_nat {α : Type} (xs : List α) (z : α) (i : Nat) (h : i < xs.length) : xs.getD (i : Int).toNat z = xs[i] := by
  rw [Int.toNat_natCast, List.getD_eq_getElem?_getD, List.getElem?_eq_getElem h]
  rfl
theorem set_take {α : Type} (xs : List α) (i : Nat) (v : α) (h : i < xs.length) : (xs.set i v).take (i + 1) = xs.take i ++ [v] := by
  rw [List.take_succ_eq_append_getElem (by simpa using h), List.take_set_of_le (Nat.le_refl i), List.getElem_set_self]
theorem take_map_succ {α β : Type} (f : α → β) (xs : List α) (i : Nat) (h : i < xs.length) : (xs.map f).take (i + 1) = (xs.map f).take i ++ [f xs[i]] := by
  rw [List.take_succ_eq_append_getElem (by simpa using h), List.getElem_map]
theorem take_all {α : Type} {xs ys : List α} {n : Nat} (hx : xs.length = n) (hy : ys.length = n) (h : xs.take n = ys.take n) : xs = ys := by
  rw [List.take_of_length_le (by omega), List.take_of_length_le (by omega)] at h
  exact h
theorem toList_eq (s : ByteArray) : s.toList = s.data.toList := by
  first | exact ByteArray.toList_eq s | simp
theorem toList_inj (s t : ByteArray) : s.toList = t.toList ↔ s = t := by
  rw [toList_eq, toList_eq]
  constructor
  · intro h
    obtain ⟨⟨l⟩⟩ := s
    obtain ⟨⟨m⟩⟩ := t
    simp at h
    rw [h]
  · rintro rfl
    rfl
end Go.Proofs.Ythelgojccmchjaa.B
namespace Go.Proofs.Ythelgojccmchjaa.B
open Go Go.RowKit Go.Proofs.YthelgojccmchjaaW.PrintWords Go.Proofs.YthelgojccmchjaaW.PrintLast Go.Proofs.YthelgojccmchjaaW.PrintMore Go.Proofs.Ythelgojccmchjaa.PX Go.Proofs.Ythelgojccmchjaa.B
def toB (x : S65) : S66 := ⟨x.f0, x.f1⟩
theorem rdL_Bin (xs : List S65) (i : Nat) (h : i < xs.length) : rd_T65 xs (i : Int) = xs[i] := getD_nat xs _ i h
theorem rdI_Bin (xs : List S66) (i : Nat) (h : i < xs.length) : rd_T66 xs (i : Int) = xs[i] := getD_nat xs _ i h
end Go.Proofs.Ythelgojccmchjaa.B
namespace Go.Proofs.Ythelgojccmchjaa.B
open Go Go.RowKit Go.Proofs.YthelgojccmchjaaW.PrintWords Go.Proofs.YthelgojccmchjaaW.PrintLast Go.Proofs.YthelgojccmchjaaW.PrintMore Go.Proofs.Ythelgojccmchjaa.PX Go.Proofs.Ythelgojccmchjaa.B
theorem szBin_eq (a : ByteArray) (b left : Int) (ha : a.size ≤ 9223372036854775807) (h0 : 0 ≤ left) (h1 : left ≤ 1048576) : ∃ r, laws_szBin.f a b left = some r ∧ r ≤ left ∧ (0 ≤ r → r = left - a.size) := by
  unfold laws_szBin.f
  rw [w64 (by omega) (by omega)]
  by_cases h : left - (a.size : Int) < 0
  · rw [if_pos h]
    exact ⟨-1, rfl, by omega, by omega⟩
  · rw [if_neg h]
    exact ⟨_, rfl, by omega, fun _ => rfl⟩
theorem szBinS_l0 (l : List S65) (hl : l.length ≤ 1048576) (hs : ∀ x ∈ l, x.f0.size ≤ 9223372036854775807) (d : Nat) : ∀ (i : Nat) (left : Int), l.length - i = d → i ≤ l.length → 0 ≤ left → left ≤ 1048576 →
    ∃ r, LG fun k => laws_szBinS.l0 k l left (i : Int) = some r := by
  induction d with
  | zero =>
    intro i left h1 h2 _ _
    refine ⟨left, LG.step fun j => ?_⟩
    simp only [laws_szBinS.l0]
    rw [if_neg (by omega)]
  | succ d ih =>
    intro i left h1 h2 h3 h4
    have hi : i < l.length := by omega
    obtain ⟨r, hr, hle, _⟩ := szBin_eq (l[i]).f0 (l[i]).f1 left (hs _ (List.getElem_mem hi)) h3 h4
    by_cases hn : r < 0
    · refine ⟨-1, LG.step fun j => ?_⟩
      simp only [laws_szBinS.l0]
      rw [if_pos (by omega), if_pos (by omega), rdL_Bin l i hi, hr]
      simp only [Option.bind_some]
      rw [if_pos hn]
    · obtain ⟨q, hq⟩ := ih (i + 1) r (by omega) (by omega) (by omega) (by omega)
      refine ⟨q, hq.up fun j hj => ?_⟩
      simp only [laws_szBinS.l0]
      rw [if_pos (by omega), if_pos (by omega), rdL_Bin l i hi, hr]
      simp only [Option.bind_some]
      rw [if_neg hn, w64 (by omega) (by omega)]
      simpa using hj
theorem szBinS_eq (l : List S65) (hm : l.length ≤ 9223372036854775807) (hs : ∀ x ∈ l, x.f0.size ≤ 9223372036854775807) : ∃ r, (LG fun k => laws_szBinS.f k l 1048576 = some r) ∧ (0 ≤ r → l.length ≤ 1048576) := by
  by_cases h : l.length ≤ 1048576
  · obtain ⟨r, hr⟩ := szBinS_l0 l h hs l.length 0 (1048576 - l.length) (by omega) (by omega) (by omega) (by omega)
    refine ⟨r, hr.mono fun k hk => ?_, fun _ => h⟩
    unfold laws_szBinS.f
    rw [w64 (by omega) (by omega), if_neg (by omega)]
    exact hk
  · refine ⟨-1, LG.all fun k => ?_, by omega⟩
    unfold laws_szBinS.f
    rw [w64 (by omega) (by omega), if_pos (by omega)]
theorem toBinS_l0 (l : List S65) (hl : l.length ≤ 1048576) (d : Nat) : ∀ (i : Nat) (x : List S66), l.length - i = d → i ≤ l.length → x.length = l.length → x.take i = (l.map toB).take i →
    LG fun k => laws_toBinS.l0 k l x (i : Int) = some (l.map toB) := by
  induction d with
  | zero =>
    intro i x h1 h2 h3 h4
    refine LG.step fun j => ?_
    obtain rfl : i = l.length := by omega
    simp only [laws_toBinS.l0]
    rw [if_neg (by omega), take_all h3 (by simp) h4]
  | succ d ih =>
    intro i x h1 h2 h3 h4
    have hi : i < l.length := by omega
    refine (ih (i + 1) (x.set i (toB l[i])) (by omega) (by omega) (by simpa using h3) ?_).up fun j hj => ?_
    · rw [set_take _ _ _ (by omega), take_map_succ _ _ _ hi, h4]
    · simp only [laws_toBinS.l0, laws_toBin.f]
      rw [if_pos (by omega), if_pos (by omega), rdL_Bin l i hi]
      simp only [Option.bind_some]
      rw [if_pos (by omega), w64 (by omega) (by omega)]
      simpa [toB] using hj
theorem toBinS_eq (l : List S65) (hl : l.length ≤ 1048576) : LG fun k => laws_toBinS.f k l = some (l.map toB) := by
  refine (toBinS_l0 l hl l.length 0 (List.replicate l.length z66) (by omega) (by omega) (by simp) (by simp)).mono fun k hk => ?_
  unfold laws_toBinS.f
  rw [if_pos (by omega), if_pos (by omega), Int.toNat_natCast]
  exact hk
theorem eqBinS_l0 (l : List S66) (hl : l.length ≤ 9223372036854775807) (d : Nat) : ∀ i : Nat, l.length - i = d → i ≤ l.length → LG fun k => laws_eqBinS.l0 k l l (i : Int) = some true := by
  induction d with
  | zero =>
    intro i h1 h2
    refine LG.step fun j => ?_
    simp only [laws_eqBinS.l0]
    rw [if_neg (by omega)]
  | succ d ih =>
    intro i h1 h2
    refine (ih (i + 1) (by omega) (by omega)).up fun j hj => ?_
    simp only [laws_eqBinS.l0, laws_eqBin.f]
    rw [if_pos (by omega), if_pos (by omega), if_pos (by omega)]
    simp only [Option.bind_some, if_true]
    rw [w64 (by omega) (by omega)]
    simpa using hj
theorem eqBinS_self (l : List S66) (hl : l.length ≤ 9223372036854775807) : LG fun k => laws_eqBinS.f k l l = some true := by
  refine (eqBinS_l0 l hl l.length 0 (by omega) (by omega)).mono fun k hk => ?_
  unfold laws_eqBinS.f
  rw [if_pos rfl]
  exact hk
end Go.Proofs.Ythelgojccmchjaa.B
namespace Go.Proofs.Ythelgojccmchjaa.B
open Go Go.RowKit Go.Proofs.YthelgojccmchjaaW.PrintWords Go.Proofs.YthelgojccmchjaaW.PrintLast Go.Proofs.YthelgojccmchjaaW.PrintMore Go.Proofs.Ythelgojccmchjaa.PX Go.Proofs.Ythelgojccmchjaa.B
/-- all bytes are from a to z -/
def nameRun (l : List UInt8) : Bool := l.all fun c => decide (97 ≤ c.toNat) && decide (c.toNat ≤ 122)
def isNameB (s : ByteArray) : Bool := nameRun s.data.toList && (decide (1 ≤ s.size) && decide (s.size ≤ 8))
theorem nameRun_at (l : List UInt8) (i : Nat) (h : i < l.length) : nameRun (l.drop i) = (decide (97 ≤ (l[i]).toNat) && decide ((l[i]).toNat ≤ 122) && nameRun (l.drop (i + 1))) := by
  rw [List.drop_eq_getElem_cons h]
  simp only [nameRun, List.all_cons]
end Go.Proofs.Ythelgojccmchjaa.B
namespace Go.Proofs.Ythelgojccmchjaa.B
open Go Go.RowKit Go.Proofs.YthelgojccmchjaaW.PrintWords Go.Proofs.YthelgojccmchjaaW.PrintLast Go.Proofs.YthelgojccmchjaaW.PrintMore Go.Proofs.Ythelgojccmchjaa.PX Go.Proofs.Ythelgojccmchjaa.B
def isWordB (n : Int) : Bool := decide (-2147483648 ≤ n) && decide (n ≤ 2147483647)
theorem l1In_eq (a b c : Int) : spec_l1In.f a b c = some (decide (b ≤ a) && decide (a ≤ c)) := by
  unfold spec_l1In.f
  by_cases h : a ≥ b
  · rw [if_pos h, decide_eq_true (show b ≤ a from h), Bool.true_and]
  · rw [if_neg h, decide_eq_false (show ¬ b ≤ a from h), Bool.false_and]
theorem l1Word_eq (n : Int) : spec_l1Word.f n = some (isWordB n) := by
  unfold spec_l1Word.f
  rw [l1In_eq]
  rfl
theorem w32_range (n : Int) : -2147483648 ≤ wrap32 n ∧ wrap32 n ≤ 2147483647 := by
  unfold wrap32
  omega
theorem impl_wrap_eq (n : Int) : impl_wrap.f n = some (wrap32 n) := by
  have := w32_range n
  unfold impl_wrap.f
  rw [w64 (by omega) (by omega)]
theorem isWordB_wrap (n : Int) : (n == wrap32 n) = isWordB n := by
  unfold isWordB
  rw [Bool.eq_iff_iff]
  simp only [beq_iff_eq, Bool.and_eq_true, decide_eq_true_eq]
  unfold wrap32
  omega
theorem impl_isWord_eq (n : Int) : impl_isWord.f n = some (isWordB n) := by
  unfold impl_isWord.f
  rw [impl_wrap_eq]
  simp only [Option.bind_some]
  rw [isWordB_wrap]
end Go.Proofs.Ythelgojccmchjaa.B
namespace Go.Proofs.Ythelgojccmchjaa.B
open Go Go.RowKit Go.Proofs.YthelgojccmchjaaW.PrintWords Go.Proofs.YthelgojccmchjaaW.PrintLast Go.Proofs.YthelgojccmchjaaW.PrintMore Go.Proofs.Ythelgojccmchjaa.PX Go.Proofs.Ythelgojccmchjaa.B
def binsRun (p : Option ByteArray) : List S66 → Bool
  | [] => true
  | x :: r => isNameB x.f0 && (isWordB x.f1 && ((match p with | none => true | some q => Op.bytesLess q.toList x.f0.toList) && binsRun (some x.f0) r))
def binsOkB (l : List S66) : Bool := binsRun none l && decide (l.length ≤ 12)
/-- the name ahead of place i -/
def binAhead (l : List S66) (i : Nat) : Option ByteArray := if i = 0 then none else (l[i - 1]?).map (fun x => x.f0)
theorem binsRun_at (l : List S66) (i : Nat) (h : i < l.length) : binsRun (binAhead l i) (l.drop i) =
    (isNameB (l[i]).f0 && (isWordB (l[i]).f1 && ((if i = 0 then true else Op.bytesLess (rd_T66 l ((i - 1 : Nat) : Int)).f0.toList (l[i]).f0.toList) && binsRun (binAhead l (i + 1)) (l.drop (i + 1))))) := by
  rw [List.drop_eq_getElem_cons h]
  have e : binAhead l (i + 1) = some (l[i]).f0 := by simp [binAhead, List.getElem?_eq_getElem h]
  rw [e]
  by_cases h0 : i = 0
  · subst h0
    simp [binsRun, binAhead]
  · have h1 : i - 1 < l.length := by omega
    rw [rdI_Bin l (i - 1) h1]
    simp [binsRun, binAhead, h0, List.getElem?_eq_getElem h1]
end Go.Proofs.Ythelgojccmchjaa.B
namespace Go.Proofs.Ythelgojccmchjaa.B
open Go Go.RowKit Go.Proofs.YthelgojccmchjaaW.PrintWords Go.Proofs.YthelgojccmchjaaW.PrintLast Go.Proofs.YthelgojccmchjaaW.PrintMore Go.Proofs.Ythelgojccmchjaa.PX Go.Proofs.Ythelgojccmchjaa.B
theorem spec_NameOk_l0 (s : ByteArray) (hs : s.size ≤ 9223372036854775807) (d : Nat) : ∀ i : Nat, i ≤ s.size → s.size - i = d →
    LG fun k => spec_NameOk.l0 k s (i : Int) = some (nameRun (s.data.toList.drop i) && (decide (1 ≤ s.size) && decide (s.size ≤ 8))) := by
  have hl := size_len s
  induction d with
  | zero =>
    intro i h1 h2
    refine LG.step fun j => ?_
    obtain rfl : i = s.size := by omega
    simp only [spec_NameOk.l0]
    rw [if_neg (by omega), l1In_eq]
    have e : nameRun (s.data.toList.drop s.size) = true := by rw [List.drop_of_length_le (by omega)]; rfl
    rw [e, Bool.true_and, Option.bind_some]
    congr 1
    rw [Bool.eq_iff_iff]
    simp only [Bool.and_eq_true, decide_eq_true_eq]
    omega
  | succ d ih =>
    intro i h1 h2
    have hi : i < s.data.toList.length := by omega
    refine (ih (i + 1) (by omega) (by omega)).up fun j hj => ?_
    simp only [spec_NameOk.l0]
    rw [if_pos (by omega), if_pos (by omega), bt_get s i hi, nameRun_at _ i hi]
    by_cases ha : (97 : Nat) ≤ (s.data.toList[i]).toNat
    · rw [if_neg (by omega)]
      by_cases hb : (s.data.toList[i]).toNat ≤ 122
      · rw [if_neg (by omega), w64 (by omega) (by omega), decide_eq_true ha, decide_eq_true hb]
        simpa using hj
      · rw [if_pos (by omega), decide_eq_false hb]
        simp
    · rw [if_pos (by omega), decide_eq_false ha]
      simp
theorem spec_NameOk_eq (s : ByteArray) (hs : s.size ≤ 9223372036854775807) : LG fun k => spec_NameOk.f k s = some (isNameB s) :=
  spec_NameOk_l0 s hs s.size 0 (by omega) (by omega)
end Go.Proofs.Ythelgojccmchjaa.B
namespace Go.Proofs.Ythelgojccmchjaa.B
open Go Go.RowKit Go.Proofs.YthelgojccmchjaaW.PrintWords Go.Proofs.YthelgojccmchjaaW.PrintLast Go.Proofs.YthelgojccmchjaaW.PrintMore Go.Proofs.Ythelgojccmchjaa.PX Go.Proofs.Ythelgojccmchjaa.B
theorem spec_BinsOk_l0 (l : List S66) (hl : l.length ≤ 9223372036854775807) (hs : ∀ x ∈ l, x.f0.size ≤ 9223372036854775807) (d : Nat) : ∀ i : Nat, l.length - i = d → i ≤ l.length →
    LG fun k => spec_BinsOk.l0 k l (i : Int) = some (binsRun (binAhead l i) (l.drop i) && decide (l.length ≤ 12)) := by
  induction d with
  | zero =>
    intro i h1 h2
    refine LG.step fun j => ?_
    simp only [spec_BinsOk.l0]
    rw [if_neg (by omega), List.drop_of_length_le (by omega)]
    simp only [binsRun, Bool.true_and]
    congr 1
    rw [Bool.eq_iff_iff]
    simp only [decide_eq_true_eq]
    omega
  | succ d ih =>
    intro i h1 h2
    have hi : i < l.length := by omega
    refine ((ih (i + 1) (by omega) (by omega)).and (spec_NameOk_eq (l[i]).f0 (hs _ (List.getElem_mem hi)))).up fun j ⟨hj, hn⟩ => ?_
    simp only [spec_BinsOk.l0]
    rw [if_pos (by omega), if_pos (by omega), binsRun_at l i hi, rdI_Bin l i hi, hn]
    simp only [Option.bind_some, l1Word_eq]
    cases isNameB (l[i]).f0 with
    | false => simp
    | true =>
      cases isWordB (l[i]).f1 with
      | false => simp
      | true =>
        simp only [if_true, Bool.true_and]
        have e1 : wrap64 ((i : Int) + 1) = ((i + 1 : Nat) : Int) := by rw [w64 (by omega) (by omega)]; omega
        by_cases h0 : i = 0
        · rw [if_neg (by omega), if_pos h0, e1, hj, Bool.true_and]
        · have e : wrap64 ((i : Int) - 1) = ((i - 1 : Nat) : Int) := by rw [w64 (by omega) (by omega)]; omega
          rw [if_pos (by omega), e, if_pos (by omega), if_pos (by omega), if_neg h0, e1, hj]
          cases Op.bytesLess (rd_T66 l ((i - 1 : Nat) : Int)).f0.toList (l[i]).f0.toList <;> simp
theorem spec_BinsOk_eq (l : List S66) (hl : l.length ≤ 9223372036854775807) (hs : ∀ x ∈ l, x.f0.size ≤ 9223372036854775807) : LG fun k => spec_BinsOk.f k l = some (binsOkB l) := by
  simpa [spec_BinsOk.f, binsOkB, binAhead] using spec_BinsOk_l0 l hl hs l.length 0 (by omega) (by omega)
end Go.Proofs.Ythelgojccmchjaa.B
namespace Go.Proofs.Ythelgojccmchjaa.B
open Go Go.RowKit Go.Proofs.YthelgojccmchjaaW.PrintWords Go.Proofs.YthelgojccmchjaaW.PrintLast Go.Proofs.YthelgojccmchjaaW.PrintMore Go.Proofs.Ythelgojccmchjaa.PX Go.Proofs.Ythelgojccmchjaa.B
theorem impl_isName_l0 (s : ByteArray) (hs : s.size ≤ 9223372036854775807) (d : Nat) : ∀ i : Nat, i ≤ s.size → s.size - i = d →
    LG fun k => impl_isName.l0 k s (s.size : Int) (i : Int) = some (nameRun (s.data.toList.drop i) && (decide (1 ≤ s.size) && decide (s.size ≤ 8))) := by
  have hl := size_len s
  induction d with
  | zero =>
    intro i h1 h2
    refine LG.step fun j => ?_
    obtain rfl : i = s.size := by omega
    simp only [impl_isName.l0]
    rw [if_neg (by omega)]
    have e : nameRun (s.data.toList.drop s.size) = true := by rw [List.drop_of_length_le (by omega)]; rfl
    rw [e, Bool.true_and]
    by_cases h : 1 ≤ s.size
    · rw [if_pos (by omega), decide_eq_true h, Bool.true_and]
      congr 1
      rw [Bool.eq_iff_iff]
      simp only [decide_eq_true_eq]
      omega
    · rw [if_neg (by omega), decide_eq_false h, Bool.false_and]
  | succ d ih =>
    intro i h1 h2
    have hi : i < s.data.toList.length := by omega
    refine (ih (i + 1) (by omega) (by omega)).up fun j hj => ?_
    simp only [impl_isName.l0]
    rw [if_pos (by omega), if_pos (by omega), if_pos (by omega), bt_get s i hi, nameRun_at _ i hi]
    by_cases ha : (97 : Nat) ≤ (s.data.toList[i]).toNat
    · rw [if_neg (by omega)]
      by_cases hb : (s.data.toList[i]).toNat ≤ 122
      · rw [if_neg (by omega), w64 (by omega) (by omega), decide_eq_true ha, decide_eq_true hb]
        simpa using hj
      · rw [if_pos (by omega), decide_eq_false hb]
        simp
    · rw [if_pos (by omega), decide_eq_false ha]
      simp
theorem impl_isName_eq (s : ByteArray) (hs : s.size ≤ 9223372036854775807) : LG fun k => impl_isName.f k s = some (isNameB s) :=
  impl_isName_l0 s hs s.size 0 (by omega) (by omega)
end Go.Proofs.Ythelgojccmchjaa.B
namespace Go.Proofs.Ythelgojccmchjaa.B
open Go Go.RowKit Go.Proofs.YthelgojccmchjaaW.PrintWords Go.Proofs.YthelgojccmchjaaW.PrintLast Go.Proofs.YthelgojccmchjaaW.PrintMore Go.Proofs.Ythelgojccmchjaa.PX Go.Proofs.Ythelgojccmchjaa.B
theorem impl_areBins_l0 (l : List S66) (hl : l.length ≤ 9223372036854775807) (hs : ∀ x ∈ l, x.f0.size ≤ 9223372036854775807) (d : Nat) : ∀ i : Nat, l.length - i = d → i ≤ l.length →
    LG fun k => impl_areBins.l0 k l l (l.length : Int) (i : Int) = some (binsRun (binAhead l i) (l.drop i) && decide (l.length ≤ 12)) := by
  induction d with
  | zero =>
    intro i h1 h2
    refine LG.step fun j => ?_
    simp only [impl_areBins.l0]
    rw [if_neg (by omega), List.drop_of_length_le (by omega)]
    simp only [binsRun, Bool.true_and]
    congr 1
    rw [Bool.eq_iff_iff]
    simp only [decide_eq_true_eq]
    omega
  | succ d ih =>
    intro i h1 h2
    have hi : i < l.length := by omega
    refine ((ih (i + 1) (by omega) (by omega)).and (impl_isName_eq (l[i]).f0 (hs _ (List.getElem_mem hi)))).up fun j ⟨hj, hn⟩ => ?_
    simp only [impl_areBins.l0]
    rw [if_pos (by omega), if_pos (by omega), if_pos (by omega), binsRun_at l i hi, rdI_Bin l i hi, hn]
    simp only [Option.bind_some, impl_isWord_eq]
    cases isNameB (l[i]).f0 with
    | false => simp
    | true =>
      cases isWordB (l[i]).f1 with
      | false => simp
      | true =>
        simp only [if_true, Bool.true_and]
        have e1 : wrap64 ((i : Int) + 1) = ((i + 1 : Nat) : Int) := by rw [w64 (by omega) (by omega)]; omega
        by_cases h0 : i = 0
        · rw [if_neg (by omega), if_pos h0, e1, hj, Bool.true_and]
        · have e : wrap64 ((i : Int) - 1) = ((i - 1 : Nat) : Int) := by rw [w64 (by omega) (by omega)]; omega
          rw [if_pos (by omega), e, if_pos (by omega), if_pos (by omega), if_neg h0, e1, hj]
          cases Op.bytesLess (rd_T66 l ((i - 1 : Nat) : Int)).f0.toList (l[i]).f0.toList <;> simp
theorem impl_areBins_eq (l : List S66) (hl : l.length ≤ 9223372036854775807) (hs : ∀ x ∈ l, x.f0.size ≤ 9223372036854775807) : LG fun k => impl_areBins.f k l = some (binsOkB l) := by
  simpa [impl_areBins.f, binsOkB, binAhead] using impl_areBins_l0 l hl hs l.length 0 (by omega) (by omega)
end Go.Proofs.Ythelgojccmchjaa.B
namespace Go.Proofs.Ythelgojccmchjaa.Pure
open Go Go.RowKit Go.Proofs.YthelgojccmchjaaW.PrintWords Go.Proofs.YthelgojccmchjaaW.PrintLast Go.Proofs.YthelgojccmchjaaW.PrintMore Go.Proofs.Ythelgojccmchjaa.PX Go.Proofs.Ythelgojccmchjaa.B
theorem FnExactBinsOk : FnExactBinsOk_Pure := by
  intro l hl
  obtain ⟨r, hr, hle⟩ := szBinS_eq l hl.1 (fun x hx => (hl.2 x hx).1)
  by_cases h0 : r < 0
  · obtain ⟨k, hk⟩ := hr.rounds
    refine ⟨k, ?_⟩
    unfold laws_FnExactBinsOk.f
    simp only [hk, Option.bind_some, if_pos h0]
  · have hlen := hle (by omega)
    have hml : (l.map toB).length ≤ 9223372036854775807 := by rw [List.length_map]; omega
    have hms : ∀ x ∈ l.map toB, x.f0.size ≤ 9223372036854775807 := by
      intro x hx
      obtain ⟨y, hy, rfl⟩ := List.mem_map.mp hx
      exact (hl.2 y hy).1
    obtain ⟨k, hk, h1, h2, h3, h4⟩ := (hr.and ((toBinS_eq l hlen).and ((spec_BinsOk_eq (l.map toB) hml hms).and ((impl_areBins_eq (l.map toB) hml hms).and (eqBinS_self (l.map toB) hml))))).rounds
    refine ⟨k, ?_⟩
    unfold laws_FnExactBinsOk.f impl_BinsOk.f
    simp only [hk, h1, h2, h3, h4, Option.bind_some, if_neg h0, if_true, bne_self_eq_false, Bool.false_eq_true, if_false]
end Go.Proofs.Ythelgojccmchjaa.Pure
