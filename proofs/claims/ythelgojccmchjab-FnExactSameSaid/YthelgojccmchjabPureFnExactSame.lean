import Derived.Test.YthelgojccmchjabPXx0
import Derived.Test.YthelgojccmchjabPXx2
import Derived.Test.YthelgojccmchjabPXx3
import Derived.Test.YthelgojccmchjabPXx4
import Derived.Test.YthelgojccmchjabStFnExactSame
import Derived.Test.YthelgojccmchjabWMore
set_option linter.unusedVariables false
set_option linter.unusedSimpArgs false
namespace Go.Proofs.Ythelgojccmchjab.B
open Go Go.RowKit Go.Proofs.YthelgojccmchjabW.PrintWords Go.Proofs.YthelgojccmchjabW.PrintLast Go.Proofs.YthelgojccmchjabW.PrintMore Go.Proofs.Ythelgojccmchjab.PX
/-- From some number of rounds on. -/
def LG (p : Nat → Prop) : Prop := ∃ K, ∀ k, K ≤ k → p k
namespace LG
theorem all {p : Nat → Prop} (h : ∀ k, p k) : LG p := ⟨0, fun k _ => h k⟩
theorem step {p : Nat → Prop} (h : ∀ j, p (j + 1)) : LG p := ⟨1, fun k hk => by
  obtain ⟨j, rfl⟩ : ∃ j, k = j + 1 := ⟨k - 1, by omega⟩
  exact h j⟩
theorem and {p q : Nat → Prop} (h : LG p) (g : LG q) : LG fun k => p k ∧ q k := by
  obtain ⟨a, h⟩ := h
  obtain ⟨b, g⟩ := g
  exact ⟨max a b, fun k hk => ⟨h k (by omega), g k (by omega)⟩⟩
theorem mono {p q : Nat → Prop} (h : LG p) (g : ∀ k, p k → q k) : LG q := by
  obtain ⟨a, h⟩ := h
  exact ⟨a, fun k hk => g k (h k hk)⟩
/-- One round: what holds of j holds of j + 1 rounds. -/
theorem up {p q : Nat → Prop} (h : LG p) (g : ∀ j, p j → q (j + 1)) : LG q := by
  obtain ⟨a, h⟩ := h
  refine ⟨a + 1, fun k hk => ?_⟩
  obtain ⟨j, rfl⟩ : ∃ j, k = j + 1 := ⟨k - 1, by omega⟩
  exact g j (h j (by omega))
theorem rounds {p : Nat → Prop} (h : LG p) : ∃ k, p k := by
  obtain ⟨a, h⟩ := h
  exact ⟨a, h a (Nat.le_refl _)⟩
end LG
def I64 (n : Int) : Prop := -9223372036854775808 ≤ n ∧ n ≤ 9223372036854775807
theorem i64_of {n : Int} (h : (Lit.int .i64 n).wf = true) : I64 n := by
  simp only [Lit.wf, IntKind.min, IntKind.max, IntKind.signed, IntKind.bits, Bool.and_eq_true, decide_eq_true_eq, if_true] at h
  unfold I64
  omega
theorem w64 {n : Int} (h0 : -9223372036854775808 ≤ n) (h1 : n ≤ 9223372036854775807) : wrap64 n = n := by
  unfold wrap64
  omega
theorem bt_get (s : ByteArray) (i : Nat) (h : i < s.data.toList.length) : bt s (i : Int) = ((s.data.toList[i]).toNat : Int) := by
  have hs : (i : Int).toNat < s.size := by
    have : s.size = s.data.toList.length := by rw [Array.length_toList]; rfl
    omega
  unfold bt
  rw [dif_pos hs]
  rfl
theorem size_len (s : ByteArray) : s.data.toList.length = s.size := by rw [Array.length_toList]; rfl
end Go.Proofs.Ythelgojccmchjab.B
namespace Go.Proofs.Ythelgojccmchjab.B
open Go Go.RowKit Go.Proofs.YthelgojccmchjabW.PrintWords Go.Proofs.YthelgojccmchjabW.PrintLast Go.Proofs.YthelgojccmchjabW.PrintMore Go.Proofs.Ythelgojccmchjab.PX Go.Proofs.Ythelgojccmchjab.B
theorem getD_nat {α : Type} (xs : List α) (z : α) (i : Nat) (h : i < xs.length) : xs.getD (i : Int).toNat z = xs[i] := by
  rw [Int.toNat_natCast, List.getD_eq_getElem?_getD, List.getElem?_eq_getElem h]
  rfl
theorem set_take {α : Type} (xs : List α) (i : Nat) (v : α) (h : i < xs.length) : (xs.set i v).take (i + 1) = xs.take i ++ [v] := by
  rw [List.take_succ_eq_append_getElem (by simpa using h), List.take_set_of_le (Nat.le_refl i), List.getElem_set_self]
theorem take_map_succ {α β : Type} (f : α → β) (xs : List α) (i : Nat) (h : i < xs.length) : (xs.map f).take (i + 1) = (xs.map f).take i ++ [f xs[i]] := by
  rw [List.take_succ_eq_append_getElem (by simpa using h), List.getElem_map]
theorem take_all {α : Type} {xs ys : List α} {n : Nat} (hx : xs.length = n) (hy : ys.length = n) (h : xs.take n = ys.take n) : xs = ys := by
  rw [List.take_of_length_le (by omega), List.take_of_length_le (by omega)] at h
  exact h
theorem toList_eq (s : ByteArray) : s.toList = s.data.toList := by
  first | exact ByteArray.toList_eq s | simp
theorem toList_inj (s t : ByteArray) : s.toList = t.toList ↔ s = t := by
  rw [toList_eq, toList_eq]
  constructor
  · intro h
    obtain ⟨⟨l⟩⟩ := s
    obtain ⟨⟨m⟩⟩ := t
    simp at h
    rw [h]
  · rintro rfl
    rfl
end Go.Proofs.Ythelgojccmchjab.B
namespace Go.Proofs.Ythelgojccmchjab.B
open Go Go.RowKit Go.Proofs.YthelgojccmchjabW.PrintWords Go.Proofs.YthelgojccmchjabW.PrintLast Go.Proofs.YthelgojccmchjabW.PrintMore Go.Proofs.Ythelgojccmchjab.PX Go.Proofs.Ythelgojccmchjab.B
def toB (x : S38) : S34 := ⟨x.f0, x.f1⟩
theorem rdL_Bin (xs : List S38) (i : Nat) (h : i < xs.length) : rd_T38 xs (i : Int) = xs[i] := getD_nat xs _ i h
theorem rdI_Bin (xs : List S34) (i : Nat) (h : i < xs.length) : rd_T34 xs (i : Int) = xs[i] := getD_nat xs _ i h
end Go.Proofs.Ythelgojccmchjab.B
namespace Go.Proofs.Ythelgojccmchjab.B
open Go Go.RowKit Go.Proofs.YthelgojccmchjabW.PrintWords Go.Proofs.YthelgojccmchjabW.PrintLast Go.Proofs.YthelgojccmchjabW.PrintMore Go.Proofs.Ythelgojccmchjab.PX Go.Proofs.Ythelgojccmchjab.B
theorem szBin_eq (a : ByteArray) (b left : Int) (ha : a.size ≤ 9223372036854775807) (h0 : 0 ≤ left) (h1 : left ≤ 1048576) : ∃ r, laws_szBin.f a b left = some r ∧ r ≤ left ∧ (0 ≤ r → r = left - a.size) := by
  unfold laws_szBin.f
  rw [w64 (by omega) (by omega)]
  by_cases h : left - (a.size : Int) < 0
  · rw [if_pos h]
    exact ⟨-1, rfl, by omega, by omega⟩
  · rw [if_neg h]
    exact ⟨_, rfl, by omega, fun _ => rfl⟩
theorem szBinS_l0 (l : List S38) (hl : l.length ≤ 1048576) (hs : ∀ x ∈ l, x.f0.size ≤ 9223372036854775807) (d : Nat) : ∀ (i : Nat) (left : Int), l.length - i = d → i ≤ l.length → 0 ≤ left → left ≤ 1048576 →
    ∃ r, LG fun k => laws_szBinS.l0 k l left (i : Int) = some r := by
  induction d with
  | zero =>
    intro i left h1 h2 _ _
    refine ⟨left, LG.step fun j => ?_⟩
    simp only [laws_szBinS.l0]
    rw [if_neg (by omega)]
  | succ d ih =>
    intro i left h1 h2 h3 h4
    have hi : i < l.length := by omega
    obtain ⟨r, hr, hle, _⟩ := szBin_eq (l[i]).f0 (l[i]).f1 left (hs _ (List.getElem_mem hi)) h3 h4
    by_cases hn : r < 0
    · refine ⟨-1, LG.step fun j => ?_⟩
      simp only [laws_szBinS.l0]
      rw [if_pos (by omega), if_pos (by omega), rdL_Bin l i hi, hr]
      simp only [Option.bind_some]
      rw [if_pos hn]
    · obtain ⟨q, hq⟩ := ih (i + 1) r (by omega) (by omega) (by omega) (by omega)
      refine ⟨q, hq.up fun j hj => ?_⟩
      simp only [laws_szBinS.l0]
      rw [if_pos (by omega), if_pos (by omega), rdL_Bin l i hi, hr]
      simp only [Option.bind_some]
      rw [if_neg hn, w64 (by omega) (by omega)]
      simpa using hj
theorem szBinS_eq (l : List S38) (hm : l.length ≤ 9223372036854775807) (hs : ∀ x ∈ l, x.f0.size ≤ 9223372036854775807) : ∃ r, (LG fun k => laws_szBinS.f k l 1048576 = some r) ∧ (0 ≤ r → l.length ≤ 1048576) := by
  by_cases h : l.length ≤ 1048576
  · obtain ⟨r, hr⟩ := szBinS_l0 l h hs l.length 0 (1048576 - l.length) (by omega) (by omega) (by omega) (by omega)
    refine ⟨r, hr.mono fun k hk => ?_, fun _ => h⟩
    unfold laws_szBinS.f
    rw [w64 (by omega) (by omega), if_neg (by omega)]
    exact hk
  · refine ⟨-1, LG.all fun k => ?_, by omega⟩
    unfold laws_szBinS.f
    rw [w64 (by omega) (by omega), if_pos (by omega)]
theorem toBinS_l0 (l : List S38) (hl : l.length ≤ 1048576) (d : Nat) : ∀ (i : Nat) (x : List S34), l.length - i = d → i ≤ l.length → x.length = l.length → x.take i = (l.map toB).take i →
    LG fun k => laws_toBinS.l0 k l x (i : Int) = some (l.map toB) := by
  induction d with
  | zero =>
    intro i x h1 h2 h3 h4
    refine LG.step fun j => ?_
    obtain rfl : i = l.length := by omega
    simp only [laws_toBinS.l0]
    rw [if_neg (by omega), take_all h3 (by simp) h4]
  | succ d ih =>
    intro i x h1 h2 h3 h4
    have hi : i < l.length := by omega
    refine (ih (i + 1) (x.set i (toB l[i])) (by omega) (by omega) (by simpa using h3) ?_).up fun j hj => ?_
    · rw [set_take _ _ _ (by omega), take_map_succ _ _ _ hi, h4]
    · simp only [laws_toBinS.l0, laws_toBin.f]
      rw [if_pos (by omega), if_pos (by omega), rdL_Bin l i hi]
      simp only [Option.bind_some]
      rw [if_pos (by omega), w64 (by omega) (by omega)]
      simpa [toB] using hj
theorem toBinS_eq (l : List S38) (hl : l.length ≤ 1048576) : LG fun k => laws_toBinS.f k l = some (l.map toB) := by
  refine (toBinS_l0 l hl l.length 0 (List.replicate l.length z34) (by omega) (by omega) (by simp) (by simp)).mono fun k hk => ?_
  unfold laws_toBinS.f
  rw [if_pos (by omega), if_pos (by omega), Int.toNat_natCast]
  exact hk
theorem eqBinS_l0 (l : List S34) (hl : l.length ≤ 9223372036854775807) (d : Nat) : ∀ i : Nat, l.length - i = d → i ≤ l.length → LG fun k => laws_eqBinS.l0 k l l (i : Int) = some true := by
  induction d with
  | zero =>
    intro i h1 h2
    refine LG.step fun j => ?_
    simp only [laws_eqBinS.l0]
    rw [if_neg (by omega)]
  | succ d ih =>
    intro i h1 h2
    refine (ih (i + 1) (by omega) (by omega)).up fun j hj => ?_
    simp only [laws_eqBinS.l0, laws_eqBin.f]
    rw [if_pos (by omega), if_pos (by omega), if_pos (by omega)]
    simp only [Option.bind_some, if_true]
    rw [w64 (by omega) (by omega)]
    simpa using hj
theorem eqBinS_self (l : List S34) (hl : l.length ≤ 9223372036854775807) : LG fun k => laws_eqBinS.f k l l = some true := by
  refine (eqBinS_l0 l hl l.length 0 (by omega) (by omega)).mono fun k hk => ?_
  unfold laws_eqBinS.f
  rw [if_pos rfl]
  exact hk
end Go.Proofs.Ythelgojccmchjab.B
namespace Go.Proofs.Ythelgojccmchjab.B
open Go Go.RowKit Go.Proofs.YthelgojccmchjabW.PrintWords Go.Proofs.YthelgojccmchjabW.PrintLast Go.Proofs.YthelgojccmchjabW.PrintMore Go.Proofs.Ythelgojccmchjab.PX Go.Proofs.Ythelgojccmchjab.B
theorem szBinS_gl0 (l : List S38) (hl : l.length ≤ 1048576) (hs : ∀ x ∈ l, x.f0.size ≤ 9223372036854775807) (d : Nat) : ∀ (i : Nat) (left : Int), l.length - i = d → i ≤ l.length → 0 ≤ left → left ≤ 1048576 →
    ∃ r, (LG fun k => laws_szBinS.l0 k l left (i : Int) = some r) ∧ r ≤ left := by
  induction d with
  | zero =>
    intro i left h1 h2 _ _
    refine ⟨left, LG.step fun j => ?_, Int.le_refl _⟩
    simp only [laws_szBinS.l0]
    rw [if_neg (by omega)]
  | succ d ih =>
    intro i left h1 h2 h3 h4
    have hi : i < l.length := by omega
    obtain ⟨r, hr, hle, _⟩ := szBin_eq (l[i]).f0 (l[i]).f1 left (hs _ (List.getElem_mem hi)) h3 h4
    by_cases hn : r < 0
    · refine ⟨-1, LG.step fun j => ?_, by omega⟩
      simp only [laws_szBinS.l0]
      rw [if_pos (by omega), if_pos (by omega), rdL_Bin l i hi, hr]
      simp only [Option.bind_some]
      rw [if_pos hn]
    · obtain ⟨q, hq, hqr⟩ := ih (i + 1) r (by omega) (by omega) (by omega) (by omega)
      refine ⟨q, hq.up fun j hj => ?_, by omega⟩
      simp only [laws_szBinS.l0]
      rw [if_pos (by omega), if_pos (by omega), rdL_Bin l i hi, hr]
      simp only [Option.bind_some]
      rw [if_neg hn, w64 (by omega) (by omega)]
      simpa using hj
theorem szBinS_gen (l : List S38) (left : Int) (h0 : 0 ≤ left) (h1 : left ≤ 1048576) (hm : l.length ≤ 9223372036854775807) (hs : ∀ x ∈ l, x.f0.size ≤ 9223372036854775807) : ∃ r, (LG fun k => laws_szBinS.f k l left = some r) ∧ r ≤ left ∧ (0 ≤ r → l.length ≤ 1048576) := by
  by_cases h : (l.length : Int) ≤ left
  · obtain ⟨r, hr, hle⟩ := szBinS_gl0 l (by omega) hs l.length 0 (left - l.length) (by omega) (by omega) (by omega) (by omega)
    refine ⟨r, hr.mono fun k hk => ?_, by omega, fun _ => by omega⟩
    unfold laws_szBinS.f
    rw [w64 (by omega) (by omega), if_neg (by omega)]
    exact hk
  · refine ⟨-1, LG.all fun k => ?_, by omega, by omega⟩
    unfold laws_szBinS.f
    rw [w64 (by omega) (by omega), if_pos (by omega)]
end Go.Proofs.Ythelgojccmchjab.B
namespace Go.Proofs.Ythelgojccmchjab.B
open Go Go.RowKit Go.Proofs.YthelgojccmchjabW.PrintWords Go.Proofs.YthelgojccmchjabW.PrintLast Go.Proofs.YthelgojccmchjabW.PrintMore Go.Proofs.Ythelgojccmchjab.PX Go.Proofs.Ythelgojccmchjab.B
theorem szEnd_gen (c : Int) (l : List S38) (g left : Int) (h0 : 0 ≤ left) (h1 : left ≤ 1048576) (hm : l.length ≤ 9223372036854775807) (hs : ∀ x ∈ l, x.f0.size ≤ 9223372036854775807) : ∃ r, (LG fun k => laws_szEnd.f k c l g left = some r) ∧ r ≤ left ∧ (0 ≤ r → l.length ≤ 1048576) := by
  obtain ⟨r, hr, h2, h3⟩ := szBinS_gen l left h0 h1 hm hs
  by_cases hn : r < 0
  · refine ⟨-1, hr.mono fun k hk => ?_, by omega, by omega⟩
    unfold laws_szEnd.f
    simp only [hk, Option.bind_some, if_pos hn]
  · refine ⟨r, hr.mono fun k hk => ?_, h2, h3⟩
    unfold laws_szEnd.f
    simp only [hk, Option.bind_some, if_neg hn]
theorem toEnd_eq (c : Int) (l : List S38) (g : Int) (hl : l.length ≤ 1048576) : LG fun k => laws_toEnd.f k c l g = some (c, l.map toB, g) := by
  refine (toBinS_eq l hl).mono fun k hk => ?_
  unfold laws_toEnd.f
  simp only [hk, Option.bind_some]
theorem eqEnd_self (c : Int) (l : List S34) (g : Int) (hl : l.length ≤ 9223372036854775807) : LG fun k => laws_eqEnd.f k c l g c l g = some true := by
  refine (eqBinS_self l hl).mono fun k hk => ?_
  unfold laws_eqEnd.f
  simp only [hk, Option.bind_some, if_true]
theorem same_l0 (c1 g1 c2 g2 : Int) (a b : List S34) (ha : a.length ≤ 1048576) (hab : a.length = b.length) (d : Nat) : ∀ i : Nat, a.length - i = d → i ≤ a.length →
    ∃ r, (LG fun k => spec_Same.l0 k (i : Int) c1 a g1 c2 b g2 = some r) ∧ (LG fun k => slices_Equal_impl_Bin_impl_Bin.l0 k a b (a.length : Int) (i : Int) = some r) := by
  induction d with
  | zero =>
    intro i h1 h2
    refine ⟨true, LG.step fun j => ?_, LG.step fun j => ?_⟩
    · simp only [spec_Same.l0]
      rw [if_neg (by omega)]
    · simp only [slices_Equal_impl_Bin_impl_Bin.l0]
      rw [if_neg (by omega)]
  | succ d ih =>
    intro i h1 h2
    have hi : i < a.length := by omega
    have hj : i < b.length := by omega
    obtain ⟨r, g1', g2'⟩ := ih (i + 1) (by omega) (by omega)
    by_cases hne : (!((((a[i]).f0).toList) == (((b[i]).f0).toList)) || (!(((a[i]).f1) == ((b[i]).f1)))) = true
    · refine ⟨false, LG.step fun j => ?_, LG.step fun j => ?_⟩
      · simp only [spec_Same.l0]
        rw [if_pos (by omega), if_pos (by omega), if_pos (by omega), rdI_Bin a i hi, rdI_Bin b i hj, if_pos hne]
      · simp only [slices_Equal_impl_Bin_impl_Bin.l0]
        rw [if_pos (by omega), if_pos (by omega), if_pos (by omega), if_pos (by omega), rdI_Bin a i hi, rdI_Bin b i hj, if_pos hne]
    · refine ⟨r, g1'.up fun j hq => ?_, g2'.up fun j hq => ?_⟩
      · simp only [spec_Same.l0]
        rw [if_pos (by omega), if_pos (by omega), if_pos (by omega), rdI_Bin a i hi, rdI_Bin b i hj, if_neg hne, w64 (by omega) (by omega)]
        simpa using hq
      · simp only [slices_Equal_impl_Bin_impl_Bin.l0]
        rw [if_pos (by omega), if_pos (by omega), if_pos (by omega), if_pos (by omega), rdI_Bin a i hi, rdI_Bin b i hj, if_neg hne, w64 (by omega) (by omega)]
        simpa using hq
theorem Same_both (c1 g1 c2 g2 : Int) (a b : List S34) (ha : a.length ≤ 1048576) (hb : b.length ≤ 1048576) :
    ∃ r, (LG fun k => spec_Same.f k c1 a g1 c2 b g2 = some r) ∧ (LG fun k => impl_Same.f k c1 a g1 c2 b g2 = some r) := by
  have hT : LG fun k => spec_Same.j0 k true c1 a g1 c2 b g2 = some false := LG.step fun j => by simp only [spec_Same.j0, if_true]
  by_cases hc : c1 = c2
  · by_cases hl : a.length = b.length
    · obtain ⟨r, h1, h2⟩ := same_l0 c1 g1 c2 g2 a b ha hl a.length 0 (by omega) (by omega)
      have hE : LG fun k => slices_Equal_impl_Bin_impl_Bin.f k a b = some r := h2.mono fun k hk => by
        unfold slices_Equal_impl_Bin_impl_Bin.f
        rw [if_pos (by omega)]
        exact hk
      by_cases hg : g1 = g2
      · refine ⟨r, (h1.up (q := fun k => spec_Same.j0 k false c1 a g1 c2 b g2 = some r) fun j hj => ?_).mono fun k hk => ?_, hE.mono fun k hk => ?_⟩
        · simp only [spec_Same.j0, Bool.false_eq_true, if_false]
          exact hj
        · unfold spec_Same.f
          have e : ((a.length : Int) != (b.length : Int)) = false := by rw [hl]; simp
          rw [if_pos hc, if_pos hg, e]
          exact hk
        · unfold impl_Same.f
          rw [if_pos hc, hk]
          subst hg
          cases r <;> simp
      · refine ⟨false, hT.mono fun k hk => ?_, hE.mono fun k hk => ?_⟩
        · unfold spec_Same.f
          rw [if_pos hc, if_neg hg]
          exact hk
        · unfold impl_Same.f
          rw [if_pos hc, hk]
          cases r <;> simp [hg]
    · refine ⟨false, hT.mono fun k hk => ?_, LG.all fun k => ?_⟩
      · unfold spec_Same.f
        have e : ((a.length : Int) != (b.length : Int)) = true := by simp; omega
        rw [if_pos hc]
        split
        · rw [e]; exact hk
        · exact hk
      · unfold impl_Same.f slices_Equal_impl_Bin_impl_Bin.f
        rw [if_pos hc, if_neg (by omega)]
        simp
  · refine ⟨false, hT.mono fun k hk => ?_, LG.all fun k => ?_⟩
    · unfold spec_Same.f
      rw [if_neg hc]
      exact hk
    · unfold impl_Same.f
      rw [if_neg hc]
end Go.Proofs.Ythelgojccmchjab.B
namespace Go.Proofs.Ythelgojccmchjab.Pure
open Go Go.RowKit Go.Proofs.YthelgojccmchjabW.PrintWords Go.Proofs.YthelgojccmchjabW.PrintLast Go.Proofs.YthelgojccmchjabW.PrintMore Go.Proofs.Ythelgojccmchjab.PX Go.Proofs.Ythelgojccmchjab.B
theorem FnExactSame : FnExactSame_Pure := by
  intro c1 l1 g1 c2 l2 g2 _ h1 _ _ h2 _
  obtain ⟨r, hr, hrl, hl1⟩ := szEnd_gen c1 l1 g1 1048576 (by omega) (by omega) h1.1 (fun x hx => (h1.2 x hx).1)
  by_cases hn : r < 0
  · obtain ⟨k, hk⟩ := hr.rounds
    refine ⟨k, ?_⟩
    unfold laws_FnExactSame.f
    simp only [hk, Option.bind_some, if_pos hn]
  · obtain ⟨q, hq, hql, hl2⟩ := szEnd_gen c2 l2 g2 r (by omega) (by omega) h2.1 (fun x hx => (h2.2 x hx).1)
    by_cases hm : q < 0
    · obtain ⟨k, hk, hk2⟩ := (hr.and hq).rounds
      refine ⟨k, ?_⟩
      unfold laws_FnExactSame.f
      simp only [hk, hk2, Option.bind_some, if_neg hn, if_pos hm]
    · have m1 : (l1.map toB).length ≤ 1048576 := by rw [List.length_map]; exact hl1 (by omega)
      have m2 : (l2.map toB).length ≤ 1048576 := by rw [List.length_map]; exact hl2 (by omega)
      obtain ⟨s, hs1, hs2⟩ := Same_both c1 g1 c2 g2 (l1.map toB) (l2.map toB) m1 m2
      obtain ⟨k, ⟨⟨⟨⟨⟨⟨⟨e1, e2⟩, e3⟩, e4⟩, e5⟩, e6⟩, e7⟩, e8⟩⟩ := (((((((hr.and hq).and (toEnd_eq c1 l1 g1 (hl1 (by omega)))).and (toEnd_eq c2 l2 g2 (hl2 (by omega)))).and hs1).and hs2).and (eqEnd_self c1 (l1.map toB) g1 (by omega))).and (eqEnd_self c2 (l2.map toB) g2 (by omega))).rounds
      refine ⟨k, ?_⟩
      unfold laws_FnExactSame.f
      simp only [e1, e2, e3, e4, e5, e6, e7, e8, Option.bind_some, if_neg hn, if_neg hm, if_true, bne_self_eq_false, Bool.false_eq_true, if_false]
end Go.Proofs.Ythelgojccmchjab.Pure
