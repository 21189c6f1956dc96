import Derived.Test.YthelgojccmchjaaPXx0
import Derived.Test.YthelgojccmchjaaPXx3
import Derived.Test.YthelgojccmchjaaPXx4
import Derived.Test.YthelgojccmchjaaBbinplain
namespace Go.Proofs.Ythelgojccmchjaa.B
open Go Go.RowKit Go.Proofs.YthelgojccmchjaaW.PrintWords Go.Proofs.YthelgojccmchjaaW.PrintLast Go.Proofs.YthelgojccmchjaaW.PrintMore Go.Proofs.Ythelgojccmchjaa.PX Go.Proofs.Ythelgojccmchjaa.B
theorem szBin_eq (a : ByteArray) (b left : Int) (ha : a.size ≤ 9223372036854775807) (h0 : 0 ≤ left) (h1 : left ≤ 1048576) : ∃ r, laws_szBin.f a b left = some r ∧ r ≤ left ∧ (0 ≤ r → r = left - a.size) := by
  unfold laws_szBin.f
  rw [w64 (by omega) (by omega)]
  by_cases h : left - (a.size : Int) < 0
  · rw [if_pos h]
    exact ⟨-1, rfl, by omega, by omega⟩
  · rw [if_neg h]
    exact ⟨_, rfl, by omega, fun _ => rfl⟩
theorem szBinS_l0 (l : List S65) (hl : l.length ≤ 1048576) (hs : ∀ x ∈ l, x.f0.size ≤ 9223372036854775807) (d : Nat) : ∀ (i : Nat) (left : Int), l.length - i = d → i ≤ l.length → 0 ≤ left → left ≤ 1048576 →
    ∃ r, LG fun k => laws_szBinS.l0 k l left (i : Int) = some r := by
  induction d with
  | zero =>
    intro i left h1 h2 _ _
    refine ⟨left, LG.step fun j => ?_⟩
    simp only [laws_szBinS.l0]
    rw [if_neg (by omega)]
  | succ d ih =>
    intro i left h1 h2 h3 h4
    have hi : i < l.length := by omega
    obtain ⟨r, hr, hle, _⟩ := szBin_eq (l[i]).f0 (l[i]).f1 left (hs _ (List.getElem_mem hi)) h3 h4
    by_cases hn : r < 0
    · refine ⟨-1, LG.step fun j => ?_⟩
      simp only [laws_szBinS.l0]
      rw [if_pos (by omega), if_pos (by omega), rdL_Bin l i hi, hr]
      simp only [Option.bind_some]
      rw [if_pos hn]
    · obtain ⟨q, hq⟩ := ih (i + 1) r (by omega) (by omega) (by omega) (by omega)
      refine ⟨q, hq.up fun j hj => ?_⟩
      simp only [laws_szBinS.l0]
      rw [if_pos (by omega), if_pos (by omega), rdL_Bin l i hi, hr]
      simp only [Option.bind_some]
      rw [if_neg hn, w64 (by omega) (by omega)]
      simpa using hj
theorem szBinS_eq (l : List S65) (hm : l.length ≤ 9223372036854775807) (hs : ∀ x ∈ l, x.f0.size ≤ 9223372036854775807) : ∃ r, (LG fun k => laws_szBinS.f k l 1048576 = some r) ∧ (0 ≤ r → l.length ≤ 1048576) := by
  by_cases h : l.length ≤ 1048576
  · obtain ⟨r, hr⟩ := szBinS_l0 l h hs l.length 0 (1048576 - l.length) (by omega) (by omega) (by omega) (by omega)
    refine ⟨r, hr.mono fun k hk => ?_, fun _ => h⟩
    unfold laws_szBinS.f
    rw [w64 (by omega) (by omega), if_neg (by omega)]
    exact hk
  · refine ⟨-1, LG.all fun k => ?_, by omega⟩
    unfold laws_szBinS.f
    rw [w64 (by omega) (by omega), if_pos (by omega)]
theorem toBinS_l0 (l : List S65) (hl : l.length ≤ 1048576) (d : Nat) : ∀ (i : Nat) (x : List S66), l.length - i = d → i ≤ l.length → x.length = l.length → x.take i = (l.map toB).take i →
    LG fun k => laws_toBinS.l0 k l x (i : Int) = some (l.map toB) := by
  induction d with
  | zero =>
    intro i x h1 h2 h3 h4
    refine LG.step fun j => ?_
    obtain rfl : i = l.length := by omega
    simp only [laws_toBinS.l0]
    rw [if_neg (by omega), take_all h3 (by simp) h4]
  | succ d ih =>
    intro i x h1 h2 h3 h4
    have hi : i < l.length := by omega
    refine (ih (i + 1) (x.set i (toB l[i])) (by omega) (by omega) (by simpa using h3) ?_).up fun j hj => ?_
    · rw [set_take _ _ _ (by omega), take_map_succ _ _ _ hi, h4]
    · simp only [laws_toBinS.l0, laws_toBin.f]
      rw [if_pos (by omega), if_pos (by omega), rdL_Bin l i hi]
      simp only [Option.bind_some]
      rw [if_pos (by omega), w64 (by omega) (by omega)]
      simpa [toB] using hj
theorem toBinS_eq (l : List S65) (hl : l.length ≤ 1048576) : LG fun k => laws_toBinS.f k l = some (l.map toB) := by
  refine (toBinS_l0 l hl l.length 0 (List.replicate l.length z66) (by omega) (by omega) (by simp) (by simp)).mono fun k hk => ?_
  unfold laws_toBinS.f
  rw [if_pos (by omega), if_pos (by omega), Int.toNat_natCast]
  exact hk
theorem eqBinS_l0 (l : List S66) (hl : l.length ≤ 9223372036854775807) (d : Nat) : ∀ i : Nat, l.length - i = d → i ≤ l.length → LG fun k => laws_eqBinS.l0 k l l (i : Int) = some true := by
  induction d with
  | zero =>
    intro i h1 h2
    refine LG.step fun j => ?_
    simp only [laws_eqBinS.l0]
    rw [if_neg (by omega)]
  | succ d ih =>
    intro i h1 h2
    refine (ih (i + 1) (by omega) (by omega)).up fun j hj => ?_
    simp only [laws_eqBinS.l0, laws_eqBin.f]
    rw [if_pos (by omega), if_pos (by omega), if_pos (by omega)]
    simp only [Option.bind_some, if_true]
    rw [w64 (by omega) (by omega)]
    simpa using hj
theorem eqBinS_self (l : List S66) (hl : l.length ≤ 9223372036854775807) : LG fun k => laws_eqBinS.f k l l = some true := by
  refine (eqBinS_l0 l hl l.length 0 (by omega) (by omega)).mono fun k hk => ?_
  unfold laws_eqBinS.f
  rw [if_pos rfl]
  exact hk
end Go.Proofs.Ythelgojccmchjaa.B
