import Derived.Test.YthelgojccmchjaaPXx0
namespace Go.Proofs.Ythelgojccmchjaa.B
open Go Go.RowKit Go.Proofs.YthelgojccmchjaaW.PrintWords Go.Proofs.YthelgojccmchjaaW.PrintLast Go.Proofs.YthelgojccmchjaaW.PrintMore Go.Proofs.Ythelgojccmchjaa.PX
/-- From some number of rounds on. -/
def LG (p : Nat → Prop) : Prop := ∃ K, ∀ k, K ≤ k → p k
namespace LG
theorem all {p : Nat → Prop} (h : ∀ k, p k) : LG p := ⟨0, fun k _ => h k⟩
theorem step {p : Nat → Prop} (h : ∀ j, p (j + 1)) : LG p := ⟨1, fun k hk => by
  obtain ⟨j, rfl⟩ : ∃ j, k = j + 1 := ⟨k - 1, by omega⟩
  exact h j⟩
theorem and {p q : Nat → Prop} (h : LG p) (g : LG q) : LG fun k => p k ∧ q k := by
  obtain ⟨a, h⟩ := h
  obtain ⟨b, g⟩ := g
  exact ⟨max a b, fun k hk => ⟨h k (by omega), g k (by omega)⟩⟩
theorem mono {p q : Nat → Prop} (h : LG p) (g : ∀ k, p k → q k) : LG q := by
  obtain ⟨a, h⟩ := h
  exact ⟨a, fun k hk => g k (h k hk)⟩
/-- One round: what holds of j holds of j + 1 rounds. -/
theorem up {p q : Nat → Prop} (h : LG p) (g : ∀ j, p j → q (j + 1)) : LG q := by
  obtain ⟨a, h⟩ := h
  refine ⟨a + 1, fun k hk => ?_⟩
  obtain ⟨j, rfl⟩ : ∃ j, k = j + 1 := ⟨k - 1, by omega⟩
  exact g j (h j (by omega))
theorem rounds {p : Nat → Prop} (h : LG p) : ∃ k, p k := by
  obtain ⟨a, h⟩ := h
  exact ⟨a, h a (Nat.le_refl _)⟩
end LG
def I64 (n : Int) : Prop := -9223372036854775808 ≤ n ∧ n ≤ 9223372036854775807
theorem i64_of {n : Int} (h : (Lit.int .i64 n).wf = true) : I64 n := by
  simp only [Lit.wf, IntKind.min, IntKind.max, IntKind.signed, IntKind.bits, Bool.and_eq_true, decide_eq_true_eq, if_true] at h
  unfold I64
  omega
theorem w64 {n : Int} (h0 : -9223372036854775808 ≤ n) (h1 : n ≤ 9223372036854775807) : wrap64 n = n := by
  unfold wrap64
  omega
theorem bt_get (s : ByteArray) (i : Nat) (h : i < s.data.toList.length) : bt s (i : Int) = ((s.data.toList[i]).toNat : Int) := by
  have hs : (i : Int).toNat < s.size := by
    have : s.size = s.data.toList.length := by rw [Array.length_toList]; rfl
    omega
  unfold bt
  rw [dif_pos hs]
  rfl
theorem size_len (s : ByteArray) : s.data.toList.length = s.size := by rw [Array.length_toList]; rfl
end Go.Proofs.Ythelgojccmchjaa.B
