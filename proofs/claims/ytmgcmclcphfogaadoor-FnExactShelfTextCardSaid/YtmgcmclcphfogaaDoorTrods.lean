/- Words of this session: what an argument that came in (read as data) is, as a value of a kind. No program in it. -/
import Derived.Test.YtmgcmclcphfogaaDoorWWords
import Derived.Deep.Slices
import Derived.Deep.Strs
import Derived.ChangeArms
import Derived.ChangeSame
import Derived.WideShapes
import Derived.DataReads
namespace Go.Proofs.YtmgcmclcphfogaaDoor.Trods
open Go Go.RowKit Go.Deep Go.ChangeShapes Go.WideShapes Go.Proofs.YtmgcmclcphfogaaDoorW.PrintWords
set_option linter.unusedVariables false
/-- What reads at type t is a value of kind d, of which ok is told. -/
def Tells {H : Type} (enc : TypeId × Value → H) (P : Program) (W : World) (t : TypeId) {α : Type} (d : Kd α) (ok : α → Prop) : Prop :=
  ∀ (fuel : Nat) (cs : List Value) (x : DataW H × List MemPlace), DataW.trod enc P W 0 (fun _ => true) true fuel t cs = some x → ∃ y, d.K W y cs ∧ ok y
section
variable {H : Type} {enc : TypeId × Value → H} {P : Program} {W : World} {t e : TypeId}
theorem tells_int {k : IntKind} (ht : P.underlying t = some (.int k)) : Tells enc P W t (Kd.int k) (fun n => (Lit.int k n).wf = true) := by
  intro fuel cs x h
  obtain ⟨n, rfl, _, hw⟩ := DataW.trod_int ht h
  exact ⟨n, rfl, hw⟩
theorem tells_bool (ht : P.underlying t = some .bool) : Tells enc P W t Kd.bool (fun _ => True) := by
  intro fuel cs x h
  obtain ⟨b, rfl, _⟩ := DataW.trod_bool ht h
  exact ⟨b, rfl, trivial⟩
theorem tells_string (ht : P.underlying t = some .string) : Tells enc P W t Kd.string (fun s => s.size ≤ 9223372036854775807) := by
  intro fuel cs x h
  obtain ⟨s, rfl, _, hw⟩ := DataW.trod_string ht h
  exact ⟨s, rfl, hw⟩
theorem list_of {α : Type} {n : Nat} {p : Nat → α → Prop} (h : ∀ i, i < n → ∃ x, p i x) : ∃ l : List α, l.length = n ∧ ∀ i x, l[i]? = some x → p i x := by
  induction n with
  | zero => exact ⟨[], rfl, fun i x hx => by simp at hx⟩
  | succ n ih =>
    obtain ⟨l, hl, hp⟩ := ih (fun i hi => h i (by omega))
    obtain ⟨y, hy⟩ := h n (by omega)
    refine ⟨l ++ [y], by simp [hl], fun i x hx => ?_⟩
    by_cases hi : i < n
    · rw [List.getElem?_append_left (by omega)] at hx
      exact hp i x hx
    · have hlt : i < (l ++ [y]).length := (List.getElem?_eq_some_iff.mp hx).1
      simp [hl] at hlt
      obtain rfl : i = n := by omega
      rw [List.getElem?_append_right (by omega)] at hx
      simp [hl] at hx
      subst hx
      exact hy
theorem tells_slice {e' : Nat} {α : Type} {d : Kd α} {ok : α → Prop} (ht : P.underlying t = some (.slice e)) (hc : P.cellsOf e = d.sz) (he : Tells enc P W e d ok) :
    Tells enc P W t (Kd.slice e' d) (fun xs => xs.length ≤ 9223372036854775807 ∧ ∀ x ∈ xs, ok x) := by
  intro fuel cs x h
  rcases open_slice ht h with ⟨rfl, _⟩ | ⟨a, len, cap, m, n, D, Pl, rfl, _, hl, hm, hmm, _, hx⟩
  · exact ⟨[], ⟨none, 0, rfl, Nat.le_refl _, rfl, by simp, fun h => absurd h (by simp)⟩, by simp, by simp⟩
  · have hlm : len ≤ m := by rw [hmm]; simp; exact hl
    unfold maxLen at hm
    obtain ⟨l, hll, hp⟩ := list_of (n := len) (p := fun i y => ∃ c, c.length = d.sz ∧ d.K W y c ∧ (∀ j u, c[j]? = some u → W.cell? (a.add (i * d.sz + j)) = some u) ∧ ok y) (fun i hi => by
      obtain ⟨c, h1, h2⟩ := hx i (by omega)
      obtain ⟨y, hK, ho⟩ := he n c _ h2
      obtain ⟨_, hlen, hcell⟩ := World.cells?_some h1
      rw [hc] at hlen hcell
      refine ⟨y, c, hlen, hK, fun j u hu => ?_, ho⟩
      have hj : j < c.length := (List.getElem?_eq_some_iff.mp hu).1
      have := hcell j (by omega)
      rw [Addr.add_add] at this
      rw [this, hu])
    refine ⟨l, ⟨some a, cap, by rw [hll], by omega, rfl, by omega, fun _ => ⟨a, rfl, fun j p hj => ?_⟩⟩, by omega, fun y hy => ?_⟩
    · obtain ⟨c, h1, h2, h3, _⟩ := hp j p hj
      exact ⟨c, h1, h2, h3⟩
    · obtain ⟨i, hi⟩ := List.getElem?_of_mem hy
      obtain ⟨c, _, _, _, ho⟩ := hp i y hi
      exact ho
theorem tells_struct2 {f0 f1 : Field} {α β : Type} {d0 : Kd α} {d1 : Kd β} {ok0 : α → Prop} {ok1 : β → Prop} (hs : P.underlying t = some (.struct #[f0, f1])) (o0 : f0.offset = 0) (n0 : P.cellsOf f0.type = d0.sz) (o1 : f1.offset = d0.sz) (n1 : P.cellsOf f1.type = d1.sz) (hC : P.cellsOf t = d0.sz + d1.sz)
    (h0 : Tells enc P W f0.type d0 ok0) (h1 : Tells enc P W f1.type d1 ok1) : Tells enc P W t (Kd.pair d0 d1) (fun x => ok0 x.1 ∧ ok1 x.2) := by
  intro fuel cs x h
  obtain ⟨y0, y1, n, _, hl, g0, g1⟩ := trod_struct2 hs h
  obtain ⟨z0, k0, w0⟩ := h0 _ _ _ g0
  obtain ⟨z1, k1, w1⟩ := h1 _ _ _ g1
  refine ⟨(z0, z1), ⟨_, _, ?_, k0, k1⟩, w0, w1⟩
  rw [o0, o1, n0, n1, List.drop_zero]
  rw [List.take_of_length_le (l := cs.drop d0.sz) (by simp; omega), List.take_append_drop]
theorem tells_struct3 {f0 f1 f2 : Field} {α β γ : Type} {d0 : Kd α} {d1 : Kd β} {d2 : Kd γ} {ok0 : α → Prop} {ok1 : β → Prop} {ok2 : γ → Prop} (hs : P.underlying t = some (.struct #[f0, f1, f2])) (o0 : f0.offset = 0) (n0 : P.cellsOf f0.type = d0.sz) (o1 : f1.offset = d0.sz) (n1 : P.cellsOf f1.type = d1.sz) (o2 : f2.offset = d0.sz + d1.sz) (n2 : P.cellsOf f2.type = d2.sz) (hC : P.cellsOf t = d0.sz + (d1.sz + d2.sz))
    (h0 : Tells enc P W f0.type d0 ok0) (h1 : Tells enc P W f1.type d1 ok1) (h2 : Tells enc P W f2.type d2 ok2) : Tells enc P W t (Kd.pair d0 (Kd.pair d1 d2)) (fun x => ok0 x.1 ∧ ok1 x.2.1 ∧ ok2 x.2.2) := by
  intro fuel cs x h
  obtain ⟨y0, y1, y2, n, _, hl, g0, g1, g2⟩ := trod_struct3 hs h
  obtain ⟨z0, k0, w0⟩ := h0 _ _ _ g0
  obtain ⟨z1, k1, w1⟩ := h1 _ _ _ g1
  obtain ⟨z2, k2, w2⟩ := h2 _ _ _ g2
  refine ⟨(z0, z1, z2), ⟨_, _, ?_, k0, _, _, rfl, k1, k2⟩, w0, w1, w2⟩
  rw [o0, o1, o2, n0, n1, n2, List.drop_zero]
  rw [List.take_of_length_le (l := cs.drop (d0.sz + d1.sz)) (by simp; omega), ← List.drop_drop, List.take_append_drop, List.take_append_drop]
theorem tells_iso {α β : Type} {d : Kd α} {f : β → α} {g : α → β} {ok : α → Prop} {ok' : β → Prop} (hg : ∀ a, f (g a) = a) (h : Tells enc P W t d ok) (hok : ∀ a, ok a → ok' (g a)) : Tells enc P W t (Kd.iso d f) ok' := by
  intro fuel cs x hx
  obtain ⟨y, hK, ho⟩ := h _ _ _ hx
  exact ⟨g y, by show d.K W (f (g y)) cs; rw [hg]; exact hK, hok y ho⟩
/-- A slice that came in. -/
theorem tells_row {e' : Nat} {α : Type} {d : Kd α} {ok : List α → Prop} {A : Option Addr} {len cap : Nat} {x : DataW H} {ps : List MemPlace} (h : Tells enc P W t (Kd.slice e' d) ok) (hd : DataW.Trod enc P W 0 (fun _ => true) true t (.slice A len cap) x ps) :
    ∃ xs : List α, xs.length = len ∧ xs.length ≤ cap ∧ Kd.C d W A xs.length xs ∧ ok xs := by
  obtain ⟨fuel, hf⟩ := hd
  obtain ⟨xs, ⟨A', c', he, hl, hc⟩, ho⟩ := h _ _ _ hf
  simp [Value.cells] at he
  obtain ⟨rfl, rfl, rfl⟩ := he
  exact ⟨xs, rfl, hl, hc, ho⟩
/-- A struct that came in by value. -/
theorem tells_agg {α : Type} {d : Kd α} {ok : α → Prop} {cs : Array Value} {x : DataW H} {ps : List MemPlace} (h : Tells enc P W t d ok) (hd : DataW.Trod enc P W 0 (fun _ => true) true t (.agg cs) x ps) : ∃ y, d.K W y cs.toList ∧ ok y := by
  obtain ⟨fuel, hf⟩ := hd
  exact h _ _ _ hf
end
end Go.Proofs.YtmgcmclcphfogaaDoor.Trods
