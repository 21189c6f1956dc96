import Derived.Test.YthelgojccmchjaaPXx0
import Derived.Test.YthelgojccmchjaaPXx5
import Derived.Test.YthelgojccmchjaaStFnExactValueIn
import Derived.Test.YthelgojccmchjaaBbinlaws
import Derived.Test.YthelgojccmchjaaBvaluein
namespace Go.Proofs.Ythelgojccmchjaa.Pure
open Go Go.RowKit Go.Proofs.YthelgojccmchjaaW.PrintWords Go.Proofs.YthelgojccmchjaaW.PrintLast Go.Proofs.YthelgojccmchjaaW.PrintMore Go.Proofs.Ythelgojccmchjaa.PX Go.Proofs.Ythelgojccmchjaa.B
theorem FnExactValueIn : FnExactValueIn_Pure := by
  intro l n hl hn
  obtain ⟨r, hr, hle⟩ := szBinS_eq l hl.1 (fun x hx => (hl.2 x hx).1)
  by_cases h0 : r < 0
  · obtain ⟨k, hk⟩ := hr.rounds
    refine ⟨k, ?_⟩
    unfold laws_FnExactValueIn.f
    simp only [hk, Option.bind_some, if_pos h0]
    split <;> rfl
  · have hlen := hle (by omega)
    have hml : (l.map toB).length ≤ 9223372036854775807 := by rw [List.length_map]; omega
    have A := (((toBinS_eq l hlen).and (eqBinS_self (l.map toB) hml)).up (q := fun k => laws_FnExactValueIn.j0 k l (l.map toB) false = some true) (fun j ⟨h1, h2⟩ => by
      simp only [laws_FnExactValueIn.j0, Bool.false_eq_true, if_false, h1, h2, Option.bind_some, if_true]))
    obtain ⟨k, hk, h1, h2, h3, h4⟩ := (hr.and ((toBinS_eq l hlen).and ((spec_ValueIn_eq (l.map toB) n hml).and ((impl_ValueIn_eq (l.map toB) n hml).and A)))).rounds
    refine ⟨k, ?_⟩
    unfold laws_FnExactValueIn.f
    simp only [hk, h1, h2, h3, Option.bind_some, if_neg h0, if_true, bne_self_eq_false]
    split
    · rfl
    · exact h4
end Go.Proofs.Ythelgojccmchjaa.Pure
