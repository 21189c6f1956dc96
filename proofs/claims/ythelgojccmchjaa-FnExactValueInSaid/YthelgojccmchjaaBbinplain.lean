import Derived.Test.YthelgojccmchjaaPXx0
import Derived.Test.YthelgojccmchjaaBlists
namespace Go.Proofs.Ythelgojccmchjaa.B
open Go Go.RowKit Go.Proofs.YthelgojccmchjaaW.PrintWords Go.Proofs.YthelgojccmchjaaW.PrintLast Go.Proofs.YthelgojccmchjaaW.PrintMore Go.Proofs.Ythelgojccmchjaa.PX Go.Proofs.Ythelgojccmchjaa.B
def toB (x : S65) : S66 := ⟨x.f0, x.f1⟩
theorem rdL_Bin (xs : List S65) (i : Nat) (h : i < xs.length) : rd_T65 xs (i : Int) = xs[i] := getD_nat xs _ i h
theorem rdI_Bin (xs : List S66) (i : Nat) (h : i < xs.length) : rd_T66 xs (i : Int) = xs[i] := getD_nat xs _ i h
end Go.Proofs.Ythelgojccmchjaa.B
