import Derived.Test.YthelgojccmchjaaPXx0
import Derived.Test.YthelgojccmchjaaBnameplain
import Derived.Test.YthelgojccmchjaaBword
namespace Go.Proofs.Ythelgojccmchjaa.B
open Go Go.RowKit Go.Proofs.YthelgojccmchjaaW.PrintWords Go.Proofs.YthelgojccmchjaaW.PrintLast Go.Proofs.YthelgojccmchjaaW.PrintMore Go.Proofs.Ythelgojccmchjaa.PX Go.Proofs.Ythelgojccmchjaa.B
def noText (s : ByteArray) : Bool := s.toList == ([] : List UInt8)
def hasNameB (k : Int) : Bool := decide (k = 3) || (decide (k = 5) || decide (k = 6))
def isOpB (k n : Int) (s : ByteArray) : Bool :=
  if k = 1 then isWordB n && noText s
  else if k = 2 then (decide (0 ≤ n) && decide (n ≤ 2)) && noText s
  else if hasNameB k = true then isNameB s && (n == 0)
  else if k = 4 then (decide (1 ≤ n) && decide (n ≤ 7)) && noText s
  else if k = 7 then (decide (0 ≤ n) && decide (n ≤ 300)) && noText s
  else if k = 8 then (decide (0 ≤ n) && decide (n ≤ 300)) && noText s
  else (decide (9 ≤ k) && decide (k ≤ 11)) && ((n == 0) && noText s)
end Go.Proofs.Ythelgojccmchjaa.B
