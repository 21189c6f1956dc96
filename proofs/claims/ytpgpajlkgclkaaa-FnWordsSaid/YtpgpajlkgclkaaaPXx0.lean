-- written by printx.py (this session's program) over the kit's print.py, out of the translation.
import Derived.Test.YtpgpajlkgclkaaaProg
import Derived.Below
import Derived.Deep.Draws
import Derived.Deep.AppendLies
import Derived.Maps.AppendAt
import Derived.OwnWalk
import Derived.Laws.BytesArg
import Derived.Laws.MakeOwn
import Derived.Laws.OwnMore
import Derived.Deep.OwnRows
import Derived.Tactics
import Derived.Lib.ConvBytes
import Derived.Laws.Slices
import Derived.WalkKit
import Derived.KernelRfl
import Derived.RowKit3
import Derived.Deep.LoopGhost
import Derived.Deep.QuietTactic
import Derived.BigQuiet
import Derived.WideLaws
import Derived.Deep.DeepCutAuto
import Derived.Deep.CutBlock
import Derived.Deep.RegionHeld3
import Derived.Laws.Rows
import Derived.Lib.AppendStr
import Derived.ArgAppend
import Derived.Laws.IdiomCopy
import Derived.OrdersHeld
import Derived.Laws.BitsLemmas
import Derived.RowKit
import Derived.Test.YtpgpajlkgclkaaaWWords
import Derived.Test.YtpgpajlkgclkaaaWLast
import Derived.Test.YtpgpajlkgclkaaaWTab
import Derived.Test.YtpgpajlkgclkaaaWFour
import Derived.Test.YtpgpajlkgclkaaaWQPut
import Derived.Test.YtpgpajlkgclkaaaWApart
import Derived.Test.YtpgpajlkgclkaaaWArr
import Derived.Test.YtpgpajlkgclkaaaWZeros
import Derived.Test.YtpgpajlkgclkaaaWFoot
import Derived.Test.YtpgpajlkgclkaaaWKept
import Derived.Test.YtpgpajlkgclkaaaWShare
import Derived.Test.YtpgpajlkgclkaaaWN
import Derived.Test.YtpgpajlkgclkaaaWFootNe
import Derived.Test.YtpgpajlkgclkaaaWAt
import Derived.Test.YtpgpajlkgclkaaaWEqStruct
import Derived.Test.YtpgpajlkgclkaaaWRepsOne
import Derived.Test.YtpgpajlkgclkaaaWInv
import Derived.Test.YtpgpajlkgclkaaaWInvWords
import Derived.Test.YtpgpajlkgclkaaaWGuard
import Derived.Test.YtpgpajlkgclkaaaWNEv
import Derived.Test.YtpgpajlkgclkaaaWMore
namespace Go.Proofs.Ytpgpajlkgclkaaa.PX
open Go.RowKit Go.Proofs.YtpgpajlkgclkaaaW.PrintWords Go.Proofs.YtpgpajlkgclkaaaW.PrintLast Go.Proofs.YtpgpajlkgclkaaaW.PrintMore
attribute [local go_sem] max2_int min2_int max_two min_two max_three min_three max_four min_four   -- for this text's walks alone
set_option linter.unusedVariables false
set_option linter.unusedSimpArgs false



def errW : Option Int → Value
  | none => .nilIface
  | some c => .iface 0 (.int .i64 c)
theorem errW_none : errW none = .nilIface := rfl
theorem errW_some (c : Int) : errW (some c) = .iface 0 (.int .i64 c) := rfl

theorem info2 : (Try.prog.info? 2).map (fun i => (i.zero, i.size, i.bytes)) = some (some (.int .i64 0), 1, 8) := by kernel_rfl
-- the values' own types

end Go.Proofs.Ytpgpajlkgclkaaa.PX
