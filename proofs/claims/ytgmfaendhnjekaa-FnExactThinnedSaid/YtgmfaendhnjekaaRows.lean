/-
  No cell of these rows narrows 'for every input' (looked for: loops, veiled, ifaces, maps, wideKeys, modest, calm, conditions, laid).
  DERIVED. THE GIVEN ROWS OF THIS SEAT. 12 by the template 'for every input the law returns true; each argument reads behind the call as it read before'; 0 by the template 'total and deterministic' (their statements: YtgmfaendhnjekaaTotals.lean).
  GIVEN WITH THE SEED: the statements are not yours to turn. If you find one false, say at which input.
  Laid BY PROGRAM, IN A SANDBOX (cutbox-rows.mjs): the forced cells as the released guide's own fill.sh prints them over the translation 7803a2cf4bda2195… (all of the seat's roots in one cut). By AI agents, Wed Nov 11 2026. No macro, syntax, notation, axiom, sorry.
-/
import Derived.Test.YtgmfaendhnjekaaChecked
import GoSem.Claim
import GoSem.ClaimJoined
import GoSem.ClaimMapViews
import Derived.JoinedTies
import Derived.KernelRfl
namespace Go.Proofs.Ytgmfaendhnjekaa
/- THE CELL 'sum', in the pinned program and in every row, IS THE sha256 OF THE DUMP (.gsa) THAT YtgmfaendhnjekaaProg.lean LOADS. Nothing in Lean hashes anything: it is a label: what it is worth is what the hold of that sum in a sandbox is worth. -/
noncomputable def Try.pinned : Pinned := { name := "ytgmfaendhnjekaa", sum := "7803a2cf4bda219560c4f43783cf0d22c0efa3757dd08fc4135f7f21128b66d2", checked := Try.checked }
namespace Rows
def none {H : Type} : Left H := { results := [], args := [] }

/-- 'laws.FnExactCellsOk': WHATEVER THE INPUT: true; the input reads as it did. -/
def fnExactCellsOkSpec : ChangeSpec := { name := "fnExactCellsOk", fn := fun _ => fun
  | [d] => { results := [.lit (.bool true)], args := [d] }
  | _ => none }
def fnExactCellsOkRow : OpenClaim := { program := "ytgmfaendhnjekaa", sum := "7803a2cf4bda219560c4f43783cf0d22c0efa3757dd08fc4135f7f21128b66d2", func := "loop.example/g00526/laws.FnExactCellsOk", spec := "fnExactCellsOk", inPlace := ["internal/bytealg.abigen_runtime_cmpstring"], apart := false }
def FnExactCellsOkSaid : Prop := fnExactCellsOkRow.holds Try.pinned (OpenSpec.ofChange fnExactCellsOkSpec)

/-- ITS FALSE NEIGHBOUR: 'it returns false'. Refute it at one input. -/
def fnExactCellsOkWrong : ChangeSpec := { name := "fnExactCellsOk", fn := fun _ => fun
  | [d] => { results := [.lit (.bool false)], args := [d] }
  | _ => none }
def FnExactCellsOkWrongFalsely : Prop := fnExactCellsOkRow.holds Try.pinned (OpenSpec.ofChange fnExactCellsOkWrong)

/-- 'laws.FnExactFind': WHATEVER THE INPUT: true; the input reads as it did. -/
def fnExactFindSpec : ChangeSpec := { name := "fnExactFind", fn := fun _ => fun
  | [d1, d2, d3, d4] => { results := [.lit (.bool true)], args := [d1, d2, d3, d4] }
  | _ => none }
def fnExactFindRow : OpenClaim := { program := "ytgmfaendhnjekaa", sum := "7803a2cf4bda219560c4f43783cf0d22c0efa3757dd08fc4135f7f21128b66d2", func := "loop.example/g00526/laws.FnExactFind", spec := "fnExactFind", inPlace := ["internal/bytealg.abigen_runtime_cmpstring"], unfollowed := true, recurses := true, apart := false }
def FnExactFindSaid : Prop := fnExactFindRow.holds Try.pinned (OpenSpec.ofChange fnExactFindSpec)

/-- ITS FALSE NEIGHBOUR: 'it returns false'. Refute it at one input. -/
def fnExactFindWrong : ChangeSpec := { name := "fnExactFind", fn := fun _ => fun
  | [d1, d2, d3, d4] => { results := [.lit (.bool false)], args := [d1, d2, d3, d4] }
  | _ => none }
def FnExactFindWrongFalsely : Prop := fnExactFindRow.holds Try.pinned (OpenSpec.ofChange fnExactFindWrong)

/-- 'laws.FnExactBarnOk': WHATEVER THE INPUT: true; the input reads as it did. -/
def fnExactBarnOkSpec : ChangeSpec := { name := "fnExactBarnOk", fn := fun _ => fun
  | [d] => { results := [.lit (.bool true)], args := [d] }
  | _ => none }
def fnExactBarnOkRow : OpenClaim := { program := "ytgmfaendhnjekaa", sum := "7803a2cf4bda219560c4f43783cf0d22c0efa3757dd08fc4135f7f21128b66d2", func := "loop.example/g00526/laws.FnExactBarnOk", spec := "fnExactBarnOk", inPlace := ["internal/bytealg.abigen_runtime_cmpstring"], unfollowed := true, recurses := true, apart := false }
def FnExactBarnOkSaid : Prop := fnExactBarnOkRow.holds Try.pinned (OpenSpec.ofChange fnExactBarnOkSpec)

/-- ITS FALSE NEIGHBOUR: 'it returns false'. Refute it at one input. -/
def fnExactBarnOkWrong : ChangeSpec := { name := "fnExactBarnOk", fn := fun _ => fun
  | [d] => { results := [.lit (.bool false)], args := [d] }
  | _ => none }
def FnExactBarnOkWrongFalsely : Prop := fnExactBarnOkRow.holds Try.pinned (OpenSpec.ofChange fnExactBarnOkWrong)

/-- 'laws.FnExactPutCell': WHATEVER THE INPUT: true; the input reads as it did. -/
def fnExactPutCellSpec : ChangeSpec := { name := "fnExactPutCell", fn := fun _ => fun
  | [d1, d2] => { results := [.lit (.bool true)], args := [d1, d2] }
  | _ => none }
def fnExactPutCellRow : OpenClaim := { program := "ytgmfaendhnjekaa", sum := "7803a2cf4bda219560c4f43783cf0d22c0efa3757dd08fc4135f7f21128b66d2", func := "loop.example/g00526/laws.FnExactPutCell", spec := "fnExactPutCell", inPlace := ["internal/bytealg.abigen_runtime_cmpstring", "slices.overlaps[loop.example/g00526/impl.Cell]"], unfollowed := true, recurses := true, apart := false }
def FnExactPutCellSaid : Prop := fnExactPutCellRow.holds Try.pinned (OpenSpec.ofChange fnExactPutCellSpec)

/-- ITS FALSE NEIGHBOUR: 'it returns false'. Refute it at one input. -/
def fnExactPutCellWrong : ChangeSpec := { name := "fnExactPutCell", fn := fun _ => fun
  | [d1, d2] => { results := [.lit (.bool false)], args := [d1, d2] }
  | _ => none }
def FnExactPutCellWrongFalsely : Prop := fnExactPutCellRow.holds Try.pinned (OpenSpec.ofChange fnExactPutCellWrong)

/-- 'laws.FnExactMerged': WHATEVER THE INPUT: true; the input reads as it did. -/
def fnExactMergedSpec : ChangeSpec := { name := "fnExactMerged", fn := fun _ => fun
  | [d1, d2] => { results := [.lit (.bool true)], args := [d1, d2] }
  | _ => none }
def fnExactMergedRow : OpenClaim := { program := "ytgmfaendhnjekaa", sum := "7803a2cf4bda219560c4f43783cf0d22c0efa3757dd08fc4135f7f21128b66d2", func := "loop.example/g00526/laws.FnExactMerged", spec := "fnExactMerged", inPlace := ["internal/bytealg.abigen_runtime_cmpstring"], unfollowed := true, recurses := true, apart := false }
def FnExactMergedSaid : Prop := fnExactMergedRow.holds Try.pinned (OpenSpec.ofChange fnExactMergedSpec)

/-- ITS FALSE NEIGHBOUR: 'it returns false'. Refute it at one input. -/
def fnExactMergedWrong : ChangeSpec := { name := "fnExactMerged", fn := fun _ => fun
  | [d1, d2] => { results := [.lit (.bool false)], args := [d1, d2] }
  | _ => none }
def FnExactMergedWrongFalsely : Prop := fnExactMergedRow.holds Try.pinned (OpenSpec.ofChange fnExactMergedWrong)

/-- 'laws.FnExactFindBarn': WHATEVER THE INPUT: true; the input reads as it did. -/
def fnExactFindBarnSpec : ChangeSpec := { name := "fnExactFindBarn", fn := fun _ => fun
  | [d1, d2, d3, d4] => { results := [.lit (.bool true)], args := [d1, d2, d3, d4] }
  | _ => none }
def fnExactFindBarnRow : OpenClaim := { program := "ytgmfaendhnjekaa", sum := "7803a2cf4bda219560c4f43783cf0d22c0efa3757dd08fc4135f7f21128b66d2", func := "loop.example/g00526/laws.FnExactFindBarn", spec := "fnExactFindBarn", inPlace := ["internal/bytealg.abigen_runtime_cmpstring"], unfollowed := true, recurses := true, apart := false }
def FnExactFindBarnSaid : Prop := fnExactFindBarnRow.holds Try.pinned (OpenSpec.ofChange fnExactFindBarnSpec)

/-- ITS FALSE NEIGHBOUR: 'it returns false'. Refute it at one input. -/
def fnExactFindBarnWrong : ChangeSpec := { name := "fnExactFindBarn", fn := fun _ => fun
  | [d1, d2, d3, d4] => { results := [.lit (.bool false)], args := [d1, d2, d3, d4] }
  | _ => none }
def FnExactFindBarnWrongFalsely : Prop := fnExactFindBarnRow.holds Try.pinned (OpenSpec.ofChange fnExactFindBarnWrong)

/-- 'laws.FnExactPutBarn': WHATEVER THE INPUT: true; the input reads as it did. -/
def fnExactPutBarnSpec : ChangeSpec := { name := "fnExactPutBarn", fn := fun _ => fun
  | [d1, d2] => { results := [.lit (.bool true)], args := [d1, d2] }
  | _ => none }
def fnExactPutBarnRow : OpenClaim := { program := "ytgmfaendhnjekaa", sum := "7803a2cf4bda219560c4f43783cf0d22c0efa3757dd08fc4135f7f21128b66d2", func := "loop.example/g00526/laws.FnExactPutBarn", spec := "fnExactPutBarn", inPlace := ["internal/bytealg.abigen_runtime_cmpstring", "slices.overlaps[loop.example/g00526/impl.Cell]"], unfollowed := true, recurses := true, apart := false }
def FnExactPutBarnSaid : Prop := fnExactPutBarnRow.holds Try.pinned (OpenSpec.ofChange fnExactPutBarnSpec)

/-- ITS FALSE NEIGHBOUR: 'it returns false'. Refute it at one input. -/
def fnExactPutBarnWrong : ChangeSpec := { name := "fnExactPutBarn", fn := fun _ => fun
  | [d1, d2] => { results := [.lit (.bool false)], args := [d1, d2] }
  | _ => none }
def FnExactPutBarnWrongFalsely : Prop := fnExactPutBarnRow.holds Try.pinned (OpenSpec.ofChange fnExactPutBarnWrong)

/-- 'laws.FnExactAllCells': WHATEVER THE INPUT: true; the input reads as it did. -/
def fnExactAllCellsSpec : ChangeSpec := { name := "fnExactAllCells", fn := fun _ => fun
  | [d] => { results := [.lit (.bool true)], args := [d] }
  | _ => none }
def fnExactAllCellsRow : OpenClaim := { program := "ytgmfaendhnjekaa", sum := "7803a2cf4bda219560c4f43783cf0d22c0efa3757dd08fc4135f7f21128b66d2", func := "loop.example/g00526/laws.FnExactAllCells", spec := "fnExactAllCells", inPlace := ["internal/bytealg.abigen_runtime_cmpstring"], unfollowed := true, recurses := true, apart := false }
def FnExactAllCellsSaid : Prop := fnExactAllCellsRow.holds Try.pinned (OpenSpec.ofChange fnExactAllCellsSpec)

/-- ITS FALSE NEIGHBOUR: 'it returns false'. Refute it at one input. -/
def fnExactAllCellsWrong : ChangeSpec := { name := "fnExactAllCells", fn := fun _ => fun
  | [d] => { results := [.lit (.bool false)], args := [d] }
  | _ => none }
def FnExactAllCellsWrongFalsely : Prop := fnExactAllCellsRow.holds Try.pinned (OpenSpec.ofChange fnExactAllCellsWrong)

/-- 'laws.FnExactBinsOf': WHATEVER THE INPUT: true; the input reads as it did. -/
def fnExactBinsOfSpec : ChangeSpec := { name := "fnExactBinsOf", fn := fun _ => fun
  | [d1, d2, d3] => { results := [.lit (.bool true)], args := [d1, d2, d3] }
  | _ => none }
def fnExactBinsOfRow : OpenClaim := { program := "ytgmfaendhnjekaa", sum := "7803a2cf4bda219560c4f43783cf0d22c0efa3757dd08fc4135f7f21128b66d2", func := "loop.example/g00526/laws.FnExactBinsOf", spec := "fnExactBinsOf", inPlace := ["internal/bytealg.abigen_runtime_cmpstring"], unfollowed := true, recurses := true, apart := false }
def FnExactBinsOfSaid : Prop := fnExactBinsOfRow.holds Try.pinned (OpenSpec.ofChange fnExactBinsOfSpec)

/-- ITS FALSE NEIGHBOUR: 'it returns false'. Refute it at one input. -/
def fnExactBinsOfWrong : ChangeSpec := { name := "fnExactBinsOf", fn := fun _ => fun
  | [d1, d2, d3] => { results := [.lit (.bool false)], args := [d1, d2, d3] }
  | _ => none }
def FnExactBinsOfWrongFalsely : Prop := fnExactBinsOfRow.holds Try.pinned (OpenSpec.ofChange fnExactBinsOfWrong)

/-- 'laws.FnExactThinned': WHATEVER THE INPUT: true; the input reads as it did. -/
def fnExactThinnedSpec : ChangeSpec := { name := "fnExactThinned", fn := fun _ => fun
  | [d1, d2, d3] => { results := [.lit (.bool true)], args := [d1, d2, d3] }
  | _ => none }
def fnExactThinnedRow : OpenClaim := { program := "ytgmfaendhnjekaa", sum := "7803a2cf4bda219560c4f43783cf0d22c0efa3757dd08fc4135f7f21128b66d2", func := "loop.example/g00526/laws.FnExactThinned", spec := "fnExactThinned", inPlace := ["internal/bytealg.abigen_runtime_cmpstring"], apart := false }
def FnExactThinnedSaid : Prop := fnExactThinnedRow.holds Try.pinned (OpenSpec.ofChange fnExactThinnedSpec)

/-- ITS FALSE NEIGHBOUR: 'it returns false'. Refute it at one input. -/
def fnExactThinnedWrong : ChangeSpec := { name := "fnExactThinned", fn := fun _ => fun
  | [d1, d2, d3] => { results := [.lit (.bool false)], args := [d1, d2, d3] }
  | _ => none }
def FnExactThinnedWrongFalsely : Prop := fnExactThinnedRow.holds Try.pinned (OpenSpec.ofChange fnExactThinnedWrong)

/-- 'laws.FnExactCutBin': WHATEVER THE INPUT: true; the input reads as it did. -/
def fnExactCutBinSpec : ChangeSpec := { name := "fnExactCutBin", fn := fun _ => fun
  | [d1, d2] => { results := [.lit (.bool true)], args := [d1, d2] }
  | _ => none }
def fnExactCutBinRow : OpenClaim := { program := "ytgmfaendhnjekaa", sum := "7803a2cf4bda219560c4f43783cf0d22c0efa3757dd08fc4135f7f21128b66d2", func := "loop.example/g00526/laws.FnExactCutBin", spec := "fnExactCutBin", unfollowed := true, recurses := true, apart := false }
def FnExactCutBinSaid : Prop := fnExactCutBinRow.holds Try.pinned (OpenSpec.ofChange fnExactCutBinSpec)

/-- ITS FALSE NEIGHBOUR: 'it returns false'. Refute it at one input. -/
def fnExactCutBinWrong : ChangeSpec := { name := "fnExactCutBin", fn := fun _ => fun
  | [d1, d2] => { results := [.lit (.bool false)], args := [d1, d2] }
  | _ => none }
def FnExactCutBinWrongFalsely : Prop := fnExactCutBinRow.holds Try.pinned (OpenSpec.ofChange fnExactCutBinWrong)

/-- 'laws.FnExactSetBin': WHATEVER THE INPUT: true; the input reads as it did. -/
def fnExactSetBinSpec : ChangeSpec := { name := "fnExactSetBin", fn := fun _ => fun
  | [d1, d2, d3] => { results := [.lit (.bool true)], args := [d1, d2, d3] }
  | _ => none }
def fnExactSetBinRow : OpenClaim := { program := "ytgmfaendhnjekaa", sum := "7803a2cf4bda219560c4f43783cf0d22c0efa3757dd08fc4135f7f21128b66d2", func := "loop.example/g00526/laws.FnExactSetBin", spec := "fnExactSetBin", inPlace := ["internal/bytealg.abigen_runtime_cmpstring", "slices.overlaps[loop.example/g00526/impl.Bin]"], unfollowed := true, recurses := true, apart := false }
def FnExactSetBinSaid : Prop := fnExactSetBinRow.holds Try.pinned (OpenSpec.ofChange fnExactSetBinSpec)

/-- ITS FALSE NEIGHBOUR: 'it returns false'. Refute it at one input. -/
def fnExactSetBinWrong : ChangeSpec := { name := "fnExactSetBin", fn := fun _ => fun
  | [d1, d2, d3] => { results := [.lit (.bool false)], args := [d1, d2, d3] }
  | _ => none }
def FnExactSetBinWrongFalsely : Prop := fnExactSetBinRow.holds Try.pinned (OpenSpec.ofChange fnExactSetBinWrong)

/- THE SECOND FORM. 'bulk': how many values and letters a reading holds, each counted each time it is reached (what is shared counts as often as it is met; a slice's spare places count too). A statement '..UptoSaid' is the law's where the arguments, and the package variables that the reading takes, are together of bulk at most 1048576: NARROWER than '..Said'. Prove '..Said' where nothing that the law and all that it calls make is longer than what came in: it says more and counts as full. Else prove '..UptoSaid'. A law counts once. -/
mutual
def uptoBulk {H : Type} : DataW H → Nat
  | .lit (.string bytes) => bytes.length + 1
  | .lit _ => 1
  | .nil => 1
  | .ptr d => uptoBulk d + 1
  | .slice elems spare => uptoBulkAll elems + uptoBulkAll spare + 1
  | .agg parts => uptoBulkAll parts + 1
  | .iface _ d => uptoBulk d + 1
  | .map entries => uptoBulkEntries entries + 1
  | .held _ => 1
def uptoBulkAll {H : Type} : List (DataW H) → Nat
  | [] => 0
  | d :: r => uptoBulk d + uptoBulkAll r
def uptoBulkEntries {H : Type} : List (Lit × DataW H) → Nat
  | [] => 0
  | x :: r => uptoBulkEntry x + uptoBulkEntries r
def uptoBulkEntry {H : Type} : Lit × DataW H → Nat
  | (.string bytes, d) => bytes.length + uptoBulk d + 1
  | (_, d) => uptoBulk d + 1
 end
def uptoSmall : (H : Type) → List (DataW H) → Bool := fun _ ds => decide (uptoBulkAll ds ≤ 1048576)
def OpenSpec.upto (s : _root_.Go.ChangeSpec) : _root_.Go.OpenSpec := { _root_.Go.OpenSpec.ofChange s with cond := some uptoSmall }

/-- 'laws.FnExactCellsOk', WHERE WHAT IT READS IS OF BULK AT MOST 1048576: true; the input reads as it did. -/
def fnExactCellsOkUptoRow : OpenClaim := { program := "ytgmfaendhnjekaa", sum := "7803a2cf4bda219560c4f43783cf0d22c0efa3757dd08fc4135f7f21128b66d2", func := "loop.example/g00526/laws.FnExactCellsOk", spec := "fnExactCellsOk", inPlace := ["internal/bytealg.abigen_runtime_cmpstring"], apart := false, narrowed := true }
def FnExactCellsOkUptoSaid : Prop := fnExactCellsOkUptoRow.holds Try.pinned (OpenSpec.upto fnExactCellsOkSpec)

/-- 'laws.FnExactFind', WHERE WHAT IT READS IS OF BULK AT MOST 1048576: true; the input reads as it did. -/
def fnExactFindUptoRow : OpenClaim := { program := "ytgmfaendhnjekaa", sum := "7803a2cf4bda219560c4f43783cf0d22c0efa3757dd08fc4135f7f21128b66d2", func := "loop.example/g00526/laws.FnExactFind", spec := "fnExactFind", inPlace := ["internal/bytealg.abigen_runtime_cmpstring"], unfollowed := true, recurses := true, apart := false, narrowed := true }
def FnExactFindUptoSaid : Prop := fnExactFindUptoRow.holds Try.pinned (OpenSpec.upto fnExactFindSpec)

/-- 'laws.FnExactBarnOk', WHERE WHAT IT READS IS OF BULK AT MOST 1048576: true; the input reads as it did. -/
def fnExactBarnOkUptoRow : OpenClaim := { program := "ytgmfaendhnjekaa", sum := "7803a2cf4bda219560c4f43783cf0d22c0efa3757dd08fc4135f7f21128b66d2", func := "loop.example/g00526/laws.FnExactBarnOk", spec := "fnExactBarnOk", inPlace := ["internal/bytealg.abigen_runtime_cmpstring"], unfollowed := true, recurses := true, apart := false, narrowed := true }
def FnExactBarnOkUptoSaid : Prop := fnExactBarnOkUptoRow.holds Try.pinned (OpenSpec.upto fnExactBarnOkSpec)

/-- 'laws.FnExactPutCell', WHERE WHAT IT READS IS OF BULK AT MOST 1048576: true; the input reads as it did. -/
def fnExactPutCellUptoRow : OpenClaim := { program := "ytgmfaendhnjekaa", sum := "7803a2cf4bda219560c4f43783cf0d22c0efa3757dd08fc4135f7f21128b66d2", func := "loop.example/g00526/laws.FnExactPutCell", spec := "fnExactPutCell", inPlace := ["internal/bytealg.abigen_runtime_cmpstring", "slices.overlaps[loop.example/g00526/impl.Cell]"], unfollowed := true, recurses := true, apart := false, narrowed := true }
def FnExactPutCellUptoSaid : Prop := fnExactPutCellUptoRow.holds Try.pinned (OpenSpec.upto fnExactPutCellSpec)

/-- 'laws.FnExactMerged', WHERE WHAT IT READS IS OF BULK AT MOST 1048576: true; the input reads as it did. -/
def fnExactMergedUptoRow : OpenClaim := { program := "ytgmfaendhnjekaa", sum := "7803a2cf4bda219560c4f43783cf0d22c0efa3757dd08fc4135f7f21128b66d2", func := "loop.example/g00526/laws.FnExactMerged", spec := "fnExactMerged", inPlace := ["internal/bytealg.abigen_runtime_cmpstring"], unfollowed := true, recurses := true, apart := false, narrowed := true }
def FnExactMergedUptoSaid : Prop := fnExactMergedUptoRow.holds Try.pinned (OpenSpec.upto fnExactMergedSpec)

/-- 'laws.FnExactFindBarn', WHERE WHAT IT READS IS OF BULK AT MOST 1048576: true; the input reads as it did. -/
def fnExactFindBarnUptoRow : OpenClaim := { program := "ytgmfaendhnjekaa", sum := "7803a2cf4bda219560c4f43783cf0d22c0efa3757dd08fc4135f7f21128b66d2", func := "loop.example/g00526/laws.FnExactFindBarn", spec := "fnExactFindBarn", inPlace := ["internal/bytealg.abigen_runtime_cmpstring"], unfollowed := true, recurses := true, apart := false, narrowed := true }
def FnExactFindBarnUptoSaid : Prop := fnExactFindBarnUptoRow.holds Try.pinned (OpenSpec.upto fnExactFindBarnSpec)

/-- 'laws.FnExactPutBarn', WHERE WHAT IT READS IS OF BULK AT MOST 1048576: true; the input reads as it did. -/
def fnExactPutBarnUptoRow : OpenClaim := { program := "ytgmfaendhnjekaa", sum := "7803a2cf4bda219560c4f43783cf0d22c0efa3757dd08fc4135f7f21128b66d2", func := "loop.example/g00526/laws.FnExactPutBarn", spec := "fnExactPutBarn", inPlace := ["internal/bytealg.abigen_runtime_cmpstring", "slices.overlaps[loop.example/g00526/impl.Cell]"], unfollowed := true, recurses := true, apart := false, narrowed := true }
def FnExactPutBarnUptoSaid : Prop := fnExactPutBarnUptoRow.holds Try.pinned (OpenSpec.upto fnExactPutBarnSpec)

/-- 'laws.FnExactAllCells', WHERE WHAT IT READS IS OF BULK AT MOST 1048576: true; the input reads as it did. -/
def fnExactAllCellsUptoRow : OpenClaim := { program := "ytgmfaendhnjekaa", sum := "7803a2cf4bda219560c4f43783cf0d22c0efa3757dd08fc4135f7f21128b66d2", func := "loop.example/g00526/laws.FnExactAllCells", spec := "fnExactAllCells", inPlace := ["internal/bytealg.abigen_runtime_cmpstring"], unfollowed := true, recurses := true, apart := false, narrowed := true }
def FnExactAllCellsUptoSaid : Prop := fnExactAllCellsUptoRow.holds Try.pinned (OpenSpec.upto fnExactAllCellsSpec)

/-- 'laws.FnExactBinsOf', WHERE WHAT IT READS IS OF BULK AT MOST 1048576: true; the input reads as it did. -/
def fnExactBinsOfUptoRow : OpenClaim := { program := "ytgmfaendhnjekaa", sum := "7803a2cf4bda219560c4f43783cf0d22c0efa3757dd08fc4135f7f21128b66d2", func := "loop.example/g00526/laws.FnExactBinsOf", spec := "fnExactBinsOf", inPlace := ["internal/bytealg.abigen_runtime_cmpstring"], unfollowed := true, recurses := true, apart := false, narrowed := true }
def FnExactBinsOfUptoSaid : Prop := fnExactBinsOfUptoRow.holds Try.pinned (OpenSpec.upto fnExactBinsOfSpec)

/-- 'laws.FnExactThinned', WHERE WHAT IT READS IS OF BULK AT MOST 1048576: true; the input reads as it did. -/
def fnExactThinnedUptoRow : OpenClaim := { program := "ytgmfaendhnjekaa", sum := "7803a2cf4bda219560c4f43783cf0d22c0efa3757dd08fc4135f7f21128b66d2", func := "loop.example/g00526/laws.FnExactThinned", spec := "fnExactThinned", inPlace := ["internal/bytealg.abigen_runtime_cmpstring"], apart := false, narrowed := true }
def FnExactThinnedUptoSaid : Prop := fnExactThinnedUptoRow.holds Try.pinned (OpenSpec.upto fnExactThinnedSpec)

/-- 'laws.FnExactCutBin', WHERE WHAT IT READS IS OF BULK AT MOST 1048576: true; the input reads as it did. -/
def fnExactCutBinUptoRow : OpenClaim := { program := "ytgmfaendhnjekaa", sum := "7803a2cf4bda219560c4f43783cf0d22c0efa3757dd08fc4135f7f21128b66d2", func := "loop.example/g00526/laws.FnExactCutBin", spec := "fnExactCutBin", unfollowed := true, recurses := true, apart := false, narrowed := true }
def FnExactCutBinUptoSaid : Prop := fnExactCutBinUptoRow.holds Try.pinned (OpenSpec.upto fnExactCutBinSpec)

/-- 'laws.FnExactSetBin', WHERE WHAT IT READS IS OF BULK AT MOST 1048576: true; the input reads as it did. -/
def fnExactSetBinUptoRow : OpenClaim := { program := "ytgmfaendhnjekaa", sum := "7803a2cf4bda219560c4f43783cf0d22c0efa3757dd08fc4135f7f21128b66d2", func := "loop.example/g00526/laws.FnExactSetBin", spec := "fnExactSetBin", inPlace := ["internal/bytealg.abigen_runtime_cmpstring", "slices.overlaps[loop.example/g00526/impl.Bin]"], unfollowed := true, recurses := true, apart := false, narrowed := true }
def FnExactSetBinUptoSaid : Prop := fnExactSetBinUptoRow.holds Try.pinned (OpenSpec.upto fnExactSetBinSpec)

end Rows
end Go.Proofs.Ytgmfaendhnjekaa
