/-
  DERIVED. GIVEN WITH THE SEED: THE CARDS: each row of YtmgcmclcphfogaaDoorRows.lean that lists a variable, with what it lists TIED to the program's text (the seventh form; the later family's looks); each row that meets fmt, with fmt's text TOLD by the authors' own Lean function (tested against real Go, not proved from fmt's source: count such statements apart). THE CARD IS WHAT COUNTS. Prove the row's statement (the work); the ties are given (YtmgcmclcphfogaaDoorTie.lean); close each card by the builder's one call (the guide's Derived/Test/ToyasCard.lean, 'card_holds'). Laid BY PROGRAM, IN A SANDBOX (cutbox-door.mjs). By AI agents, Wed Nov 11 2026. No macro, syntax, notation, axiom, sorry.
-/
import Derived.Test.YtmgcmclcphfogaaDoorRows
import GoSem.ClaimSeven
namespace Go.Proofs.YtmgcmclcphfogaaDoor
namespace Rows

/-- THE TIED CARD OF 'laws.FnExactKeyText'. -/
def fnExactKeyTextCard : Claim7 := { stood := { row := fnExactKeyTextRow, standIns := [], harness := (true, "4330248566579a0b23861dd66051e4ff235e85ae72fd2a5becb5bfa3fe13bb50"), looks := true }, kinds := [], alts := [], laidByText := true, laidKinds := [.data, .data, .data], laidTests := true, laidLooks := .later }
def FnExactKeyTextCardSaid : Prop := Claim7.holds Tryd.pinned (.plain (OpenSpec.ofChange fnExactKeyTextSpec)) fnExactKeyTextCard

/-- THE TIED CARD OF 'laws.FnExactShowCell'. -/
def fnExactShowCellCard : Claim7 := { stood := { row := fnExactShowCellRow, standIns := [], harness := (true, "4330248566579a0b23861dd66051e4ff235e85ae72fd2a5becb5bfa3fe13bb50"), looks := true }, kinds := [], alts := [], laidByText := true, laidKinds := [.data, .data, .data], laidTests := true, laidLooks := .later }
def FnExactShowCellCardSaid : Prop := Claim7.holds Tryd.pinned (.plain (OpenSpec.ofChange fnExactShowCellSpec)) fnExactShowCellCard

/-- THE TIED CARD OF 'laws.FnExactShowOp'. -/
def fnExactShowOpCard : Claim7 := { stood := { row := fnExactShowOpRow, standIns := [], harness := (true, "4330248566579a0b23861dd66051e4ff235e85ae72fd2a5becb5bfa3fe13bb50"), looks := true }, kinds := [], alts := [], laidByText := true, laidKinds := [.data, .data, .data, .widerDeep], laidTests := true, laidLooks := .later }
def FnExactShowOpCardSaid : Prop := Claim7.holds Tryd.pinned (.plain (OpenSpec.ofChange fnExactShowOpSpec)) fnExactShowOpCard

/-- THE TIED CARD OF 'laws.FnExactFramed'. -/
def fnExactFramedCard : Claim7 := { stood := { row := fnExactFramedRow, standIns := [], harness := (true, "4330248566579a0b23861dd66051e4ff235e85ae72fd2a5becb5bfa3fe13bb50"), looks := true }, kinds := [], alts := [], laidByText := true, laidKinds := [.data, .data, .data], laidTests := true, laidLooks := .later }
def FnExactFramedCardSaid : Prop := Claim7.holds Tryd.pinned (.plain (OpenSpec.ofChange fnExactFramedSpec)) fnExactFramedCard

/-- THE TIED CARD OF 'laws.FnExactReadWord'. -/
def fnExactReadWordCard : Claim7 := { stood := { row := fnExactReadWordRow, standIns := [], harness := (true, "4330248566579a0b23861dd66051e4ff235e85ae72fd2a5becb5bfa3fe13bb50"), looks := true }, kinds := [], alts := [], laidByText := true, laidKinds := [.data, .data, .data, .sentinel, .sentinel], laidTests := true, laidLooks := .later }
def FnExactReadWordCardSaid : Prop := Claim7.holds Tryd.pinned (.plain (OpenSpec.ofChange fnExactReadWordSpec)) fnExactReadWordCard

/-- THE TIED CARD OF 'laws.FnExactAppended'. -/
def fnExactAppendedCard : Claim7 := { stood := { row := fnExactAppendedRow, standIns := [], harness := (true, "4330248566579a0b23861dd66051e4ff235e85ae72fd2a5becb5bfa3fe13bb50"), looks := true }, kinds := [], alts := [], laidByText := true, laidKinds := [.data, .data, .data, .data, .pinned], laidTests := true, laidLooks := .later }
def FnExactAppendedCardSaid : Prop := Claim7.holds Tryd.pinned (.plain (OpenSpec.ofChange fnExactAppendedSpec)) fnExactAppendedCard

/-- THE TIED CARD OF 'laws.FnExactFramesIn'. -/
def fnExactFramesInCard : Claim7 := { stood := { row := fnExactFramesInRow, standIns := [], harness := (true, "4330248566579a0b23861dd66051e4ff235e85ae72fd2a5becb5bfa3fe13bb50"), looks := true }, kinds := [], alts := [], laidByText := true, laidKinds := [.data, .data, .data, .data, .pinned], laidTests := true, laidLooks := .later }
def FnExactFramesInCardSaid : Prop := Claim7.holds Tryd.pinned (.plain (OpenSpec.ofChange fnExactFramesInSpec)) fnExactFramesInCard

/-- THE TIED CARD OF 'laws.FnExactShelfText'. -/
def fnExactShelfTextCard : Claim7 := { stood := { row := fnExactShelfTextRow, standIns := [], harness := (true, "4330248566579a0b23861dd66051e4ff235e85ae72fd2a5becb5bfa3fe13bb50"), looks := true }, kinds := [], alts := [], laidByText := true, laidKinds := [.data, .data, .data], laidTests := true, laidLooks := .later }
def FnExactShelfTextCardSaid : Prop := Claim7.holds Tryd.pinned (.plain (OpenSpec.ofChange fnExactShelfTextSpec)) fnExactShelfTextCard

/-- THE TIED CARD OF 'laws.FnExactReadOp'. -/
def fnExactReadOpCard : Claim7 := { stood := { row := fnExactReadOpRow, standIns := [], harness := (true, "4330248566579a0b23861dd66051e4ff235e85ae72fd2a5becb5bfa3fe13bb50"), looks := true }, kinds := [], alts := [], laidByText := true, laidKinds := [.data, .data, .data, .sentinel, .sentinel, .widerDeep], laidTests := true, laidLooks := .later }
def FnExactReadOpCardSaid : Prop := Claim7.holds Tryd.pinned (.plain (OpenSpec.ofChange fnExactReadOpSpec)) fnExactReadOpCard

/-- THE TIED CARD OF 'laws.FnExactReadCell'. -/
def fnExactReadCellCard : Claim7 := { stood := { row := fnExactReadCellRow, standIns := [], harness := (true, "4330248566579a0b23861dd66051e4ff235e85ae72fd2a5becb5bfa3fe13bb50"), looks := true }, kinds := [], alts := [], laidByText := true, laidKinds := [.data, .data, .data, .data, .sentinel, .sentinel, .pinned], laidTests := true, laidLooks := .later }
def FnExactReadCellCardSaid : Prop := Claim7.holds Tryd.pinned (.plain (OpenSpec.ofChange fnExactReadCellSpec)) fnExactReadCellCard

/-- THE TIED CARD OF 'laws.FnExactKeyOf'. -/
def fnExactKeyOfCard : Claim7 := { stood := { row := fnExactKeyOfRow, standIns := [], harness := (true, "4330248566579a0b23861dd66051e4ff235e85ae72fd2a5becb5bfa3fe13bb50"), looks := true }, kinds := [], alts := [], laidByText := true, laidKinds := [.data, .data, .data, .data, .sentinel, .sentinel, .pinned], laidTests := true, laidLooks := .later }
def FnExactKeyOfCardSaid : Prop := Claim7.holds Tryd.pinned (.plain (OpenSpec.ofChange fnExactKeyOfSpec)) fnExactKeyOfCard

/-- THE TIED CARD OF 'laws.FnExactShelfOf'. -/
def fnExactShelfOfCard : Claim7 := { stood := { row := fnExactShelfOfRow, standIns := [], harness := (true, "4330248566579a0b23861dd66051e4ff235e85ae72fd2a5becb5bfa3fe13bb50"), looks := true }, kinds := [], alts := [], laidByText := true, laidKinds := [.data, .data, .data, .data, .sentinel, .sentinel, .pinned], laidTests := true, laidLooks := .later }
def FnExactShelfOfCardSaid : Prop := Claim7.holds Tryd.pinned (.plain (OpenSpec.ofChange fnExactShelfOfSpec)) fnExactShelfOfCard

/-- THE SECOND FORM's CARD OF 'laws.FnExactKeyText'. -/
def fnExactKeyTextUptoCard : Claim7 := { stood := { row := fnExactKeyTextUptoRow, standIns := [], harness := (true, "4330248566579a0b23861dd66051e4ff235e85ae72fd2a5becb5bfa3fe13bb50"), looks := true }, kinds := [], alts := [], laidByText := true, laidKinds := [.data, .data, .data], laidTests := true, laidLooks := .later }
def FnExactKeyTextUptoCardSaid : Prop := Claim7.holds Tryd.pinned (.plain (OpenSpec.upto fnExactKeyTextSpec)) fnExactKeyTextUptoCard

/-- THE SECOND FORM's CARD OF 'laws.FnExactShowCell'. -/
def fnExactShowCellUptoCard : Claim7 := { stood := { row := fnExactShowCellUptoRow, standIns := [], harness := (true, "4330248566579a0b23861dd66051e4ff235e85ae72fd2a5becb5bfa3fe13bb50"), looks := true }, kinds := [], alts := [], laidByText := true, laidKinds := [.data, .data, .data], laidTests := true, laidLooks := .later }
def FnExactShowCellUptoCardSaid : Prop := Claim7.holds Tryd.pinned (.plain (OpenSpec.upto fnExactShowCellSpec)) fnExactShowCellUptoCard

/-- THE SECOND FORM's CARD OF 'laws.FnExactShowOp'. -/
def fnExactShowOpUptoCard : Claim7 := { stood := { row := fnExactShowOpUptoRow, standIns := [], harness := (true, "4330248566579a0b23861dd66051e4ff235e85ae72fd2a5becb5bfa3fe13bb50"), looks := true }, kinds := [], alts := [], laidByText := true, laidKinds := [.data, .data, .data, .widerDeep], laidTests := true, laidLooks := .later }
def FnExactShowOpUptoCardSaid : Prop := Claim7.holds Tryd.pinned (.plain (OpenSpec.upto fnExactShowOpSpec)) fnExactShowOpUptoCard

/-- THE SECOND FORM's CARD OF 'laws.FnExactFramed'. -/
def fnExactFramedUptoCard : Claim7 := { stood := { row := fnExactFramedUptoRow, standIns := [], harness := (true, "4330248566579a0b23861dd66051e4ff235e85ae72fd2a5becb5bfa3fe13bb50"), looks := true }, kinds := [], alts := [], laidByText := true, laidKinds := [.data, .data, .data], laidTests := true, laidLooks := .later }
def FnExactFramedUptoCardSaid : Prop := Claim7.holds Tryd.pinned (.plain (OpenSpec.upto fnExactFramedSpec)) fnExactFramedUptoCard

/-- THE SECOND FORM's CARD OF 'laws.FnExactReadWord'. -/
def fnExactReadWordUptoCard : Claim7 := { stood := { row := fnExactReadWordUptoRow, standIns := [], harness := (true, "4330248566579a0b23861dd66051e4ff235e85ae72fd2a5becb5bfa3fe13bb50"), looks := true }, kinds := [], alts := [], laidByText := true, laidKinds := [.data, .data, .data, .sentinel, .sentinel], laidTests := true, laidLooks := .later }
def FnExactReadWordUptoCardSaid : Prop := Claim7.holds Tryd.pinned (.plain (OpenSpec.upto fnExactReadWordSpec)) fnExactReadWordUptoCard

/-- THE SECOND FORM's CARD OF 'laws.FnExactAppended'. -/
def fnExactAppendedUptoCard : Claim7 := { stood := { row := fnExactAppendedUptoRow, standIns := [], harness := (true, "4330248566579a0b23861dd66051e4ff235e85ae72fd2a5becb5bfa3fe13bb50"), looks := true }, kinds := [], alts := [], laidByText := true, laidKinds := [.data, .data, .data, .data, .pinned], laidTests := true, laidLooks := .later }
def FnExactAppendedUptoCardSaid : Prop := Claim7.holds Tryd.pinned (.plain (OpenSpec.upto fnExactAppendedSpec)) fnExactAppendedUptoCard

/-- THE SECOND FORM's CARD OF 'laws.FnExactFramesIn'. -/
def fnExactFramesInUptoCard : Claim7 := { stood := { row := fnExactFramesInUptoRow, standIns := [], harness := (true, "4330248566579a0b23861dd66051e4ff235e85ae72fd2a5becb5bfa3fe13bb50"), looks := true }, kinds := [], alts := [], laidByText := true, laidKinds := [.data, .data, .data, .data, .pinned], laidTests := true, laidLooks := .later }
def FnExactFramesInUptoCardSaid : Prop := Claim7.holds Tryd.pinned (.plain (OpenSpec.upto fnExactFramesInSpec)) fnExactFramesInUptoCard

/-- THE SECOND FORM's CARD OF 'laws.FnExactShelfText'. -/
def fnExactShelfTextUptoCard : Claim7 := { stood := { row := fnExactShelfTextUptoRow, standIns := [], harness := (true, "4330248566579a0b23861dd66051e4ff235e85ae72fd2a5becb5bfa3fe13bb50"), looks := true }, kinds := [], alts := [], laidByText := true, laidKinds := [.data, .data, .data], laidTests := true, laidLooks := .later }
def FnExactShelfTextUptoCardSaid : Prop := Claim7.holds Tryd.pinned (.plain (OpenSpec.upto fnExactShelfTextSpec)) fnExactShelfTextUptoCard

/-- THE SECOND FORM's CARD OF 'laws.FnExactReadOp'. -/
def fnExactReadOpUptoCard : Claim7 := { stood := { row := fnExactReadOpUptoRow, standIns := [], harness := (true, "4330248566579a0b23861dd66051e4ff235e85ae72fd2a5becb5bfa3fe13bb50"), looks := true }, kinds := [], alts := [], laidByText := true, laidKinds := [.data, .data, .data, .sentinel, .sentinel, .widerDeep], laidTests := true, laidLooks := .later }
def FnExactReadOpUptoCardSaid : Prop := Claim7.holds Tryd.pinned (.plain (OpenSpec.upto fnExactReadOpSpec)) fnExactReadOpUptoCard

/-- THE SECOND FORM's CARD OF 'laws.FnExactReadCell'. -/
def fnExactReadCellUptoCard : Claim7 := { stood := { row := fnExactReadCellUptoRow, standIns := [], harness := (true, "4330248566579a0b23861dd66051e4ff235e85ae72fd2a5becb5bfa3fe13bb50"), looks := true }, kinds := [], alts := [], laidByText := true, laidKinds := [.data, .data, .data, .data, .sentinel, .sentinel, .pinned], laidTests := true, laidLooks := .later }
def FnExactReadCellUptoCardSaid : Prop := Claim7.holds Tryd.pinned (.plain (OpenSpec.upto fnExactReadCellSpec)) fnExactReadCellUptoCard

/-- THE SECOND FORM's CARD OF 'laws.FnExactKeyOf'. -/
def fnExactKeyOfUptoCard : Claim7 := { stood := { row := fnExactKeyOfUptoRow, standIns := [], harness := (true, "4330248566579a0b23861dd66051e4ff235e85ae72fd2a5becb5bfa3fe13bb50"), looks := true }, kinds := [], alts := [], laidByText := true, laidKinds := [.data, .data, .data, .data, .sentinel, .sentinel, .pinned], laidTests := true, laidLooks := .later }
def FnExactKeyOfUptoCardSaid : Prop := Claim7.holds Tryd.pinned (.plain (OpenSpec.upto fnExactKeyOfSpec)) fnExactKeyOfUptoCard

/-- THE SECOND FORM's CARD OF 'laws.FnExactShelfOf'. -/
def fnExactShelfOfUptoCard : Claim7 := { stood := { row := fnExactShelfOfUptoRow, standIns := [], harness := (true, "4330248566579a0b23861dd66051e4ff235e85ae72fd2a5becb5bfa3fe13bb50"), looks := true }, kinds := [], alts := [], laidByText := true, laidKinds := [.data, .data, .data, .data, .sentinel, .sentinel, .pinned], laidTests := true, laidLooks := .later }
def FnExactShelfOfUptoCardSaid : Prop := Claim7.holds Tryd.pinned (.plain (OpenSpec.upto fnExactShelfOfSpec)) fnExactShelfOfUptoCard
end Rows
end Go.Proofs.YtmgcmclcphfogaaDoor
