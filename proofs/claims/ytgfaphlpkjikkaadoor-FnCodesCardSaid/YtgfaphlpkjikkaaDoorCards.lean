/-
  DERIVED. GIVEN WITH THE SEED: THE CARDS: each row of YtgfaphlpkjikkaaDoorRows.lean that lists a variable, with what it lists TIED to the program's text (the seventh form; the later family's looks); each row that meets fmt, with fmt's text TOLD by the authors' own Lean function (tested against real Go, not proved from fmt's source: count such statements apart). THE CARD IS WHAT COUNTS. Prove the row's statement (the work); the ties are given (YtgfaphlpkjikkaaDoorTie.lean); close each card by the builder's one call (the guide's Derived/Test/ToyasCard.lean, 'card_holds'). Laid BY PROGRAM, IN A SANDBOX (cutbox-door.mjs). By AI agents, Wed Nov 11 2026. No macro, syntax, notation, axiom, sorry.
-/
import Derived.Test.YtgfaphlpkjikkaaDoorRows
import GoSem.ClaimSeven
namespace Go.Proofs.YtgfaphlpkjikkaaDoor
namespace Rows

/-- THE TIED CARD OF 'laws.FnExactIndent'. -/
def fnExactIndentCard : Claim7 := { stood := { row := fnExactIndentRow, standIns := [], harness := (true, "28ca76327ae5c99ad1391ce07655eb12dc7db72c1b7608e32114c0271da8a8b9"), looks := true }, kinds := [], alts := [], laidByText := true, laidKinds := [.data, .pinned], laidTests := true, laidLooks := .later }
def FnExactIndentCardSaid : Prop := Claim7.holds Tryd.pinned (.plain (OpenSpec.ofChange fnExactIndentSpec)) fnExactIndentCard

/-- THE TIED CARD OF 'laws.FnExactDecText'. -/
def fnExactDecTextCard : Claim7 := { stood := { row := fnExactDecTextRow, standIns := [], harness := (true, "28ca76327ae5c99ad1391ce07655eb12dc7db72c1b7608e32114c0271da8a8b9"), looks := true }, kinds := [], alts := [], laidByText := true, laidKinds := [.data, .data, .data], laidTests := true, laidLooks := .later }
def FnExactDecTextCardSaid : Prop := Claim7.holds Tryd.pinned (.plain (OpenSpec.ofChange fnExactDecTextSpec)) fnExactDecTextCard

/-- THE TIED CARD OF 'laws.FnExactWords'. -/
def fnExactWordsCard : Claim7 := { stood := { row := fnExactWordsRow, standIns := [], harness := (true, "28ca76327ae5c99ad1391ce07655eb12dc7db72c1b7608e32114c0271da8a8b9"), looks := true }, kinds := [], alts := [], laidByText := true, laidKinds := [.data, .pinned], laidTests := true, laidLooks := .later }
def FnExactWordsCardSaid : Prop := Claim7.holds Tryd.pinned (.plain (OpenSpec.ofChange fnExactWordsSpec)) fnExactWordsCard

/-- THE TIED CARD OF 'laws.FnExactLines'. -/
def fnExactLinesCard : Claim7 := { stood := { row := fnExactLinesRow, standIns := [], harness := (true, "28ca76327ae5c99ad1391ce07655eb12dc7db72c1b7608e32114c0271da8a8b9"), looks := true }, kinds := [], alts := [], laidByText := true, laidKinds := [.data, .pinned], laidTests := true, laidLooks := .later }
def FnExactLinesCardSaid : Prop := Claim7.holds Tryd.pinned (.plain (OpenSpec.ofChange fnExactLinesSpec)) fnExactLinesCard

/-- THE TIED CARD OF 'laws.FnExactGetBase64'. -/
def fnExactGetBase64Card : Claim7 := { stood := { row := fnExactGetBase64Row, standIns := [], harness := (true, "28ca76327ae5c99ad1391ce07655eb12dc7db72c1b7608e32114c0271da8a8b9"), looks := true }, kinds := [], alts := [], laidByText := true, laidKinds := [.data, .pinned], laidTests := true, laidLooks := .later }
def FnExactGetBase64CardSaid : Prop := Claim7.holds Tryd.pinned (.plain (OpenSpec.ofChange fnExactGetBase64Spec)) fnExactGetBase64Card

/-- THE TIED CARD OF 'laws.FnExactPutPercent'. -/
def fnExactPutPercentCard : Claim7 := { stood := { row := fnExactPutPercentRow, standIns := [], harness := (true, "28ca76327ae5c99ad1391ce07655eb12dc7db72c1b7608e32114c0271da8a8b9"), looks := true }, kinds := [], alts := [], laidByText := true, laidKinds := [.data, .pinned, .pinned], laidTests := true, laidLooks := .later }
def FnExactPutPercentCardSaid : Prop := Claim7.holds Tryd.pinned (.plain (OpenSpec.ofChange fnExactPutPercentSpec)) fnExactPutPercentCard

/-- THE TIED CARD OF 'laws.FnExactGetPercent'. -/
def fnExactGetPercentCard : Claim7 := { stood := { row := fnExactGetPercentRow, standIns := [], harness := (true, "28ca76327ae5c99ad1391ce07655eb12dc7db72c1b7608e32114c0271da8a8b9"), looks := true }, kinds := [], alts := [], laidByText := true, laidKinds := [.data, .pinned, .pinned], laidTests := true, laidLooks := .later }
def FnExactGetPercentCardSaid : Prop := Claim7.holds Tryd.pinned (.plain (OpenSpec.ofChange fnExactGetPercentSpec)) fnExactGetPercentCard

/-- THE TIED CARD OF 'laws.FnExactReadDec'. -/
def fnExactReadDecCard : Claim7 := { stood := { row := fnExactReadDecRow, standIns := [], harness := (true, "28ca76327ae5c99ad1391ce07655eb12dc7db72c1b7608e32114c0271da8a8b9"), looks := true }, kinds := [], alts := [], laidByText := true, laidKinds := [.data, .data, .data, .sentinel, .sentinel], laidTests := true, laidLooks := .later }
def FnExactReadDecCardSaid : Prop := Claim7.holds Tryd.pinned (.plain (OpenSpec.ofChange fnExactReadDecSpec)) fnExactReadDecCard

/-- THE TIED CARD OF 'laws.FnExactVersionOk'. -/
def fnExactVersionOkCard : Claim7 := { stood := { row := fnExactVersionOkRow, standIns := [], harness := (true, "28ca76327ae5c99ad1391ce07655eb12dc7db72c1b7608e32114c0271da8a8b9"), looks := true }, kinds := [], alts := [], laidByText := true, laidKinds := [.data, .data, .data, .sentinel, .sentinel], laidTests := true, laidLooks := .later }
def FnExactVersionOkCardSaid : Prop := Claim7.holds Tryd.pinned (.plain (OpenSpec.ofChange fnExactVersionOkSpec)) fnExactVersionOkCard

/-- THE TIED CARD OF 'laws.FnExactNext'. -/
def fnExactNextCard : Claim7 := { stood := { row := fnExactNextRow, standIns := [], harness := (true, "28ca76327ae5c99ad1391ce07655eb12dc7db72c1b7608e32114c0271da8a8b9"), looks := true }, kinds := [], alts := [], laidByText := true, laidKinds := [.data, .data, .data, .sentinel, .sentinel], laidTests := true, laidLooks := .later }
def FnExactNextCardSaid : Prop := Claim7.holds Tryd.pinned (.plain (OpenSpec.ofChange fnExactNextSpec)) fnExactNextCard

/-- THE TIED CARD OF 'laws.FnExactVersionText'. -/
def fnExactVersionTextCard : Claim7 := { stood := { row := fnExactVersionTextRow, standIns := [], harness := (true, "28ca76327ae5c99ad1391ce07655eb12dc7db72c1b7608e32114c0271da8a8b9"), looks := true }, kinds := [], alts := [], laidByText := true, laidKinds := [.data, .data, .data, .sentinel, .sentinel], laidTests := true, laidLooks := .later }
def FnExactVersionTextCardSaid : Prop := Claim7.holds Tryd.pinned (.plain (OpenSpec.ofChange fnExactVersionTextSpec)) fnExactVersionTextCard

/-- THE TIED CARD OF 'laws.FnCodes'. -/
def fnCodesCard : Claim7 := { stood := { row := fnCodesRow, standIns := [], harness := (true, "28ca76327ae5c99ad1391ce07655eb12dc7db72c1b7608e32114c0271da8a8b9"), looks := true }, kinds := [], alts := [], laidByText := true, laidKinds := [.data, .pinned, .pinned], laidTests := true, laidLooks := .later }
def FnCodesCardSaid : Prop := Claim7.holds Tryd.pinned (.plain (OpenSpec.ofChange fnCodesSpec)) fnCodesCard

/-- THE TIED CARD OF 'laws.FnExactReadVersion'. -/
def fnExactReadVersionCard : Claim7 := { stood := { row := fnExactReadVersionRow, standIns := [], harness := (true, "28ca76327ae5c99ad1391ce07655eb12dc7db72c1b7608e32114c0271da8a8b9"), looks := true }, kinds := [], alts := [], laidByText := true, laidKinds := [.data, .data, .data, .data, .sentinel, .sentinel, .pinned], laidTests := true, laidLooks := .later }
def FnExactReadVersionCardSaid : Prop := Claim7.holds Tryd.pinned (.plain (OpenSpec.ofChange fnExactReadVersionSpec)) fnExactReadVersionCard

/-- THE TIED CARD OF 'laws.FnExactRangeOk'. -/
def fnExactRangeOkCard : Claim7 := { stood := { row := fnExactRangeOkRow, standIns := [], harness := (true, "28ca76327ae5c99ad1391ce07655eb12dc7db72c1b7608e32114c0271da8a8b9"), looks := true }, kinds := [], alts := [], laidByText := true, laidKinds := [.data, .data, .data, .data, .sentinel, .sentinel, .pinned], laidTests := true, laidLooks := .later }
def FnExactRangeOkCardSaid : Prop := Claim7.holds Tryd.pinned (.plain (OpenSpec.ofChange fnExactRangeOkSpec)) fnExactRangeOkCard

/-- THE TIED CARD OF 'laws.FnExactRangeText'. -/
def fnExactRangeTextCard : Claim7 := { stood := { row := fnExactRangeTextRow, standIns := [], harness := (true, "28ca76327ae5c99ad1391ce07655eb12dc7db72c1b7608e32114c0271da8a8b9"), looks := true }, kinds := [], alts := [], laidByText := true, laidKinds := [.data, .data, .data, .data, .sentinel, .sentinel, .pinned], laidTests := true, laidLooks := .later }
def FnExactRangeTextCardSaid : Prop := Claim7.holds Tryd.pinned (.plain (OpenSpec.ofChange fnExactRangeTextSpec)) fnExactRangeTextCard

/-- THE TIED CARD OF 'laws.FnExactExact'. -/
def fnExactExactCard : Claim7 := { stood := { row := fnExactExactRow, standIns := [], harness := (true, "28ca76327ae5c99ad1391ce07655eb12dc7db72c1b7608e32114c0271da8a8b9"), looks := true }, kinds := [], alts := [], laidByText := true, laidKinds := [.data, .data, .data, .data, .sentinel, .sentinel, .pinned], laidTests := true, laidLooks := .later }
def FnExactExactCardSaid : Prop := Claim7.holds Tryd.pinned (.plain (OpenSpec.ofChange fnExactExactSpec)) fnExactExactCard

/-- THE SECOND FORM's CARD OF 'laws.FnExactIndent'. -/
def fnExactIndentUptoCard : Claim7 := { stood := { row := fnExactIndentUptoRow, standIns := [], harness := (true, "28ca76327ae5c99ad1391ce07655eb12dc7db72c1b7608e32114c0271da8a8b9"), looks := true }, kinds := [], alts := [], laidByText := true, laidKinds := [.data, .pinned], laidTests := true, laidLooks := .later }
def FnExactIndentUptoCardSaid : Prop := Claim7.holds Tryd.pinned (.plain (OpenSpec.upto fnExactIndentSpec)) fnExactIndentUptoCard

/-- THE SECOND FORM's CARD OF 'laws.FnExactDecText'. -/
def fnExactDecTextUptoCard : Claim7 := { stood := { row := fnExactDecTextUptoRow, standIns := [], harness := (true, "28ca76327ae5c99ad1391ce07655eb12dc7db72c1b7608e32114c0271da8a8b9"), looks := true }, kinds := [], alts := [], laidByText := true, laidKinds := [.data, .data, .data], laidTests := true, laidLooks := .later }
def FnExactDecTextUptoCardSaid : Prop := Claim7.holds Tryd.pinned (.plain (OpenSpec.upto fnExactDecTextSpec)) fnExactDecTextUptoCard

/-- THE SECOND FORM's CARD OF 'laws.FnExactWords'. -/
def fnExactWordsUptoCard : Claim7 := { stood := { row := fnExactWordsUptoRow, standIns := [], harness := (true, "28ca76327ae5c99ad1391ce07655eb12dc7db72c1b7608e32114c0271da8a8b9"), looks := true }, kinds := [], alts := [], laidByText := true, laidKinds := [.data, .pinned], laidTests := true, laidLooks := .later }
def FnExactWordsUptoCardSaid : Prop := Claim7.holds Tryd.pinned (.plain (OpenSpec.upto fnExactWordsSpec)) fnExactWordsUptoCard

/-- THE SECOND FORM's CARD OF 'laws.FnExactLines'. -/
def fnExactLinesUptoCard : Claim7 := { stood := { row := fnExactLinesUptoRow, standIns := [], harness := (true, "28ca76327ae5c99ad1391ce07655eb12dc7db72c1b7608e32114c0271da8a8b9"), looks := true }, kinds := [], alts := [], laidByText := true, laidKinds := [.data, .pinned], laidTests := true, laidLooks := .later }
def FnExactLinesUptoCardSaid : Prop := Claim7.holds Tryd.pinned (.plain (OpenSpec.upto fnExactLinesSpec)) fnExactLinesUptoCard

/-- THE SECOND FORM's CARD OF 'laws.FnExactGetBase64'. -/
def fnExactGetBase64UptoCard : Claim7 := { stood := { row := fnExactGetBase64UptoRow, standIns := [], harness := (true, "28ca76327ae5c99ad1391ce07655eb12dc7db72c1b7608e32114c0271da8a8b9"), looks := true }, kinds := [], alts := [], laidByText := true, laidKinds := [.data, .pinned], laidTests := true, laidLooks := .later }
def FnExactGetBase64UptoCardSaid : Prop := Claim7.holds Tryd.pinned (.plain (OpenSpec.upto fnExactGetBase64Spec)) fnExactGetBase64UptoCard

/-- THE SECOND FORM's CARD OF 'laws.FnExactPutPercent'. -/
def fnExactPutPercentUptoCard : Claim7 := { stood := { row := fnExactPutPercentUptoRow, standIns := [], harness := (true, "28ca76327ae5c99ad1391ce07655eb12dc7db72c1b7608e32114c0271da8a8b9"), looks := true }, kinds := [], alts := [], laidByText := true, laidKinds := [.data, .pinned, .pinned], laidTests := true, laidLooks := .later }
def FnExactPutPercentUptoCardSaid : Prop := Claim7.holds Tryd.pinned (.plain (OpenSpec.upto fnExactPutPercentSpec)) fnExactPutPercentUptoCard

/-- THE SECOND FORM's CARD OF 'laws.FnExactGetPercent'. -/
def fnExactGetPercentUptoCard : Claim7 := { stood := { row := fnExactGetPercentUptoRow, standIns := [], harness := (true, "28ca76327ae5c99ad1391ce07655eb12dc7db72c1b7608e32114c0271da8a8b9"), looks := true }, kinds := [], alts := [], laidByText := true, laidKinds := [.data, .pinned, .pinned], laidTests := true, laidLooks := .later }
def FnExactGetPercentUptoCardSaid : Prop := Claim7.holds Tryd.pinned (.plain (OpenSpec.upto fnExactGetPercentSpec)) fnExactGetPercentUptoCard

/-- THE SECOND FORM's CARD OF 'laws.FnExactReadDec'. -/
def fnExactReadDecUptoCard : Claim7 := { stood := { row := fnExactReadDecUptoRow, standIns := [], harness := (true, "28ca76327ae5c99ad1391ce07655eb12dc7db72c1b7608e32114c0271da8a8b9"), looks := true }, kinds := [], alts := [], laidByText := true, laidKinds := [.data, .data, .data, .sentinel, .sentinel], laidTests := true, laidLooks := .later }
def FnExactReadDecUptoCardSaid : Prop := Claim7.holds Tryd.pinned (.plain (OpenSpec.upto fnExactReadDecSpec)) fnExactReadDecUptoCard

/-- THE SECOND FORM's CARD OF 'laws.FnExactVersionOk'. -/
def fnExactVersionOkUptoCard : Claim7 := { stood := { row := fnExactVersionOkUptoRow, standIns := [], harness := (true, "28ca76327ae5c99ad1391ce07655eb12dc7db72c1b7608e32114c0271da8a8b9"), looks := true }, kinds := [], alts := [], laidByText := true, laidKinds := [.data, .data, .data, .sentinel, .sentinel], laidTests := true, laidLooks := .later }
def FnExactVersionOkUptoCardSaid : Prop := Claim7.holds Tryd.pinned (.plain (OpenSpec.upto fnExactVersionOkSpec)) fnExactVersionOkUptoCard

/-- THE SECOND FORM's CARD OF 'laws.FnExactNext'. -/
def fnExactNextUptoCard : Claim7 := { stood := { row := fnExactNextUptoRow, standIns := [], harness := (true, "28ca76327ae5c99ad1391ce07655eb12dc7db72c1b7608e32114c0271da8a8b9"), looks := true }, kinds := [], alts := [], laidByText := true, laidKinds := [.data, .data, .data, .sentinel, .sentinel], laidTests := true, laidLooks := .later }
def FnExactNextUptoCardSaid : Prop := Claim7.holds Tryd.pinned (.plain (OpenSpec.upto fnExactNextSpec)) fnExactNextUptoCard

/-- THE SECOND FORM's CARD OF 'laws.FnExactVersionText'. -/
def fnExactVersionTextUptoCard : Claim7 := { stood := { row := fnExactVersionTextUptoRow, standIns := [], harness := (true, "28ca76327ae5c99ad1391ce07655eb12dc7db72c1b7608e32114c0271da8a8b9"), looks := true }, kinds := [], alts := [], laidByText := true, laidKinds := [.data, .data, .data, .sentinel, .sentinel], laidTests := true, laidLooks := .later }
def FnExactVersionTextUptoCardSaid : Prop := Claim7.holds Tryd.pinned (.plain (OpenSpec.upto fnExactVersionTextSpec)) fnExactVersionTextUptoCard

/-- THE SECOND FORM's CARD OF 'laws.FnCodes'. -/
def fnCodesUptoCard : Claim7 := { stood := { row := fnCodesUptoRow, standIns := [], harness := (true, "28ca76327ae5c99ad1391ce07655eb12dc7db72c1b7608e32114c0271da8a8b9"), looks := true }, kinds := [], alts := [], laidByText := true, laidKinds := [.data, .pinned, .pinned], laidTests := true, laidLooks := .later }
def FnCodesUptoCardSaid : Prop := Claim7.holds Tryd.pinned (.plain (OpenSpec.upto fnCodesSpec)) fnCodesUptoCard

/-- THE SECOND FORM's CARD OF 'laws.FnExactReadVersion'. -/
def fnExactReadVersionUptoCard : Claim7 := { stood := { row := fnExactReadVersionUptoRow, standIns := [], harness := (true, "28ca76327ae5c99ad1391ce07655eb12dc7db72c1b7608e32114c0271da8a8b9"), looks := true }, kinds := [], alts := [], laidByText := true, laidKinds := [.data, .data, .data, .data, .sentinel, .sentinel, .pinned], laidTests := true, laidLooks := .later }
def FnExactReadVersionUptoCardSaid : Prop := Claim7.holds Tryd.pinned (.plain (OpenSpec.upto fnExactReadVersionSpec)) fnExactReadVersionUptoCard

/-- THE SECOND FORM's CARD OF 'laws.FnExactRangeOk'. -/
def fnExactRangeOkUptoCard : Claim7 := { stood := { row := fnExactRangeOkUptoRow, standIns := [], harness := (true, "28ca76327ae5c99ad1391ce07655eb12dc7db72c1b7608e32114c0271da8a8b9"), looks := true }, kinds := [], alts := [], laidByText := true, laidKinds := [.data, .data, .data, .data, .sentinel, .sentinel, .pinned], laidTests := true, laidLooks := .later }
def FnExactRangeOkUptoCardSaid : Prop := Claim7.holds Tryd.pinned (.plain (OpenSpec.upto fnExactRangeOkSpec)) fnExactRangeOkUptoCard

/-- THE SECOND FORM's CARD OF 'laws.FnExactRangeText'. -/
def fnExactRangeTextUptoCard : Claim7 := { stood := { row := fnExactRangeTextUptoRow, standIns := [], harness := (true, "28ca76327ae5c99ad1391ce07655eb12dc7db72c1b7608e32114c0271da8a8b9"), looks := true }, kinds := [], alts := [], laidByText := true, laidKinds := [.data, .data, .data, .data, .sentinel, .sentinel, .pinned], laidTests := true, laidLooks := .later }
def FnExactRangeTextUptoCardSaid : Prop := Claim7.holds Tryd.pinned (.plain (OpenSpec.upto fnExactRangeTextSpec)) fnExactRangeTextUptoCard

/-- THE SECOND FORM's CARD OF 'laws.FnExactExact'. -/
def fnExactExactUptoCard : Claim7 := { stood := { row := fnExactExactUptoRow, standIns := [], harness := (true, "28ca76327ae5c99ad1391ce07655eb12dc7db72c1b7608e32114c0271da8a8b9"), looks := true }, kinds := [], alts := [], laidByText := true, laidKinds := [.data, .data, .data, .data, .sentinel, .sentinel, .pinned], laidTests := true, laidLooks := .later }
def FnExactExactUptoCardSaid : Prop := Claim7.holds Tryd.pinned (.plain (OpenSpec.upto fnExactExactSpec)) fnExactExactUptoCard
end Rows
end Go.Proofs.YtgfaphlpkjikkaaDoor
