/-
  DERIVED. GIVEN WITH THE SEED: THE CARDS: each row of YtdedhnlgjegbhaaDoorRows.lean that lists a variable, with what it lists TIED to the program's text (the seventh form; the later family's looks); each row that meets fmt, with fmt's text TOLD by the authors' own Lean function (tested against real Go, not proved from fmt's source: count such statements apart). THE CARD IS WHAT COUNTS. Prove the row's statement (the work); the ties are given (YtdedhnlgjegbhaaDoorTie.lean); close each card by the builder's one call (the guide's Derived/Test/ToyasCard.lean, 'card_holds'). Laid BY PROGRAM, IN A SANDBOX (cutbox-door.mjs). By AI agents, Wed Nov 11 2026. No macro, syntax, notation, axiom, sorry.
-/
import Derived.Test.YtdedhnlgjegbhaaDoorRows
import GoSem.ClaimSeven
namespace Go.Proofs.YtdedhnlgjegbhaaDoor
namespace Rows

/-- THE TIED CARD OF 'laws.FnAmountText'. -/
def fnAmountTextCard : Claim7 := { stood := { row := fnAmountTextRow, standIns := [], harness := (true, "02eefb6ef6105baa551851b63b97080e3113414dea1367d50ed2e4f0c263f60c"), looks := true }, kinds := [], alts := [], laidByText := true, laidKinds := [.data, .data, .data, .sentinel, .sentinel], laidTests := true, laidLooks := .later }
def FnAmountTextCardSaid : Prop := Claim7.holds Tryd.pinned (.plain (OpenSpec.ofChange fnAmountTextSpec)) fnAmountTextCard

/-- THE TIED CARD OF 'laws.FnAmountParse'. -/
def fnAmountParseCard : Claim7 := { stood := { row := fnAmountParseRow, standIns := [], harness := (true, "02eefb6ef6105baa551851b63b97080e3113414dea1367d50ed2e4f0c263f60c"), looks := true }, kinds := [], alts := [], laidByText := true, laidKinds := [.data, .data, .data, .sentinel, .sentinel], laidTests := true, laidLooks := .later }
def FnAmountParseCardSaid : Prop := Claim7.holds Tryd.pinned (.plain (OpenSpec.ofChange fnAmountParseSpec)) fnAmountParseCard

/-- THE TIED CARD OF 'laws.FnAmountParseBad'. -/
def fnAmountParseBadCard : Claim7 := { stood := { row := fnAmountParseBadRow, standIns := [], harness := (true, "02eefb6ef6105baa551851b63b97080e3113414dea1367d50ed2e4f0c263f60c"), looks := true }, kinds := [], alts := [], laidByText := true, laidKinds := [.data, .data, .data, .sentinel, .sentinel], laidTests := true, laidLooks := .later }
def FnAmountParseBadCardSaid : Prop := Claim7.holds Tryd.pinned (.plain (OpenSpec.ofChange fnAmountParseBadSpec)) fnAmountParseBadCard

/-- THE TIED CARD OF 'laws.FnExactClockText'. -/
def fnExactClockTextCard : Claim7 := { stood := { row := fnExactClockTextRow, standIns := [], harness := (true, "02eefb6ef6105baa551851b63b97080e3113414dea1367d50ed2e4f0c263f60c"), looks := true }, kinds := [], alts := [], laidByText := true, laidKinds := [.data, .data, .data], laidTests := true, laidLooks := .later }
def FnExactClockTextCardSaid : Prop := Claim7.holds Tryd.pinned (.plain (OpenSpec.ofChange fnExactClockTextSpec)) fnExactClockTextCard

/-- THE TIED CARD OF 'laws.FnExactAmountText'. -/
def fnExactAmountTextCard : Claim7 := { stood := { row := fnExactAmountTextRow, standIns := [], harness := (true, "02eefb6ef6105baa551851b63b97080e3113414dea1367d50ed2e4f0c263f60c"), looks := true }, kinds := [], alts := [], laidByText := true, laidKinds := [.data, .data, .data], laidTests := true, laidLooks := .later }
def FnExactAmountTextCardSaid : Prop := Claim7.holds Tryd.pinned (.plain (OpenSpec.ofChange fnExactAmountTextSpec)) fnExactAmountTextCard

/-- THE TIED CARD OF 'laws.FnExactClockParse'. -/
def fnExactClockParseCard : Claim7 := { stood := { row := fnExactClockParseRow, standIns := [], harness := (true, "02eefb6ef6105baa551851b63b97080e3113414dea1367d50ed2e4f0c263f60c"), looks := true }, kinds := [], alts := [], laidByText := true, laidKinds := [.data, .data, .data], laidTests := true, laidLooks := .later }
def FnExactClockParseCardSaid : Prop := Claim7.holds Tryd.pinned (.plain (OpenSpec.ofChange fnExactClockParseSpec)) fnExactClockParseCard

/-- THE TIED CARD OF 'laws.FnClockOrder'. -/
def fnClockOrderCard : Claim7 := { stood := { row := fnClockOrderRow, standIns := [], harness := (true, "02eefb6ef6105baa551851b63b97080e3113414dea1367d50ed2e4f0c263f60c"), looks := true }, kinds := [], alts := [], laidByText := true, laidKinds := [.data, .data, .data], laidTests := true, laidLooks := .later }
def FnClockOrderCardSaid : Prop := Claim7.holds Tryd.pinned (.plain (OpenSpec.ofChange fnClockOrderSpec)) fnClockOrderCard

/-- THE TIED CARD OF 'laws.FnAmountTextBad'. -/
def fnAmountTextBadCard : Claim7 := { stood := { row := fnAmountTextBadRow, standIns := [], harness := (true, "02eefb6ef6105baa551851b63b97080e3113414dea1367d50ed2e4f0c263f60c"), looks := true }, kinds := [], alts := [], laidByText := true, laidKinds := [.data, .data, .data], laidTests := true, laidLooks := .later }
def FnAmountTextBadCardSaid : Prop := Claim7.holds Tryd.pinned (.plain (OpenSpec.ofChange fnAmountTextBadSpec)) fnAmountTextBadCard

/-- THE TIED CARD OF 'laws.FnClock'. -/
def fnClockCard : Claim7 := { stood := { row := fnClockRow, standIns := [], harness := (true, "02eefb6ef6105baa551851b63b97080e3113414dea1367d50ed2e4f0c263f60c"), looks := true }, kinds := [], alts := [], laidByText := true, laidKinds := [.data, .data, .data], laidTests := true, laidLooks := .later }
def FnClockCardSaid : Prop := Claim7.holds Tryd.pinned (.plain (OpenSpec.ofChange fnClockSpec)) fnClockCard

/-- THE TIED CARD OF 'laws.FnClockParse'. -/
def fnClockParseCard : Claim7 := { stood := { row := fnClockParseRow, standIns := [], harness := (true, "02eefb6ef6105baa551851b63b97080e3113414dea1367d50ed2e4f0c263f60c"), looks := true }, kinds := [], alts := [], laidByText := true, laidKinds := [.data, .data, .data], laidTests := true, laidLooks := .later }
def FnClockParseCardSaid : Prop := Claim7.holds Tryd.pinned (.plain (OpenSpec.ofChange fnClockParseSpec)) fnClockParseCard

/-- THE TIED CARD OF 'laws.FnExactAmountParse'. -/
def fnExactAmountParseCard : Claim7 := { stood := { row := fnExactAmountParseRow, standIns := [], harness := (true, "02eefb6ef6105baa551851b63b97080e3113414dea1367d50ed2e4f0c263f60c"), looks := true }, kinds := [], alts := [], laidByText := true, laidKinds := [.data, .data, .data, .sentinel, .sentinel], laidTests := true, laidLooks := .later }
def FnExactAmountParseCardSaid : Prop := Claim7.holds Tryd.pinned (.plain (OpenSpec.ofChange fnExactAmountParseSpec)) fnExactAmountParseCard

/-- THE SECOND FORM's CARD OF 'laws.FnAmountText'. -/
def fnAmountTextUptoCard : Claim7 := { stood := { row := fnAmountTextUptoRow, standIns := [], harness := (true, "02eefb6ef6105baa551851b63b97080e3113414dea1367d50ed2e4f0c263f60c"), looks := true }, kinds := [], alts := [], laidByText := true, laidKinds := [.data, .data, .data, .sentinel, .sentinel], laidTests := true, laidLooks := .later }
def FnAmountTextUptoCardSaid : Prop := Claim7.holds Tryd.pinned (.plain (OpenSpec.upto fnAmountTextSpec)) fnAmountTextUptoCard

/-- THE SECOND FORM's CARD OF 'laws.FnAmountParse'. -/
def fnAmountParseUptoCard : Claim7 := { stood := { row := fnAmountParseUptoRow, standIns := [], harness := (true, "02eefb6ef6105baa551851b63b97080e3113414dea1367d50ed2e4f0c263f60c"), looks := true }, kinds := [], alts := [], laidByText := true, laidKinds := [.data, .data, .data, .sentinel, .sentinel], laidTests := true, laidLooks := .later }
def FnAmountParseUptoCardSaid : Prop := Claim7.holds Tryd.pinned (.plain (OpenSpec.upto fnAmountParseSpec)) fnAmountParseUptoCard

/-- THE SECOND FORM's CARD OF 'laws.FnAmountParseBad'. -/
def fnAmountParseBadUptoCard : Claim7 := { stood := { row := fnAmountParseBadUptoRow, standIns := [], harness := (true, "02eefb6ef6105baa551851b63b97080e3113414dea1367d50ed2e4f0c263f60c"), looks := true }, kinds := [], alts := [], laidByText := true, laidKinds := [.data, .data, .data, .sentinel, .sentinel], laidTests := true, laidLooks := .later }
def FnAmountParseBadUptoCardSaid : Prop := Claim7.holds Tryd.pinned (.plain (OpenSpec.upto fnAmountParseBadSpec)) fnAmountParseBadUptoCard

/-- THE SECOND FORM's CARD OF 'laws.FnExactClockText'. -/
def fnExactClockTextUptoCard : Claim7 := { stood := { row := fnExactClockTextUptoRow, standIns := [], harness := (true, "02eefb6ef6105baa551851b63b97080e3113414dea1367d50ed2e4f0c263f60c"), looks := true }, kinds := [], alts := [], laidByText := true, laidKinds := [.data, .data, .data], laidTests := true, laidLooks := .later }
def FnExactClockTextUptoCardSaid : Prop := Claim7.holds Tryd.pinned (.plain (OpenSpec.upto fnExactClockTextSpec)) fnExactClockTextUptoCard

/-- THE SECOND FORM's CARD OF 'laws.FnExactAmountText'. -/
def fnExactAmountTextUptoCard : Claim7 := { stood := { row := fnExactAmountTextUptoRow, standIns := [], harness := (true, "02eefb6ef6105baa551851b63b97080e3113414dea1367d50ed2e4f0c263f60c"), looks := true }, kinds := [], alts := [], laidByText := true, laidKinds := [.data, .data, .data], laidTests := true, laidLooks := .later }
def FnExactAmountTextUptoCardSaid : Prop := Claim7.holds Tryd.pinned (.plain (OpenSpec.upto fnExactAmountTextSpec)) fnExactAmountTextUptoCard

/-- THE SECOND FORM's CARD OF 'laws.FnExactClockParse'. -/
def fnExactClockParseUptoCard : Claim7 := { stood := { row := fnExactClockParseUptoRow, standIns := [], harness := (true, "02eefb6ef6105baa551851b63b97080e3113414dea1367d50ed2e4f0c263f60c"), looks := true }, kinds := [], alts := [], laidByText := true, laidKinds := [.data, .data, .data], laidTests := true, laidLooks := .later }
def FnExactClockParseUptoCardSaid : Prop := Claim7.holds Tryd.pinned (.plain (OpenSpec.upto fnExactClockParseSpec)) fnExactClockParseUptoCard

/-- THE SECOND FORM's CARD OF 'laws.FnClockOrder'. -/
def fnClockOrderUptoCard : Claim7 := { stood := { row := fnClockOrderUptoRow, standIns := [], harness := (true, "02eefb6ef6105baa551851b63b97080e3113414dea1367d50ed2e4f0c263f60c"), looks := true }, kinds := [], alts := [], laidByText := true, laidKinds := [.data, .data, .data], laidTests := true, laidLooks := .later }
def FnClockOrderUptoCardSaid : Prop := Claim7.holds Tryd.pinned (.plain (OpenSpec.upto fnClockOrderSpec)) fnClockOrderUptoCard

/-- THE SECOND FORM's CARD OF 'laws.FnAmountTextBad'. -/
def fnAmountTextBadUptoCard : Claim7 := { stood := { row := fnAmountTextBadUptoRow, standIns := [], harness := (true, "02eefb6ef6105baa551851b63b97080e3113414dea1367d50ed2e4f0c263f60c"), looks := true }, kinds := [], alts := [], laidByText := true, laidKinds := [.data, .data, .data], laidTests := true, laidLooks := .later }
def FnAmountTextBadUptoCardSaid : Prop := Claim7.holds Tryd.pinned (.plain (OpenSpec.upto fnAmountTextBadSpec)) fnAmountTextBadUptoCard

/-- THE SECOND FORM's CARD OF 'laws.FnClock'. -/
def fnClockUptoCard : Claim7 := { stood := { row := fnClockUptoRow, standIns := [], harness := (true, "02eefb6ef6105baa551851b63b97080e3113414dea1367d50ed2e4f0c263f60c"), looks := true }, kinds := [], alts := [], laidByText := true, laidKinds := [.data, .data, .data], laidTests := true, laidLooks := .later }
def FnClockUptoCardSaid : Prop := Claim7.holds Tryd.pinned (.plain (OpenSpec.upto fnClockSpec)) fnClockUptoCard

/-- THE SECOND FORM's CARD OF 'laws.FnClockParse'. -/
def fnClockParseUptoCard : Claim7 := { stood := { row := fnClockParseUptoRow, standIns := [], harness := (true, "02eefb6ef6105baa551851b63b97080e3113414dea1367d50ed2e4f0c263f60c"), looks := true }, kinds := [], alts := [], laidByText := true, laidKinds := [.data, .data, .data], laidTests := true, laidLooks := .later }
def FnClockParseUptoCardSaid : Prop := Claim7.holds Tryd.pinned (.plain (OpenSpec.upto fnClockParseSpec)) fnClockParseUptoCard

/-- THE SECOND FORM's CARD OF 'laws.FnExactAmountParse'. -/
def fnExactAmountParseUptoCard : Claim7 := { stood := { row := fnExactAmountParseUptoRow, standIns := [], harness := (true, "02eefb6ef6105baa551851b63b97080e3113414dea1367d50ed2e4f0c263f60c"), looks := true }, kinds := [], alts := [], laidByText := true, laidKinds := [.data, .data, .data, .sentinel, .sentinel], laidTests := true, laidLooks := .later }
def FnExactAmountParseUptoCardSaid : Prop := Claim7.holds Tryd.pinned (.plain (OpenSpec.upto fnExactAmountParseSpec)) fnExactAmountParseUptoCard
end Rows
end Go.Proofs.YtdedhnlgjegbhaaDoor
