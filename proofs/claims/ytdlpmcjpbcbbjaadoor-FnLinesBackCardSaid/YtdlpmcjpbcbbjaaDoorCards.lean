/-
  DERIVED. GIVEN WITH THE SEED: THE CARDS: each row of YtdlpmcjpbcbbjaaDoorRows.lean that lists a variable, with what it lists TIED to the program's text (the seventh form; the later family's looks); each row that meets fmt, with fmt's text TOLD by the authors' own Lean function (tested against real Go, not proved from fmt's source: count such statements apart). THE CARD IS WHAT COUNTS. Prove the row's statement (the work); the ties are given (YtdlpmcjpbcbbjaaDoorTie.lean); close each card by the builder's one call (the guide's Derived/Test/ToyasCard.lean, 'card_holds'). Laid BY PROGRAM, IN A SANDBOX (cutbox-door.mjs). By AI agents, Wed Nov 11 2026. No macro, syntax, notation, axiom, sorry.
-/
import Derived.Test.YtdlpmcjpbcbbjaaDoorRows
import GoSem.ClaimSeven
namespace Go.Proofs.YtdlpmcjpbcbbjaaDoor
namespace Rows

/-- THE TIED CARD OF 'laws.FnWordsUsed'. -/
def fnWordsUsedCard : Claim7 := { stood := { row := fnWordsUsedRow, standIns := [], harness := (true, "8f304b5c5a6b73c66da0778d159686fb6615cb1bff508bba6463c49019a62f26"), looks := true }, kinds := [], alts := [], laidByText := true, laidKinds := [.data, .data, .data, .sentinel, .sentinel], laidTests := true, laidLooks := .later }
def FnWordsUsedCardSaid : Prop := Claim7.holds Tryd.pinned (.plain (OpenSpec.ofChange fnWordsUsedSpec)) fnWordsUsedCard

/-- THE TIED CARD OF 'laws.FnExactBareLines'. -/
def fnExactBareLinesCard : Claim7 := { stood := { row := fnExactBareLinesRow, standIns := [], harness := (true, "8f304b5c5a6b73c66da0778d159686fb6615cb1bff508bba6463c49019a62f26"), looks := true }, kinds := [], alts := [], laidByText := true, laidKinds := [.data, .data, .data], laidTests := true, laidLooks := .later }
def FnExactBareLinesCardSaid : Prop := Claim7.holds Tryd.pinned (.plain (OpenSpec.ofChange fnExactBareLinesSpec)) fnExactBareLinesCard

/-- THE TIED CARD OF 'laws.FnExactScriptLines'. -/
def fnExactScriptLinesCard : Claim7 := { stood := { row := fnExactScriptLinesRow, standIns := [], harness := (true, "8f304b5c5a6b73c66da0778d159686fb6615cb1bff508bba6463c49019a62f26"), looks := true }, kinds := [], alts := [], laidByText := true, laidKinds := [.data, .data, .data], laidTests := true, laidLooks := .later }
def FnExactScriptLinesCardSaid : Prop := Claim7.holds Tryd.pinned (.plain (OpenSpec.ofChange fnExactScriptLinesSpec)) fnExactScriptLinesCard

/-- THE TIED CARD OF 'laws.FnLinesBack'. -/
def fnLinesBackCard : Claim7 := { stood := { row := fnLinesBackRow, standIns := [], harness := (true, "8f304b5c5a6b73c66da0778d159686fb6615cb1bff508bba6463c49019a62f26"), looks := true }, kinds := [], alts := [], laidByText := true, laidKinds := [.data, .data, .data, .sentinel, .sentinel], laidTests := true, laidLooks := .later }
def FnLinesBackCardSaid : Prop := Claim7.holds Tryd.pinned (.plain (OpenSpec.ofChange fnLinesBackSpec)) fnLinesBackCard

/-- THE SECOND FORM's CARD OF 'laws.FnWordsUsed'. -/
def fnWordsUsedUptoCard : Claim7 := { stood := { row := fnWordsUsedUptoRow, standIns := [], harness := (true, "8f304b5c5a6b73c66da0778d159686fb6615cb1bff508bba6463c49019a62f26"), looks := true }, kinds := [], alts := [], laidByText := true, laidKinds := [.data, .data, .data, .sentinel, .sentinel], laidTests := true, laidLooks := .later }
def FnWordsUsedUptoCardSaid : Prop := Claim7.holds Tryd.pinned (.plain (OpenSpec.upto fnWordsUsedSpec)) fnWordsUsedUptoCard

/-- THE SECOND FORM's CARD OF 'laws.FnExactBareLines'. -/
def fnExactBareLinesUptoCard : Claim7 := { stood := { row := fnExactBareLinesUptoRow, standIns := [], harness := (true, "8f304b5c5a6b73c66da0778d159686fb6615cb1bff508bba6463c49019a62f26"), looks := true }, kinds := [], alts := [], laidByText := true, laidKinds := [.data, .data, .data], laidTests := true, laidLooks := .later }
def FnExactBareLinesUptoCardSaid : Prop := Claim7.holds Tryd.pinned (.plain (OpenSpec.upto fnExactBareLinesSpec)) fnExactBareLinesUptoCard

/-- THE SECOND FORM's CARD OF 'laws.FnExactScriptLines'. -/
def fnExactScriptLinesUptoCard : Claim7 := { stood := { row := fnExactScriptLinesUptoRow, standIns := [], harness := (true, "8f304b5c5a6b73c66da0778d159686fb6615cb1bff508bba6463c49019a62f26"), looks := true }, kinds := [], alts := [], laidByText := true, laidKinds := [.data, .data, .data], laidTests := true, laidLooks := .later }
def FnExactScriptLinesUptoCardSaid : Prop := Claim7.holds Tryd.pinned (.plain (OpenSpec.upto fnExactScriptLinesSpec)) fnExactScriptLinesUptoCard

/-- THE SECOND FORM's CARD OF 'laws.FnLinesBack'. -/
def fnLinesBackUptoCard : Claim7 := { stood := { row := fnLinesBackUptoRow, standIns := [], harness := (true, "8f304b5c5a6b73c66da0778d159686fb6615cb1bff508bba6463c49019a62f26"), looks := true }, kinds := [], alts := [], laidByText := true, laidKinds := [.data, .data, .data, .sentinel, .sentinel], laidTests := true, laidLooks := .later }
def FnLinesBackUptoCardSaid : Prop := Claim7.holds Tryd.pinned (.plain (OpenSpec.upto fnLinesBackSpec)) fnLinesBackUptoCard
end Rows
end Go.Proofs.YtdlpmcjpbcbbjaaDoor
