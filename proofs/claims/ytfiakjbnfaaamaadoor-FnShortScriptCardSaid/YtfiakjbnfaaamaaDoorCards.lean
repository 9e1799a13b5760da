/-
  DERIVED. GIVEN WITH THE SEED: THE CARDS: each row of YtfiakjbnfaaamaaDoorRows.lean that lists a variable, with what it lists TIED to the program's text (the seventh form; the later family's looks); each row that meets fmt, with fmt's text TOLD by the authors' own Lean function (tested against real Go, not proved from fmt's source: count such statements apart). THE CARD IS WHAT COUNTS. Prove the row's statement (the work); the ties are given (YtfiakjbnfaaamaaDoorTie.lean); close each card by the builder's one call (the guide's Derived/Test/ToyasCard.lean, 'card_holds'). Laid BY PROGRAM, IN A SANDBOX (cutbox-door.mjs). By AI agents, Wed Nov 11 2026. No macro, syntax, notation, axiom, sorry.
-/
import Derived.Test.YtfiakjbnfaaamaaDoorRows
import GoSem.ClaimSeven
namespace Go.Proofs.YtfiakjbnfaaamaaDoor
namespace Rows

/-- THE TIED CARD OF 'laws.FnShortScript'. -/
def fnShortScriptCard : Claim7 := { stood := { row := fnShortScriptRow, standIns := [], harness := (true, "7327ef36dd4e755496d4ca7491cd3c7ee1ace1437ead0a3f2a443554df3d2c20"), looks := true }, kinds := [], alts := [], laidByText := true, laidKinds := [.data, .data, .data, .data, .sentinel, .sentinel, .pinned], laidTests := true, laidLooks := .later }
def FnShortScriptCardSaid : Prop := Claim7.holds Tryd.pinned (.plain (OpenSpec.ofChange fnShortScriptSpec)) fnShortScriptCard

/-- THE TIED CARD OF 'laws.FnTooMany'. -/
def fnTooManyCard : Claim7 := { stood := { row := fnTooManyRow, standIns := [], harness := (true, "7327ef36dd4e755496d4ca7491cd3c7ee1ace1437ead0a3f2a443554df3d2c20"), looks := true }, kinds := [], alts := [], laidByText := true, laidKinds := [.data, .data, .data, .data, .sentinel, .sentinel, .pinned], laidTests := true, laidLooks := .later }
def FnTooManyCardSaid : Prop := Claim7.holds Tryd.pinned (.plain (OpenSpec.ofChange fnTooManySpec)) fnTooManyCard

/-- THE SECOND FORM's CARD OF 'laws.FnShortScript'. -/
def fnShortScriptUptoCard : Claim7 := { stood := { row := fnShortScriptUptoRow, standIns := [], harness := (true, "7327ef36dd4e755496d4ca7491cd3c7ee1ace1437ead0a3f2a443554df3d2c20"), looks := true }, kinds := [], alts := [], laidByText := true, laidKinds := [.data, .data, .data, .data, .sentinel, .sentinel, .pinned], laidTests := true, laidLooks := .later }
def FnShortScriptUptoCardSaid : Prop := Claim7.holds Tryd.pinned (.plain (OpenSpec.upto fnShortScriptSpec)) fnShortScriptUptoCard

/-- THE SECOND FORM's CARD OF 'laws.FnTooMany'. -/
def fnTooManyUptoCard : Claim7 := { stood := { row := fnTooManyUptoRow, standIns := [], harness := (true, "7327ef36dd4e755496d4ca7491cd3c7ee1ace1437ead0a3f2a443554df3d2c20"), looks := true }, kinds := [], alts := [], laidByText := true, laidKinds := [.data, .data, .data, .data, .sentinel, .sentinel, .pinned], laidTests := true, laidLooks := .later }
def FnTooManyUptoCardSaid : Prop := Claim7.holds Tryd.pinned (.plain (OpenSpec.upto fnTooManySpec)) fnTooManyUptoCard
end Rows
end Go.Proofs.YtfiakjbnfaaamaaDoor
