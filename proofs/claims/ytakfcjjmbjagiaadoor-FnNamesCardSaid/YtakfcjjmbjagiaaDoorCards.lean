/-
  DERIVED. GIVEN WITH THE SEED: THE CARDS: each row of YtakfcjjmbjagiaaDoorRows.lean that lists a variable, with what it lists TIED to the program's text (the seventh form; the later family's looks); each row that meets fmt, with fmt's text TOLD by the authors' own Lean function (tested against real Go, not proved from fmt's source: count such statements apart). THE CARD IS WHAT COUNTS. Prove the row's statement (the work); the ties are given (YtakfcjjmbjagiaaDoorTie.lean); close each card by the builder's one call (the guide's Derived/Test/ToyasCard.lean, 'card_holds'). Laid BY PROGRAM, IN A SANDBOX (cutbox-door.mjs). By AI agents, Wed Nov 11 2026. No macro, syntax, notation, axiom, sorry.
-/
import Derived.Test.YtakfcjjmbjagiaaDoorRows
import GoSem.ClaimSeven
namespace Go.Proofs.YtakfcjjmbjagiaaDoor
namespace Rows

/-- THE TIED CARD OF 'laws.FnExactInsLine'. -/
def fnExactInsLineCard : Claim7 := { stood := { row := fnExactInsLineRow, standIns := [], harness := (true, "7d140b7e41f4ca773dd26c850179107fb8997a09e1a97041bae2cb66ee7de508"), looks := true }, kinds := [], alts := [], laidByText := true, laidKinds := [.data, .data, .data], laidTests := true, laidLooks := .later }
def FnExactInsLineCardSaid : Prop := Claim7.holds Tryd.pinned (.plain (OpenSpec.ofChange fnExactInsLineSpec)) fnExactInsLineCard

/-- THE TIED CARD OF 'laws.FnExactNumsText'. -/
def fnExactNumsTextCard : Claim7 := { stood := { row := fnExactNumsTextRow, standIns := [], harness := (true, "7d140b7e41f4ca773dd26c850179107fb8997a09e1a97041bae2cb66ee7de508"), looks := true }, kinds := [], alts := [], laidByText := true, laidKinds := [.data, .data, .data], laidTests := true, laidLooks := .later }
def FnExactNumsTextCardSaid : Prop := Claim7.holds Tryd.pinned (.plain (OpenSpec.ofChange fnExactNumsTextSpec)) fnExactNumsTextCard

/-- THE TIED CARD OF 'laws.FnExactActLine'. -/
def fnExactActLineCard : Claim7 := { stood := { row := fnExactActLineRow, standIns := [], harness := (true, "7d140b7e41f4ca773dd26c850179107fb8997a09e1a97041bae2cb66ee7de508"), looks := true }, kinds := [], alts := [], laidByText := true, laidKinds := [.data, .data, .data], laidTests := true, laidLooks := .later }
def FnExactActLineCardSaid : Prop := Claim7.holds Tryd.pinned (.plain (OpenSpec.ofChange fnExactActLineSpec)) fnExactActLineCard

/-- THE TIED CARD OF 'laws.FnNames'. -/
def fnNamesCard : Claim7 := { stood := { row := fnNamesRow, standIns := [], harness := (true, "7d140b7e41f4ca773dd26c850179107fb8997a09e1a97041bae2cb66ee7de508"), looks := true }, kinds := [], alts := [], laidByText := true, laidKinds := [.data, .data, .data, .sentinel, .sentinel], laidTests := true, laidLooks := .later }
def FnNamesCardSaid : Prop := Claim7.holds Tryd.pinned (.plain (OpenSpec.ofChange fnNamesSpec)) fnNamesCard

/-- THE TIED CARD OF 'laws.FnExactGuestLine'. -/
def fnExactGuestLineCard : Claim7 := { stood := { row := fnExactGuestLineRow, standIns := [], harness := (true, "7d140b7e41f4ca773dd26c850179107fb8997a09e1a97041bae2cb66ee7de508"), looks := true }, kinds := [], alts := [], laidByText := true, laidKinds := [.data, .data, .data], laidTests := true, laidLooks := .later }
def FnExactGuestLineCardSaid : Prop := Claim7.holds Tryd.pinned (.plain (OpenSpec.ofChange fnExactGuestLineSpec)) fnExactGuestLineCard

/-- THE TIED CARD OF 'laws.FnExactReadIns'. -/
def fnExactReadInsCard : Claim7 := { stood := { row := fnExactReadInsRow, standIns := [], harness := (true, "7d140b7e41f4ca773dd26c850179107fb8997a09e1a97041bae2cb66ee7de508"), looks := true }, kinds := [], alts := [], laidByText := true, laidKinds := [.data, .data, .data, .sentinel, .sentinel], laidTests := true, laidLooks := .later }
def FnExactReadInsCardSaid : Prop := Claim7.holds Tryd.pinned (.plain (OpenSpec.ofChange fnExactReadInsSpec)) fnExactReadInsCard

/-- THE TIED CARD OF 'laws.FnExactScriptOk'. -/
def fnExactScriptOkCard : Claim7 := { stood := { row := fnExactScriptOkRow, standIns := [], harness := (true, "7d140b7e41f4ca773dd26c850179107fb8997a09e1a97041bae2cb66ee7de508"), looks := true }, kinds := [], alts := [], laidByText := true, laidKinds := [.data, .data, .data], laidTests := true, laidLooks := .later }
def FnExactScriptOkCardSaid : Prop := Claim7.holds Tryd.pinned (.plain (OpenSpec.ofChange fnExactScriptOkSpec)) fnExactScriptOkCard

/-- THE TIED CARD OF 'laws.FnExactReadAct'. -/
def fnExactReadActCard : Claim7 := { stood := { row := fnExactReadActRow, standIns := [], harness := (true, "7d140b7e41f4ca773dd26c850179107fb8997a09e1a97041bae2cb66ee7de508"), looks := true }, kinds := [], alts := [], laidByText := true, laidKinds := [.data, .data, .data, .sentinel, .sentinel], laidTests := true, laidLooks := .later }
def FnExactReadActCardSaid : Prop := Claim7.holds Tryd.pinned (.plain (OpenSpec.ofChange fnExactReadActSpec)) fnExactReadActCard

/-- THE TIED CARD OF 'laws.FnShortScript'. -/
def fnShortScriptCard : Claim7 := { stood := { row := fnShortScriptRow, standIns := [], harness := (true, "7d140b7e41f4ca773dd26c850179107fb8997a09e1a97041bae2cb66ee7de508"), looks := true }, kinds := [], alts := [], laidByText := true, laidKinds := [.data, .data, .data, .data, .sentinel, .sentinel, .pinned], laidTests := true, laidLooks := .later }
def FnShortScriptCardSaid : Prop := Claim7.holds Tryd.pinned (.plain (OpenSpec.ofChange fnShortScriptSpec)) fnShortScriptCard

/-- THE TIED CARD OF 'laws.FnTooMany'. -/
def fnTooManyCard : Claim7 := { stood := { row := fnTooManyRow, standIns := [], harness := (true, "7d140b7e41f4ca773dd26c850179107fb8997a09e1a97041bae2cb66ee7de508"), looks := true }, kinds := [], alts := [], laidByText := true, laidKinds := [.data, .data, .data, .data, .sentinel, .sentinel, .pinned], laidTests := true, laidLooks := .later }
def FnTooManyCardSaid : Prop := Claim7.holds Tryd.pinned (.plain (OpenSpec.ofChange fnTooManySpec)) fnTooManyCard

/-- THE SECOND FORM's CARD OF 'laws.FnExactInsLine'. -/
def fnExactInsLineUptoCard : Claim7 := { stood := { row := fnExactInsLineUptoRow, standIns := [], harness := (true, "7d140b7e41f4ca773dd26c850179107fb8997a09e1a97041bae2cb66ee7de508"), looks := true }, kinds := [], alts := [], laidByText := true, laidKinds := [.data, .data, .data], laidTests := true, laidLooks := .later }
def FnExactInsLineUptoCardSaid : Prop := Claim7.holds Tryd.pinned (.plain (OpenSpec.upto fnExactInsLineSpec)) fnExactInsLineUptoCard

/-- THE SECOND FORM's CARD OF 'laws.FnExactNumsText'. -/
def fnExactNumsTextUptoCard : Claim7 := { stood := { row := fnExactNumsTextUptoRow, standIns := [], harness := (true, "7d140b7e41f4ca773dd26c850179107fb8997a09e1a97041bae2cb66ee7de508"), looks := true }, kinds := [], alts := [], laidByText := true, laidKinds := [.data, .data, .data], laidTests := true, laidLooks := .later }
def FnExactNumsTextUptoCardSaid : Prop := Claim7.holds Tryd.pinned (.plain (OpenSpec.upto fnExactNumsTextSpec)) fnExactNumsTextUptoCard

/-- THE SECOND FORM's CARD OF 'laws.FnExactActLine'. -/
def fnExactActLineUptoCard : Claim7 := { stood := { row := fnExactActLineUptoRow, standIns := [], harness := (true, "7d140b7e41f4ca773dd26c850179107fb8997a09e1a97041bae2cb66ee7de508"), looks := true }, kinds := [], alts := [], laidByText := true, laidKinds := [.data, .data, .data], laidTests := true, laidLooks := .later }
def FnExactActLineUptoCardSaid : Prop := Claim7.holds Tryd.pinned (.plain (OpenSpec.upto fnExactActLineSpec)) fnExactActLineUptoCard

/-- THE SECOND FORM's CARD OF 'laws.FnNames'. -/
def fnNamesUptoCard : Claim7 := { stood := { row := fnNamesUptoRow, standIns := [], harness := (true, "7d140b7e41f4ca773dd26c850179107fb8997a09e1a97041bae2cb66ee7de508"), looks := true }, kinds := [], alts := [], laidByText := true, laidKinds := [.data, .data, .data, .sentinel, .sentinel], laidTests := true, laidLooks := .later }
def FnNamesUptoCardSaid : Prop := Claim7.holds Tryd.pinned (.plain (OpenSpec.upto fnNamesSpec)) fnNamesUptoCard

/-- THE SECOND FORM's CARD OF 'laws.FnExactGuestLine'. -/
def fnExactGuestLineUptoCard : Claim7 := { stood := { row := fnExactGuestLineUptoRow, standIns := [], harness := (true, "7d140b7e41f4ca773dd26c850179107fb8997a09e1a97041bae2cb66ee7de508"), looks := true }, kinds := [], alts := [], laidByText := true, laidKinds := [.data, .data, .data], laidTests := true, laidLooks := .later }
def FnExactGuestLineUptoCardSaid : Prop := Claim7.holds Tryd.pinned (.plain (OpenSpec.upto fnExactGuestLineSpec)) fnExactGuestLineUptoCard

/-- THE SECOND FORM's CARD OF 'laws.FnExactReadIns'. -/
def fnExactReadInsUptoCard : Claim7 := { stood := { row := fnExactReadInsUptoRow, standIns := [], harness := (true, "7d140b7e41f4ca773dd26c850179107fb8997a09e1a97041bae2cb66ee7de508"), looks := true }, kinds := [], alts := [], laidByText := true, laidKinds := [.data, .data, .data, .sentinel, .sentinel], laidTests := true, laidLooks := .later }
def FnExactReadInsUptoCardSaid : Prop := Claim7.holds Tryd.pinned (.plain (OpenSpec.upto fnExactReadInsSpec)) fnExactReadInsUptoCard

/-- THE SECOND FORM's CARD OF 'laws.FnExactScriptOk'. -/
def fnExactScriptOkUptoCard : Claim7 := { stood := { row := fnExactScriptOkUptoRow, standIns := [], harness := (true, "7d140b7e41f4ca773dd26c850179107fb8997a09e1a97041bae2cb66ee7de508"), looks := true }, kinds := [], alts := [], laidByText := true, laidKinds := [.data, .data, .data], laidTests := true, laidLooks := .later }
def FnExactScriptOkUptoCardSaid : Prop := Claim7.holds Tryd.pinned (.plain (OpenSpec.upto fnExactScriptOkSpec)) fnExactScriptOkUptoCard

/-- THE SECOND FORM's CARD OF 'laws.FnExactReadAct'. -/
def fnExactReadActUptoCard : Claim7 := { stood := { row := fnExactReadActUptoRow, standIns := [], harness := (true, "7d140b7e41f4ca773dd26c850179107fb8997a09e1a97041bae2cb66ee7de508"), looks := true }, kinds := [], alts := [], laidByText := true, laidKinds := [.data, .data, .data, .sentinel, .sentinel], laidTests := true, laidLooks := .later }
def FnExactReadActUptoCardSaid : Prop := Claim7.holds Tryd.pinned (.plain (OpenSpec.upto fnExactReadActSpec)) fnExactReadActUptoCard

/-- THE SECOND FORM's CARD OF 'laws.FnShortScript'. -/
def fnShortScriptUptoCard : Claim7 := { stood := { row := fnShortScriptUptoRow, standIns := [], harness := (true, "7d140b7e41f4ca773dd26c850179107fb8997a09e1a97041bae2cb66ee7de508"), looks := true }, kinds := [], alts := [], laidByText := true, laidKinds := [.data, .data, .data, .data, .sentinel, .sentinel, .pinned], laidTests := true, laidLooks := .later }
def FnShortScriptUptoCardSaid : Prop := Claim7.holds Tryd.pinned (.plain (OpenSpec.upto fnShortScriptSpec)) fnShortScriptUptoCard

/-- THE SECOND FORM's CARD OF 'laws.FnTooMany'. -/
def fnTooManyUptoCard : Claim7 := { stood := { row := fnTooManyUptoRow, standIns := [], harness := (true, "7d140b7e41f4ca773dd26c850179107fb8997a09e1a97041bae2cb66ee7de508"), looks := true }, kinds := [], alts := [], laidByText := true, laidKinds := [.data, .data, .data, .data, .sentinel, .sentinel, .pinned], laidTests := true, laidLooks := .later }
def FnTooManyUptoCardSaid : Prop := Claim7.holds Tryd.pinned (.plain (OpenSpec.upto fnTooManySpec)) fnTooManyUptoCard
end Rows
end Go.Proofs.YtakfcjjmbjagiaaDoor
