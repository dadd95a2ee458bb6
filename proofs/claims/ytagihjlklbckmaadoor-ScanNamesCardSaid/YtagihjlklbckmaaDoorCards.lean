/-
  DERIVED. GIVEN WITH THE SEED: THE CARDS: each row of YtagihjlklbckmaaDoorRows.lean that lists a variable, with what it lists TIED to the program's text (the seventh form; the later family's looks); each row that meets fmt, with fmt's text TOLD by the authors' own Lean function (tested against real Go, not proved from fmt's source: count such statements apart). THE CARD IS WHAT COUNTS. Prove the row's statement (the work); the ties are given (YtagihjlklbckmaaDoorTie.lean); close each card by the builder's one call (the guide's Derived/Test/ToyasCard.lean, 'card_holds'). Laid BY PROGRAM, IN A SANDBOX (cutbox-door.mjs). By AI agents, Wed Nov 11 2026. No macro, syntax, notation, axiom, sorry.
-/
import Derived.Test.YtagihjlklbckmaaDoorRows
import GoSem.ClaimSeven
namespace Go.Proofs.YtagihjlklbckmaaDoor
namespace Rows

/-- THE TIED CARD OF 'breviarylaw06.ScanLines'. -/
def scanLinesCard : Claim7 := { stood := { row := scanLinesRow, standIns := [], harness := (true, "a1196f523eefa9cf18d84410fed22dcf8dd3ef538490f3165c3ae79a84cea678"), looks := true }, kinds := [], alts := [], laidByText := true, laidKinds := [.data, .data, .data, .pinned, .pinned], laidTests := true, laidLooks := .later }
def ScanLinesCardSaid : Prop := Claim7.holds Tryd.pinned (.plain (OpenSpec.ofChange scanLinesSpec)) scanLinesCard

/-- THE TIED CARD OF 'breviarylaw06.ScanPlain'. -/
def scanPlainCard : Claim7 := { stood := { row := scanPlainRow, standIns := [], harness := (true, "a1196f523eefa9cf18d84410fed22dcf8dd3ef538490f3165c3ae79a84cea678"), looks := true }, kinds := [], alts := [], laidByText := true, laidKinds := [.data, .data, .data, .pinned, .pinned], laidTests := true, laidLooks := .later }
def ScanPlainCardSaid : Prop := Claim7.holds Tryd.pinned (.plain (OpenSpec.ofChange scanPlainSpec)) scanPlainCard

/-- THE TIED CARD OF 'breviarylaw06.ScanNames'. -/
def scanNamesCard : Claim7 := { stood := { row := scanNamesRow, standIns := [], harness := (true, "a1196f523eefa9cf18d84410fed22dcf8dd3ef538490f3165c3ae79a84cea678"), looks := true }, kinds := [], alts := [], laidByText := true, laidKinds := [.data, .data, .data, .pinned, .pinned], laidTests := true, laidLooks := .later }
def ScanNamesCardSaid : Prop := Claim7.holds Tryd.pinned (.plain (OpenSpec.ofChange scanNamesSpec)) scanNamesCard

/-- THE SECOND FORM's CARD OF 'breviarylaw06.ScanLines'. -/
def scanLinesUptoCard : Claim7 := { stood := { row := scanLinesUptoRow, standIns := [], harness := (true, "a1196f523eefa9cf18d84410fed22dcf8dd3ef538490f3165c3ae79a84cea678"), looks := true }, kinds := [], alts := [], laidByText := true, laidKinds := [.data, .data, .data, .pinned, .pinned], laidTests := true, laidLooks := .later }
def ScanLinesUptoCardSaid : Prop := Claim7.holds Tryd.pinned (.plain (OpenSpec.upto scanLinesSpec)) scanLinesUptoCard

/-- THE SECOND FORM's CARD OF 'breviarylaw06.ScanPlain'. -/
def scanPlainUptoCard : Claim7 := { stood := { row := scanPlainUptoRow, standIns := [], harness := (true, "a1196f523eefa9cf18d84410fed22dcf8dd3ef538490f3165c3ae79a84cea678"), looks := true }, kinds := [], alts := [], laidByText := true, laidKinds := [.data, .data, .data, .pinned, .pinned], laidTests := true, laidLooks := .later }
def ScanPlainUptoCardSaid : Prop := Claim7.holds Tryd.pinned (.plain (OpenSpec.upto scanPlainSpec)) scanPlainUptoCard

/-- THE SECOND FORM's CARD OF 'breviarylaw06.ScanNames'. -/
def scanNamesUptoCard : Claim7 := { stood := { row := scanNamesUptoRow, standIns := [], harness := (true, "a1196f523eefa9cf18d84410fed22dcf8dd3ef538490f3165c3ae79a84cea678"), looks := true }, kinds := [], alts := [], laidByText := true, laidKinds := [.data, .data, .data, .pinned, .pinned], laidTests := true, laidLooks := .later }
def ScanNamesUptoCardSaid : Prop := Claim7.holds Tryd.pinned (.plain (OpenSpec.upto scanNamesSpec)) scanNamesUptoCard
end Rows
end Go.Proofs.YtagihjlklbckmaaDoor
