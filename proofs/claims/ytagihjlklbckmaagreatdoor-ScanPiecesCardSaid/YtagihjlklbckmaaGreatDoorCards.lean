/-
  DERIVED. GIVEN WITH THE SEED: THE CARDS: each row of YtagihjlklbckmaaGreatDoorRows.lean that lists a variable, with what it lists TIED to the program's text (the seventh form; the later family's looks); each row that meets fmt, with fmt's text TOLD by the authors' own Lean function (tested against real Go, not proved from fmt's source: count such statements apart). THE CARD IS WHAT COUNTS. Prove the row's statement (the work); the ties are given (YtagihjlklbckmaaGreatDoorTie.lean); close each card by the builder's one call (the guide's Derived/Test/ToyasCard.lean, 'card_holds'). Laid BY PROGRAM, IN A SANDBOX (cutbox-door.mjs). By AI agents, Wed Nov 11 2026. No macro, syntax, notation, axiom, sorry.
-/
import Derived.Test.YtagihjlklbckmaaGreatDoorRows
import GoSem.ClaimSeven
namespace Go.Proofs.YtagihjlklbckmaaGreatDoor
namespace Rows

/-- THE TIED CARD OF 'breviarylaw06.ScanPieces'. -/
def scanPiecesCard : Claim7 := { stood := { row := scanPiecesRow, standIns := [], harness := (true, "efc4ce4d5c4374e67d5122ffdcd00932080314a0cd09471ff8bb80d344d23ed0"), looks := true }, kinds := [], alts := [], laidByText := true, laidKinds := [.data, .data, .data, .pinned, .pinned], laidTests := true, laidLooks := .later }
def ScanPiecesCardSaid : Prop := Claim7.holds Tryz.pinned (.plain (OpenSpec.ofChange scanPiecesSpec)) scanPiecesCard

/-- THE SECOND FORM's CARD OF 'breviarylaw06.ScanPieces'. -/
def scanPiecesUptoCard : Claim7 := { stood := { row := scanPiecesUptoRow, standIns := [], harness := (true, "efc4ce4d5c4374e67d5122ffdcd00932080314a0cd09471ff8bb80d344d23ed0"), looks := true }, kinds := [], alts := [], laidByText := true, laidKinds := [.data, .data, .data, .pinned, .pinned], laidTests := true, laidLooks := .later }
def ScanPiecesUptoCardSaid : Prop := Claim7.holds Tryz.pinned (.plain (OpenSpec.upto scanPiecesSpec)) scanPiecesUptoCard
end Rows
end Go.Proofs.YtagihjlklbckmaaGreatDoor
