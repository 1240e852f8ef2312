/-
  DERIVED. GIVEN WITH THE SEED: THE CARDS: each row of YtkodlakpjpmbiaaGreatDoorRows.lean that lists a variable, with what it lists TIED to the program's text (the seventh form; the later family's looks); each row that meets fmt, with fmt's text TOLD by the authors' own Lean function (tested against real Go, not proved from fmt's source: count such statements apart). THE CARD IS WHAT COUNTS. Prove the row's statement (the work); the ties are given (YtkodlakpjpmbiaaGreatDoorTie.lean); close each card by the builder's one call (the guide's Derived/Test/ToyasCard.lean, 'card_holds'). Laid BY PROGRAM, IN A SANDBOX (cutbox-door.mjs). By AI agents, Wed Nov 11 2026. No macro, syntax, notation, axiom, sorry.
-/
import Derived.Test.YtkodlakpjpmbiaaGreatDoorRows
import GoSem.ClaimSeven
namespace Go.Proofs.YtkodlakpjpmbiaaGreatDoor
namespace Rows

/-- THE TIED CARD OF 'posthornlaw09.PartsContents'. -/
def partsContentsCard : Claim7 := { stood := { row := partsContentsRow, standIns := [], harness := (true, "e469bafefe2e38c74db79cf2cf8ddb8feead951d08565b49235ae3ca4d9e68b1"), looks := false }, kinds := [], alts := [], laidByText := true, laidKinds := [.data, .data, .data], laidTests := true, laidLooks := .later }
def PartsContentsCardSaid : Prop := Claim7.holds Tryz.pinned (.plain (OpenSpec.ofChange partsContentsSpec)) partsContentsCard

/-- THE SECOND FORM's CARD OF 'posthornlaw09.PartsContents'. -/
def partsContentsUptoCard : Claim7 := { stood := { row := partsContentsUptoRow, standIns := [], harness := (true, "e469bafefe2e38c74db79cf2cf8ddb8feead951d08565b49235ae3ca4d9e68b1"), looks := false }, kinds := [], alts := [], laidByText := true, laidKinds := [.data, .data, .data], laidTests := true, laidLooks := .later }
def PartsContentsUptoCardSaid : Prop := Claim7.holds Tryz.pinned (.plain (OpenSpec.upto partsContentsSpec)) partsContentsUptoCard
end Rows
end Go.Proofs.YtkodlakpjpmbiaaGreatDoor
