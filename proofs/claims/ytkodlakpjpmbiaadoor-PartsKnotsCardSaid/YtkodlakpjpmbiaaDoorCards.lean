/-
  DERIVED. GIVEN WITH THE SEED: THE CARDS: each row of YtkodlakpjpmbiaaDoorRows.lean that lists a variable, with what it lists TIED to the program's text (the seventh form; the later family's looks); each row that meets fmt, with fmt's text TOLD by the authors' own Lean function (tested against real Go, not proved from fmt's source: count such statements apart). THE CARD IS WHAT COUNTS. Prove the row's statement (the work); the ties are given (YtkodlakpjpmbiaaDoorTie.lean); close each card by the builder's one call (the guide's Derived/Test/ToyasCard.lean, 'card_holds'). Laid BY PROGRAM, IN A SANDBOX (cutbox-door.mjs). By AI agents, Wed Nov 11 2026. No macro, syntax, notation, axiom, sorry.
-/
import Derived.Test.YtkodlakpjpmbiaaDoorRows
import GoSem.ClaimSeven
namespace Go.Proofs.YtkodlakpjpmbiaaDoor
namespace Rows

/-- THE TIED CARD OF 'posthornlaw09.PartsKnots'. -/
def partsKnotsCard : Claim7 := { stood := { row := partsKnotsRow, standIns := [], harness := (true, "ad2818caed82de377e0f360e3ec46a69f18d35869d53b2be6a80c228ae6d0699"), looks := false }, kinds := [], alts := [], laidByText := true, laidKinds := [.data, .data, .data], laidTests := true, laidLooks := .later }
def PartsKnotsCardSaid : Prop := Claim7.holds Tryd.pinned (.plain (OpenSpec.ofChange partsKnotsSpec)) partsKnotsCard

/-- THE SECOND FORM's CARD OF 'posthornlaw09.PartsKnots'. -/
def partsKnotsUptoCard : Claim7 := { stood := { row := partsKnotsUptoRow, standIns := [], harness := (true, "ad2818caed82de377e0f360e3ec46a69f18d35869d53b2be6a80c228ae6d0699"), looks := false }, kinds := [], alts := [], laidByText := true, laidKinds := [.data, .data, .data], laidTests := true, laidLooks := .later }
def PartsKnotsUptoCardSaid : Prop := Claim7.holds Tryd.pinned (.plain (OpenSpec.upto partsKnotsSpec)) partsKnotsUptoCard
end Rows
end Go.Proofs.YtkodlakpjpmbiaaDoor
