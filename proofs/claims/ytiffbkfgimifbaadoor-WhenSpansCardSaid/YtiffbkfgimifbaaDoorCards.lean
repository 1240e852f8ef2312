/-
  DERIVED. GIVEN WITH THE SEED: THE CARDS: each row of YtiffbkfgimifbaaDoorRows.lean that lists a variable, with what it lists TIED to the program's text (the seventh form; the later family's looks); each row that meets fmt, with fmt's text TOLD by the authors' own Lean function (tested against real Go, not proved from fmt's source: count such statements apart). THE CARD IS WHAT COUNTS. Prove the row's statement (the work); the ties are given (YtiffbkfgimifbaaDoorTie.lean); close each card by the builder's one call (the guide's Derived/Test/ToyasCard.lean, 'card_holds'). Laid BY PROGRAM, IN A SANDBOX (cutbox-door.mjs). By AI agents, Wed Nov 11 2026. No macro, syntax, notation, axiom, sorry.
-/
import Derived.Test.YtiffbkfgimifbaaDoorRows
import GoSem.ClaimSeven
namespace Go.Proofs.YtiffbkfgimifbaaDoor
namespace Rows

/-- THE TIED CARD OF 'posthornlaw12.WhenDays'. -/
def whenDaysCard : Claim7 := { stood := { row := whenDaysRow, standIns := [], harness := (true, "33e21fe398b59a636a8b2cf38f0a4c7b02e9c7e6dc270e46dc5e0fdad423f876"), looks := false }, kinds := [], alts := [], laidByText := true, laidKinds := [.data, .data, .data], laidTests := true, laidLooks := .later }
def WhenDaysCardSaid : Prop := Claim7.holds Tryd.pinned (.plain (OpenSpec.ofChange whenDaysSpec)) whenDaysCard

/-- THE TIED CARD OF 'posthornlaw12.WhenTimes'. -/
def whenTimesCard : Claim7 := { stood := { row := whenTimesRow, standIns := [], harness := (true, "33e21fe398b59a636a8b2cf38f0a4c7b02e9c7e6dc270e46dc5e0fdad423f876"), looks := false }, kinds := [], alts := [], laidByText := true, laidKinds := [.data, .data, .data], laidTests := true, laidLooks := .later }
def WhenTimesCardSaid : Prop := Claim7.holds Tryd.pinned (.plain (OpenSpec.ofChange whenTimesSpec)) whenTimesCard

/-- THE TIED CARD OF 'posthornlaw12.WhenNext'. -/
def whenNextCard : Claim7 := { stood := { row := whenNextRow, standIns := [], harness := (true, "33e21fe398b59a636a8b2cf38f0a4c7b02e9c7e6dc270e46dc5e0fdad423f876"), looks := false }, kinds := [], alts := [], laidByText := true, laidKinds := [.data, .data, .data], laidTests := true, laidLooks := .later }
def WhenNextCardSaid : Prop := Claim7.holds Tryd.pinned (.plain (OpenSpec.ofChange whenNextSpec)) whenNextCard

/-- THE TIED CARD OF 'posthornlaw12.WhenOrder'. -/
def whenOrderCard : Claim7 := { stood := { row := whenOrderRow, standIns := [], harness := (true, "33e21fe398b59a636a8b2cf38f0a4c7b02e9c7e6dc270e46dc5e0fdad423f876"), looks := false }, kinds := [], alts := [], laidByText := true, laidKinds := [.data, .data, .data], laidTests := true, laidLooks := .later }
def WhenOrderCardSaid : Prop := Claim7.holds Tryd.pinned (.plain (OpenSpec.ofChange whenOrderSpec)) whenOrderCard

/-- THE TIED CARD OF 'posthornlaw12.WhenSpans'. -/
def whenSpansCard : Claim7 := { stood := { row := whenSpansRow, standIns := [], harness := (true, "33e21fe398b59a636a8b2cf38f0a4c7b02e9c7e6dc270e46dc5e0fdad423f876"), looks := false }, kinds := [], alts := [], laidByText := true, laidKinds := [.data, .data, .data], laidTests := true, laidLooks := .later }
def WhenSpansCardSaid : Prop := Claim7.holds Tryd.pinned (.plain (OpenSpec.ofChange whenSpansSpec)) whenSpansCard

/-- THE TIED CARD OF 'posthornlaw12.WhenBack'. -/
def whenBackCard : Claim7 := { stood := { row := whenBackRow, standIns := [], harness := (true, "33e21fe398b59a636a8b2cf38f0a4c7b02e9c7e6dc270e46dc5e0fdad423f876"), looks := false }, kinds := [], alts := [], laidByText := true, laidKinds := [.data, .data, .data], laidTests := true, laidLooks := .later }
def WhenBackCardSaid : Prop := Claim7.holds Tryd.pinned (.plain (OpenSpec.ofChange whenBackSpec)) whenBackCard

/-- THE TIED CARD OF 'posthornlaw12.WhenAgain'. -/
def whenAgainCard : Claim7 := { stood := { row := whenAgainRow, standIns := [], harness := (true, "33e21fe398b59a636a8b2cf38f0a4c7b02e9c7e6dc270e46dc5e0fdad423f876"), looks := false }, kinds := [], alts := [], laidByText := true, laidKinds := [.data, .data, .data], laidTests := true, laidLooks := .later }
def WhenAgainCardSaid : Prop := Claim7.holds Tryd.pinned (.plain (OpenSpec.ofChange whenAgainSpec)) whenAgainCard

/-- THE SECOND FORM's CARD OF 'posthornlaw12.WhenDays'. -/
def whenDaysUptoCard : Claim7 := { stood := { row := whenDaysUptoRow, standIns := [], harness := (true, "33e21fe398b59a636a8b2cf38f0a4c7b02e9c7e6dc270e46dc5e0fdad423f876"), looks := false }, kinds := [], alts := [], laidByText := true, laidKinds := [.data, .data, .data], laidTests := true, laidLooks := .later }
def WhenDaysUptoCardSaid : Prop := Claim7.holds Tryd.pinned (.plain (OpenSpec.upto whenDaysSpec)) whenDaysUptoCard

/-- THE SECOND FORM's CARD OF 'posthornlaw12.WhenTimes'. -/
def whenTimesUptoCard : Claim7 := { stood := { row := whenTimesUptoRow, standIns := [], harness := (true, "33e21fe398b59a636a8b2cf38f0a4c7b02e9c7e6dc270e46dc5e0fdad423f876"), looks := false }, kinds := [], alts := [], laidByText := true, laidKinds := [.data, .data, .data], laidTests := true, laidLooks := .later }
def WhenTimesUptoCardSaid : Prop := Claim7.holds Tryd.pinned (.plain (OpenSpec.upto whenTimesSpec)) whenTimesUptoCard

/-- THE SECOND FORM's CARD OF 'posthornlaw12.WhenNext'. -/
def whenNextUptoCard : Claim7 := { stood := { row := whenNextUptoRow, standIns := [], harness := (true, "33e21fe398b59a636a8b2cf38f0a4c7b02e9c7e6dc270e46dc5e0fdad423f876"), looks := false }, kinds := [], alts := [], laidByText := true, laidKinds := [.data, .data, .data], laidTests := true, laidLooks := .later }
def WhenNextUptoCardSaid : Prop := Claim7.holds Tryd.pinned (.plain (OpenSpec.upto whenNextSpec)) whenNextUptoCard

/-- THE SECOND FORM's CARD OF 'posthornlaw12.WhenOrder'. -/
def whenOrderUptoCard : Claim7 := { stood := { row := whenOrderUptoRow, standIns := [], harness := (true, "33e21fe398b59a636a8b2cf38f0a4c7b02e9c7e6dc270e46dc5e0fdad423f876"), looks := false }, kinds := [], alts := [], laidByText := true, laidKinds := [.data, .data, .data], laidTests := true, laidLooks := .later }
def WhenOrderUptoCardSaid : Prop := Claim7.holds Tryd.pinned (.plain (OpenSpec.upto whenOrderSpec)) whenOrderUptoCard

/-- THE SECOND FORM's CARD OF 'posthornlaw12.WhenSpans'. -/
def whenSpansUptoCard : Claim7 := { stood := { row := whenSpansUptoRow, standIns := [], harness := (true, "33e21fe398b59a636a8b2cf38f0a4c7b02e9c7e6dc270e46dc5e0fdad423f876"), looks := false }, kinds := [], alts := [], laidByText := true, laidKinds := [.data, .data, .data], laidTests := true, laidLooks := .later }
def WhenSpansUptoCardSaid : Prop := Claim7.holds Tryd.pinned (.plain (OpenSpec.upto whenSpansSpec)) whenSpansUptoCard

/-- THE SECOND FORM's CARD OF 'posthornlaw12.WhenBack'. -/
def whenBackUptoCard : Claim7 := { stood := { row := whenBackUptoRow, standIns := [], harness := (true, "33e21fe398b59a636a8b2cf38f0a4c7b02e9c7e6dc270e46dc5e0fdad423f876"), looks := false }, kinds := [], alts := [], laidByText := true, laidKinds := [.data, .data, .data], laidTests := true, laidLooks := .later }
def WhenBackUptoCardSaid : Prop := Claim7.holds Tryd.pinned (.plain (OpenSpec.upto whenBackSpec)) whenBackUptoCard

/-- THE SECOND FORM's CARD OF 'posthornlaw12.WhenAgain'. -/
def whenAgainUptoCard : Claim7 := { stood := { row := whenAgainUptoRow, standIns := [], harness := (true, "33e21fe398b59a636a8b2cf38f0a4c7b02e9c7e6dc270e46dc5e0fdad423f876"), looks := false }, kinds := [], alts := [], laidByText := true, laidKinds := [.data, .data, .data], laidTests := true, laidLooks := .later }
def WhenAgainUptoCardSaid : Prop := Claim7.holds Tryd.pinned (.plain (OpenSpec.upto whenAgainSpec)) whenAgainUptoCard
end Rows
end Go.Proofs.YtiffbkfgimifbaaDoor
