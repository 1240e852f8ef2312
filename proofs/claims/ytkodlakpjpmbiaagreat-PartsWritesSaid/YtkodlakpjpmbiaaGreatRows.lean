/-
  NARROWER THAN 'FOR EVERY INPUT', by the rows' own cells (each row's printed sentence says how): PartsWrites: loops.
  DERIVED. THE GIVEN ROWS OF THIS SEAT. 2 by the template 'for every input the law returns true; each argument reads behind the call as it read before'; 0 by the template 'total and deterministic' (their statements: YtkodlakpjpmbiaaGreatTotals.lean).
  GIVEN WITH THE SEED: the statements are not yours to turn. If you find one false, say at which input.
  Laid BY PROGRAM, IN A SANDBOX (cutbox-rows.mjs): the forced cells as the released guide's own fill.sh prints them over the translation ead5fed84bd0f753… (all of the seat's roots in one cut). By AI agents, Wed Nov 11 2026. No macro, syntax, notation, axiom, sorry.
-/
import Derived.Test.YtkodlakpjpmbiaaGreatChecked
import GoSem.Claim
import GoSem.ClaimJoined
import GoSem.ClaimMapViews
import Derived.JoinedTies
import Derived.KernelRfl
namespace Go.Proofs.YtkodlakpjpmbiaaGreat
/- THE CELL 'sum', in the pinned program and in every row, IS THE sha256 OF THE DUMP (.gsa) THAT YtkodlakpjpmbiaaGreatProg.lean LOADS. Nothing in Lean hashes anything: it is a label: what it is worth is what the hold of that sum in a sandbox is worth. -/
noncomputable def Tryz.pinned : Pinned := { name := "ytkodlakpjpmbiaagreat", sum := "ead5fed84bd0f7531221fcfe9631f555e988a12f9b0489b10e34fcfd51b2b0fb", checked := Tryz.checked }
namespace Rows
def none {H : Type} : Left H := { results := [], args := [] }

/-- 'posthornlaw09.PartsParses': WHATEVER THE INPUT: true; the input reads as it did. -/
def partsParsesSpec : ChangeSpec := { name := "partsParses", fn := fun _ => fun
  | [d] => { results := [.lit (.bool true)], args := [d] }
  | _ => none }
def partsParsesRow : OpenClaim := { program := "ytkodlakpjpmbiaagreat", sum := "ead5fed84bd0f7531221fcfe9631f555e988a12f9b0489b10e34fcfd51b2b0fb", func := "posthorn/posthornlaw09.PartsParses", spec := "partsParses", inPlace := ["internal/bytealg.IndexByteString", "internal/bytealg.IndexByte", "internal/bytealg.Index", "internal/bytealg.IndexString"], unfollowed := true, recurses := true, named := ["internal/bytealg.MaxLen"], apart := false }
def PartsParsesSaid : Prop := partsParsesRow.holds Tryz.pinned (OpenSpec.ofChange partsParsesSpec)

/-- ITS FALSE NEIGHBOUR: 'it returns false'. Refute it at one input. -/
def partsParsesWrong : ChangeSpec := { name := "partsParses", fn := fun _ => fun
  | [d] => { results := [.lit (.bool false)], args := [d] }
  | _ => none }
def PartsParsesWrongFalsely : Prop := partsParsesRow.holds Tryz.pinned (OpenSpec.ofChange partsParsesWrong)

/-- 'posthornlaw09.PartsWrites': WHATEVER THE INPUT: true; the input reads as it did. -/
def partsWritesSpec : ChangeSpec := { name := "partsWrites", fn := fun _ => fun
  | [d] => { results := [.lit (.bool true)], args := [d] }
  | _ => none }
def partsWritesRow : OpenClaim := { program := "ytkodlakpjpmbiaagreat", sum := "ead5fed84bd0f7531221fcfe9631f555e988a12f9b0489b10e34fcfd51b2b0fb", func := "posthorn/posthornlaw09.PartsWrites", spec := "partsWrites", inPlace := ["internal/bytealg.IndexByteString", "internal/bytealg.IndexByte", "internal/bytealg.Index", "internal/bytealg.IndexString"], unfollowed := true, recurses := true, named := ["internal/bytealg.MaxLen"], loops := true, apart := false }
def PartsWritesSaid : Prop := partsWritesRow.holds Tryz.pinned (OpenSpec.ofChange partsWritesSpec)

/-- ITS FALSE NEIGHBOUR: 'it returns false'. Refute it at one input. -/
def partsWritesWrong : ChangeSpec := { name := "partsWrites", fn := fun _ => fun
  | [d] => { results := [.lit (.bool false)], args := [d] }
  | _ => none }
def PartsWritesWrongFalsely : Prop := partsWritesRow.holds Tryz.pinned (OpenSpec.ofChange partsWritesWrong)

/- THE SECOND FORM. 'bulk': how many values and letters a reading holds, each counted each time it is reached (what is shared counts as often as it is met; a slice's spare places count too). A statement '..UptoSaid' is the law's where the arguments, and the package variables that the reading takes, are together of bulk at most 1048576: NARROWER than '..Said'. Prove '..Said' where nothing that the law and all that it calls make is longer than what came in: it says more and counts as full. Else prove '..UptoSaid'. A law counts once. -/
mutual
def uptoBulk {H : Type} : DataW H → Nat
  | .lit (.string bytes) => bytes.length + 1
  | .lit _ => 1
  | .nil => 1
  | .ptr d => uptoBulk d + 1
  | .slice elems spare => uptoBulkAll elems + uptoBulkAll spare + 1
  | .agg parts => uptoBulkAll parts + 1
  | .iface _ d => uptoBulk d + 1
  | .map entries => uptoBulkEntries entries + 1
  | .held _ => 1
def uptoBulkAll {H : Type} : List (DataW H) → Nat
  | [] => 0
  | d :: r => uptoBulk d + uptoBulkAll r
def uptoBulkEntries {H : Type} : List (Lit × DataW H) → Nat
  | [] => 0
  | x :: r => uptoBulkEntry x + uptoBulkEntries r
def uptoBulkEntry {H : Type} : Lit × DataW H → Nat
  | (.string bytes, d) => bytes.length + uptoBulk d + 1
  | (_, d) => uptoBulk d + 1
 end
def uptoSmall : (H : Type) → List (DataW H) → Bool := fun _ ds => decide (uptoBulkAll ds ≤ 1048576)
def OpenSpec.upto (s : _root_.Go.ChangeSpec) : _root_.Go.OpenSpec := { _root_.Go.OpenSpec.ofChange s with cond := some uptoSmall }

/-- 'posthornlaw09.PartsParses', WHERE WHAT IT READS IS OF BULK AT MOST 1048576: true; the input reads as it did. -/
def partsParsesUptoRow : OpenClaim := { program := "ytkodlakpjpmbiaagreat", sum := "ead5fed84bd0f7531221fcfe9631f555e988a12f9b0489b10e34fcfd51b2b0fb", func := "posthorn/posthornlaw09.PartsParses", spec := "partsParses", inPlace := ["internal/bytealg.IndexByteString", "internal/bytealg.IndexByte", "internal/bytealg.Index", "internal/bytealg.IndexString"], unfollowed := true, recurses := true, named := ["internal/bytealg.MaxLen"], apart := false, narrowed := true }
def PartsParsesUptoSaid : Prop := partsParsesUptoRow.holds Tryz.pinned (OpenSpec.upto partsParsesSpec)

/-- 'posthornlaw09.PartsWrites', WHERE WHAT IT READS IS OF BULK AT MOST 1048576: true; the input reads as it did. -/
def partsWritesUptoRow : OpenClaim := { program := "ytkodlakpjpmbiaagreat", sum := "ead5fed84bd0f7531221fcfe9631f555e988a12f9b0489b10e34fcfd51b2b0fb", func := "posthorn/posthornlaw09.PartsWrites", spec := "partsWrites", inPlace := ["internal/bytealg.IndexByteString", "internal/bytealg.IndexByte", "internal/bytealg.Index", "internal/bytealg.IndexString"], unfollowed := true, recurses := true, named := ["internal/bytealg.MaxLen"], loops := true, apart := false, narrowed := true }
def PartsWritesUptoSaid : Prop := partsWritesUptoRow.holds Tryz.pinned (OpenSpec.upto partsWritesSpec)

end Rows
end Go.Proofs.YtkodlakpjpmbiaaGreat
