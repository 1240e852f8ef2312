/-
  NARROWER THAN 'FOR EVERY INPUT', by the rows' own cells (each row's printed sentence says how): PartsBack: loops.
  DERIVED. THE GIVEN ROWS OF THIS SEAT. 3 by the template 'for every input the law returns true; each argument reads behind the call as it read before'; 0 by the template 'total and deterministic' (their statements: YtkodlakpjpmbiaaTotals.lean).
  GIVEN WITH THE SEED: the statements are not yours to turn. If you find one false, say at which input.
  Laid BY PROGRAM, IN A SANDBOX (cutbox-rows.mjs): the forced cells as the released guide's own fill.sh prints them over the translation 5d7f239a682620fb… (all of the seat's roots in one cut). By AI agents, Wed Nov 11 2026. No macro, syntax, notation, axiom, sorry.
-/
import Derived.Test.YtkodlakpjpmbiaaChecked
import GoSem.Claim
import GoSem.ClaimJoined
import GoSem.ClaimMapViews
import Derived.JoinedTies
import Derived.KernelRfl
namespace Go.Proofs.Ytkodlakpjpmbiaa
/- THE CELL 'sum', in the pinned program and in every row, IS THE sha256 OF THE DUMP (.gsa) THAT YtkodlakpjpmbiaaProg.lean LOADS. Nothing in Lean hashes anything: it is a label: what it is worth is what the hold of that sum in a sandbox is worth. -/
noncomputable def Try.pinned : Pinned := { name := "ytkodlakpjpmbiaa", sum := "5d7f239a682620fbc097439361594b2601b3dab1f729f6431d95ac3e70c3f18a", checked := Try.checked }
namespace Rows
def none {H : Type} : Left H := { results := [], args := [] }

/-- 'posthornlaw09.PartsBack': WHATEVER THE INPUT: true; the input reads as it did. -/
def partsBackSpec : ChangeSpec := { name := "partsBack", fn := fun _ => fun
  | [d] => { results := [.lit (.bool true)], args := [d] }
  | _ => none }
def partsBackRow : OpenClaim := { program := "ytkodlakpjpmbiaa", sum := "5d7f239a682620fbc097439361594b2601b3dab1f729f6431d95ac3e70c3f18a", func := "posthorn/posthornlaw09.PartsBack", spec := "partsBack", inPlace := ["internal/bytealg.IndexByteString", "internal/bytealg.IndexByte", "internal/bytealg.Index", "internal/bytealg.IndexString"], unfollowed := true, recurses := true, named := ["internal/bytealg.MaxLen"], loops := true, apart := false }
def PartsBackSaid : Prop := partsBackRow.holds Try.pinned (OpenSpec.ofChange partsBackSpec)

/-- ITS FALSE NEIGHBOUR: 'it returns false'. Refute it at one input. -/
def partsBackWrong : ChangeSpec := { name := "partsBack", fn := fun _ => fun
  | [d] => { results := [.lit (.bool false)], args := [d] }
  | _ => none }
def PartsBackWrongFalsely : Prop := partsBackRow.holds Try.pinned (OpenSpec.ofChange partsBackWrong)

/-- 'posthornlaw09.PartsAgain': WHATEVER THE INPUT: true; the input reads as it did. -/
def partsAgainSpec : ChangeSpec := { name := "partsAgain", fn := fun _ => fun
  | [d] => { results := [.lit (.bool true)], args := [d] }
  | _ => none }
def partsAgainRow : OpenClaim := { program := "ytkodlakpjpmbiaa", sum := "5d7f239a682620fbc097439361594b2601b3dab1f729f6431d95ac3e70c3f18a", func := "posthorn/posthornlaw09.PartsAgain", spec := "partsAgain", inPlace := ["internal/bytealg.IndexByteString", "internal/bytealg.IndexByte", "internal/bytealg.Index", "internal/bytealg.IndexString"], unfollowed := true, recurses := true, named := ["internal/bytealg.MaxLen"], apart := false }
def PartsAgainSaid : Prop := partsAgainRow.holds Try.pinned (OpenSpec.ofChange partsAgainSpec)

/-- ITS FALSE NEIGHBOUR: 'it returns false'. Refute it at one input. -/
def partsAgainWrong : ChangeSpec := { name := "partsAgain", fn := fun _ => fun
  | [d] => { results := [.lit (.bool false)], args := [d] }
  | _ => none }
def PartsAgainWrongFalsely : Prop := partsAgainRow.holds Try.pinned (OpenSpec.ofChange partsAgainWrong)

/-- 'posthornlaw09.PartsEncoded': WHATEVER THE INPUT: true; the input reads as it did. -/
def partsEncodedSpec : ChangeSpec := { name := "partsEncoded", fn := fun _ => fun
  | [d1, d2] => { results := [.lit (.bool true)], args := [d1, d2] }
  | _ => none }
def partsEncodedRow : OpenClaim := { program := "ytkodlakpjpmbiaa", sum := "5d7f239a682620fbc097439361594b2601b3dab1f729f6431d95ac3e70c3f18a", func := "posthorn/posthornlaw09.PartsEncoded", spec := "partsEncoded", inPlace := ["internal/bytealg.IndexByteString", "internal/bytealg.IndexByte", "internal/bytealg.Index", "internal/bytealg.IndexString", "internal/abi.NoEscape"], unfollowed := true, recurses := true, named := ["internal/bytealg.MaxLen"], apart := false }
def PartsEncodedSaid : Prop := partsEncodedRow.holds Try.pinned (OpenSpec.ofChange partsEncodedSpec)

/-- ITS FALSE NEIGHBOUR: 'it returns false'. Refute it at one input. -/
def partsEncodedWrong : ChangeSpec := { name := "partsEncoded", fn := fun _ => fun
  | [d1, d2] => { results := [.lit (.bool false)], args := [d1, d2] }
  | _ => none }
def PartsEncodedWrongFalsely : Prop := partsEncodedRow.holds Try.pinned (OpenSpec.ofChange partsEncodedWrong)

/- THE SECOND FORM. 'bulk': how many values and letters a reading holds, each counted each time it is reached (what is shared counts as often as it is met; a slice's spare places count too). A statement '..UptoSaid' is the law's where the arguments, and the package variables that the reading takes, are together of bulk at most 1048576: NARROWER than '..Said'. Prove '..Said' where nothing that the law and all that it calls make is longer than what came in: it says more and counts as full. Else prove '..UptoSaid'. A law counts once. -/
mutual
def uptoBulk {H : Type} : DataW H → Nat
  | .lit (.string bytes) => bytes.length + 1
  | .lit _ => 1
  | .nil => 1
  | .ptr d => uptoBulk d + 1
  | .slice elems spare => uptoBulkAll elems + uptoBulkAll spare + 1
  | .agg parts => uptoBulkAll parts + 1
  | .iface _ d => uptoBulk d + 1
  | .map entries => uptoBulkEntries entries + 1
  | .held _ => 1
def uptoBulkAll {H : Type} : List (DataW H) → Nat
  | [] => 0
  | d :: r => uptoBulk d + uptoBulkAll r
def uptoBulkEntries {H : Type} : List (Lit × DataW H) → Nat
  | [] => 0
  | x :: r => uptoBulkEntry x + uptoBulkEntries r
def uptoBulkEntry {H : Type} : Lit × DataW H → Nat
  | (.string bytes, d) => bytes.length + uptoBulk d + 1
  | (_, d) => uptoBulk d + 1
 end
def uptoSmall : (H : Type) → List (DataW H) → Bool := fun _ ds => decide (uptoBulkAll ds ≤ 1048576)
def OpenSpec.upto (s : _root_.Go.ChangeSpec) : _root_.Go.OpenSpec := { _root_.Go.OpenSpec.ofChange s with cond := some uptoSmall }

/-- 'posthornlaw09.PartsBack', WHERE WHAT IT READS IS OF BULK AT MOST 1048576: true; the input reads as it did. -/
def partsBackUptoRow : OpenClaim := { program := "ytkodlakpjpmbiaa", sum := "5d7f239a682620fbc097439361594b2601b3dab1f729f6431d95ac3e70c3f18a", func := "posthorn/posthornlaw09.PartsBack", spec := "partsBack", inPlace := ["internal/bytealg.IndexByteString", "internal/bytealg.IndexByte", "internal/bytealg.Index", "internal/bytealg.IndexString"], unfollowed := true, recurses := true, named := ["internal/bytealg.MaxLen"], loops := true, apart := false, narrowed := true }
def PartsBackUptoSaid : Prop := partsBackUptoRow.holds Try.pinned (OpenSpec.upto partsBackSpec)

/-- 'posthornlaw09.PartsAgain', WHERE WHAT IT READS IS OF BULK AT MOST 1048576: true; the input reads as it did. -/
def partsAgainUptoRow : OpenClaim := { program := "ytkodlakpjpmbiaa", sum := "5d7f239a682620fbc097439361594b2601b3dab1f729f6431d95ac3e70c3f18a", func := "posthorn/posthornlaw09.PartsAgain", spec := "partsAgain", inPlace := ["internal/bytealg.IndexByteString", "internal/bytealg.IndexByte", "internal/bytealg.Index", "internal/bytealg.IndexString"], unfollowed := true, recurses := true, named := ["internal/bytealg.MaxLen"], apart := false, narrowed := true }
def PartsAgainUptoSaid : Prop := partsAgainUptoRow.holds Try.pinned (OpenSpec.upto partsAgainSpec)

/-- 'posthornlaw09.PartsEncoded', WHERE WHAT IT READS IS OF BULK AT MOST 1048576: true; the input reads as it did. -/
def partsEncodedUptoRow : OpenClaim := { program := "ytkodlakpjpmbiaa", sum := "5d7f239a682620fbc097439361594b2601b3dab1f729f6431d95ac3e70c3f18a", func := "posthorn/posthornlaw09.PartsEncoded", spec := "partsEncoded", inPlace := ["internal/bytealg.IndexByteString", "internal/bytealg.IndexByte", "internal/bytealg.Index", "internal/bytealg.IndexString", "internal/abi.NoEscape"], unfollowed := true, recurses := true, named := ["internal/bytealg.MaxLen"], apart := false, narrowed := true }
def PartsEncodedUptoSaid : Prop := partsEncodedUptoRow.holds Try.pinned (OpenSpec.upto partsEncodedSpec)

end Rows
end Go.Proofs.Ytkodlakpjpmbiaa
