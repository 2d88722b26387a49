/-
  No cell of these rows narrows 'for every input' (looked for: loops, veiled, ifaces, maps, wideKeys, modest, calm, conditions, laid).
  DERIVED. THE GIVEN ROWS OF THIS SEAT. 7 by the template 'for every input the law returns true; each argument reads behind the call as it read before'; 0 by the template 'total and deterministic' (their statements: YtfdndkempgnlcaaTotals.lean).
  GIVEN WITH THE SEED: the statements are not yours to turn. If you find one false, say at which input.
  Laid BY PROGRAM, IN A SANDBOX (cutbox-rows.mjs): the forced cells as the released guide's own fill.sh prints them over the translation 7c126091f89555c2… (all of the seat's roots in one cut). By AI agents, Wed Nov 11 2026. No macro, syntax, notation, axiom, sorry.
-/
import Derived.Test.YtfdndkempgnlcaaChecked
import GoSem.Claim
import GoSem.ClaimJoined
import GoSem.ClaimMapViews
import Derived.JoinedTies
import Derived.KernelRfl
namespace Go.Proofs.Ytfdndkempgnlcaa
/- THE CELL 'sum', in the pinned program and in every row, IS THE sha256 OF THE DUMP (.gsa) THAT YtfdndkempgnlcaaProg.lean LOADS. Nothing in Lean hashes anything: it is a label: what it is worth is what the hold of that sum in a sandbox is worth. -/
noncomputable def Try.pinned : Pinned := { name := "ytfdndkempgnlcaa", sum := "7c126091f89555c21c3d50ddc7a16b1d10181aae637b63bd5338cc6b1e060472", checked := Try.checked }
namespace Rows
def none {H : Type} : Left H := { results := [], args := [] }

/-- 'casematelaw06.BytesRow': WHATEVER THE INPUT: true; the input reads as it did. -/
def bytesRowSpec : ChangeSpec := { name := "bytesRow", fn := fun _ => fun
  | [d1, d2, d3] => { results := [.lit (.bool true)], args := [d1, d2, d3] }
  | _ => none }
def bytesRowRow : OpenClaim := { program := "ytfdndkempgnlcaa", sum := "7c126091f89555c21c3d50ddc7a16b1d10181aae637b63bd5338cc6b1e060472", func := "casemate/casematelaw06.BytesRow", spec := "bytesRow", apart := false }
def BytesRowSaid : Prop := bytesRowRow.holds Try.pinned (OpenSpec.ofChange bytesRowSpec)

/-- ITS FALSE NEIGHBOUR: 'it returns false'. Refute it at one input. -/
def bytesRowWrong : ChangeSpec := { name := "bytesRow", fn := fun _ => fun
  | [d1, d2, d3] => { results := [.lit (.bool false)], args := [d1, d2, d3] }
  | _ => none }
def BytesRowWrongFalsely : Prop := bytesRowRow.holds Try.pinned (OpenSpec.ofChange bytesRowWrong)

/-- 'casematelaw06.BytesApart': WHATEVER THE INPUT: true; the input reads as it did. -/
def bytesApartSpec : ChangeSpec := { name := "bytesApart", fn := fun _ => fun
  | [d1, d2, d3] => { results := [.lit (.bool true)], args := [d1, d2, d3] }
  | _ => none }
def bytesApartRow : OpenClaim := { program := "ytfdndkempgnlcaa", sum := "7c126091f89555c21c3d50ddc7a16b1d10181aae637b63bd5338cc6b1e060472", func := "casemate/casematelaw06.BytesApart", spec := "bytesApart", apart := false }
def BytesApartSaid : Prop := bytesApartRow.holds Try.pinned (OpenSpec.ofChange bytesApartSpec)

/-- ITS FALSE NEIGHBOUR: 'it returns false'. Refute it at one input. -/
def bytesApartWrong : ChangeSpec := { name := "bytesApart", fn := fun _ => fun
  | [d1, d2, d3] => { results := [.lit (.bool false)], args := [d1, d2, d3] }
  | _ => none }
def BytesApartWrongFalsely : Prop := bytesApartRow.holds Try.pinned (OpenSpec.ofChange bytesApartWrong)

/-- 'casematelaw06.BytesNum': WHATEVER THE INPUT: true; the input reads as it did. -/
def bytesNumSpec : ChangeSpec := { name := "bytesNum", fn := fun _ => fun
  | [d1, d2] => { results := [.lit (.bool true)], args := [d1, d2] }
  | _ => none }
def bytesNumRow : OpenClaim := { program := "ytfdndkempgnlcaa", sum := "7c126091f89555c21c3d50ddc7a16b1d10181aae637b63bd5338cc6b1e060472", func := "casemate/casematelaw06.BytesNum", spec := "bytesNum", apart := false }
def BytesNumSaid : Prop := bytesNumRow.holds Try.pinned (OpenSpec.ofChange bytesNumSpec)

/-- ITS FALSE NEIGHBOUR: 'it returns false'. Refute it at one input. -/
def bytesNumWrong : ChangeSpec := { name := "bytesNum", fn := fun _ => fun
  | [d1, d2] => { results := [.lit (.bool false)], args := [d1, d2] }
  | _ => none }
def BytesNumWrongFalsely : Prop := bytesNumRow.holds Try.pinned (OpenSpec.ofChange bytesNumWrong)

/-- 'casematelaw06.BytesOwn': WHATEVER THE INPUT: true; the input reads as it did. -/
def bytesOwnSpec : ChangeSpec := { name := "bytesOwn", fn := fun _ => fun
  | [d] => { results := [.lit (.bool true)], args := [d] }
  | _ => none }
def bytesOwnRow : OpenClaim := { program := "ytfdndkempgnlcaa", sum := "7c126091f89555c21c3d50ddc7a16b1d10181aae637b63bd5338cc6b1e060472", func := "casemate/casematelaw06.BytesOwn", spec := "bytesOwn", apart := false }
def BytesOwnSaid : Prop := bytesOwnRow.holds Try.pinned (OpenSpec.ofChange bytesOwnSpec)

/-- ITS FALSE NEIGHBOUR: 'it returns false'. Refute it at one input. -/
def bytesOwnWrong : ChangeSpec := { name := "bytesOwn", fn := fun _ => fun
  | [d] => { results := [.lit (.bool false)], args := [d] }
  | _ => none }
def BytesOwnWrongFalsely : Prop := bytesOwnRow.holds Try.pinned (OpenSpec.ofChange bytesOwnWrong)

/-- 'casematelaw06.BytesTakes': WHATEVER THE INPUT: true; the input reads as it did. -/
def bytesTakesSpec : ChangeSpec := { name := "bytesTakes", fn := fun _ => fun
  | [d1, d2] => { results := [.lit (.bool true)], args := [d1, d2] }
  | _ => none }
def bytesTakesRow : OpenClaim := { program := "ytfdndkempgnlcaa", sum := "7c126091f89555c21c3d50ddc7a16b1d10181aae637b63bd5338cc6b1e060472", func := "casemate/casematelaw06.BytesTakes", spec := "bytesTakes", apart := false }
def BytesTakesSaid : Prop := bytesTakesRow.holds Try.pinned (OpenSpec.ofChange bytesTakesSpec)

/-- ITS FALSE NEIGHBOUR: 'it returns false'. Refute it at one input. -/
def bytesTakesWrong : ChangeSpec := { name := "bytesTakes", fn := fun _ => fun
  | [d1, d2] => { results := [.lit (.bool false)], args := [d1, d2] }
  | _ => none }
def BytesTakesWrongFalsely : Prop := bytesTakesRow.holds Try.pinned (OpenSpec.ofChange bytesTakesWrong)

/-- 'casematelaw06.BytesBack': WHATEVER THE INPUT: true; the input reads as it did. -/
def bytesBackSpec : ChangeSpec := { name := "bytesBack", fn := fun _ => fun
  | [d] => { results := [.lit (.bool true)], args := [d] }
  | _ => none }
def bytesBackRow : OpenClaim := { program := "ytfdndkempgnlcaa", sum := "7c126091f89555c21c3d50ddc7a16b1d10181aae637b63bd5338cc6b1e060472", func := "casemate/casematelaw06.BytesBack", spec := "bytesBack", apart := false }
def BytesBackSaid : Prop := bytesBackRow.holds Try.pinned (OpenSpec.ofChange bytesBackSpec)

/-- ITS FALSE NEIGHBOUR: 'it returns false'. Refute it at one input. -/
def bytesBackWrong : ChangeSpec := { name := "bytesBack", fn := fun _ => fun
  | [d] => { results := [.lit (.bool false)], args := [d] }
  | _ => none }
def BytesBackWrongFalsely : Prop := bytesBackRow.holds Try.pinned (OpenSpec.ofChange bytesBackWrong)

/-- 'casematelaw06.BytesKnown': WHATEVER THE INPUT: true; the input reads as it did. -/
def bytesKnownSpec : ChangeSpec := { name := "bytesKnown", fn := fun _ => fun
  | [] => { results := [.lit (.bool true)], args := [] }
  | _ => none }
def bytesKnownRow : OpenClaim := { program := "ytfdndkempgnlcaa", sum := "7c126091f89555c21c3d50ddc7a16b1d10181aae637b63bd5338cc6b1e060472", func := "casemate/casematelaw06.BytesKnown", spec := "bytesKnown", apart := false }
def BytesKnownSaid : Prop := bytesKnownRow.holds Try.pinned (OpenSpec.ofChange bytesKnownSpec)

/-- ITS FALSE NEIGHBOUR: 'it returns false'. Refute it at one input. -/
def bytesKnownWrong : ChangeSpec := { name := "bytesKnown", fn := fun _ => fun
  | [] => { results := [.lit (.bool false)], args := [] }
  | _ => none }
def BytesKnownWrongFalsely : Prop := bytesKnownRow.holds Try.pinned (OpenSpec.ofChange bytesKnownWrong)

/- THE SECOND FORM. 'bulk': how many values and letters a reading holds, each counted each time it is reached (what is shared counts as often as it is met; a slice's spare places count too). A statement '..UptoSaid' is the law's where the arguments, and the package variables that the reading takes, are together of bulk at most 1048576: NARROWER than '..Said'. Prove '..Said' where nothing that the law and all that it calls make is longer than what came in: it says more and counts as full. Else prove '..UptoSaid'. A law counts once. -/
mutual
def uptoBulk {H : Type} : DataW H → Nat
  | .lit (.string bytes) => bytes.length + 1
  | .lit _ => 1
  | .nil => 1
  | .ptr d => uptoBulk d + 1
  | .slice elems spare => uptoBulkAll elems + uptoBulkAll spare + 1
  | .agg parts => uptoBulkAll parts + 1
  | .iface _ d => uptoBulk d + 1
  | .map entries => uptoBulkEntries entries + 1
  | .held _ => 1
def uptoBulkAll {H : Type} : List (DataW H) → Nat
  | [] => 0
  | d :: r => uptoBulk d + uptoBulkAll r
def uptoBulkEntries {H : Type} : List (Lit × DataW H) → Nat
  | [] => 0
  | x :: r => uptoBulkEntry x + uptoBulkEntries r
def uptoBulkEntry {H : Type} : Lit × DataW H → Nat
  | (.string bytes, d) => bytes.length + uptoBulk d + 1
  | (_, d) => uptoBulk d + 1
 end
def uptoSmall : (H : Type) → List (DataW H) → Bool := fun _ ds => decide (uptoBulkAll ds ≤ 1048576)
def OpenSpec.upto (s : _root_.Go.ChangeSpec) : _root_.Go.OpenSpec := { _root_.Go.OpenSpec.ofChange s with cond := some uptoSmall }

/-- 'casematelaw06.BytesRow', WHERE WHAT IT READS IS OF BULK AT MOST 1048576: true; the input reads as it did. -/
def bytesRowUptoRow : OpenClaim := { program := "ytfdndkempgnlcaa", sum := "7c126091f89555c21c3d50ddc7a16b1d10181aae637b63bd5338cc6b1e060472", func := "casemate/casematelaw06.BytesRow", spec := "bytesRow", apart := false, narrowed := true }
def BytesRowUptoSaid : Prop := bytesRowUptoRow.holds Try.pinned (OpenSpec.upto bytesRowSpec)

/-- 'casematelaw06.BytesApart', WHERE WHAT IT READS IS OF BULK AT MOST 1048576: true; the input reads as it did. -/
def bytesApartUptoRow : OpenClaim := { program := "ytfdndkempgnlcaa", sum := "7c126091f89555c21c3d50ddc7a16b1d10181aae637b63bd5338cc6b1e060472", func := "casemate/casematelaw06.BytesApart", spec := "bytesApart", apart := false, narrowed := true }
def BytesApartUptoSaid : Prop := bytesApartUptoRow.holds Try.pinned (OpenSpec.upto bytesApartSpec)

/-- 'casematelaw06.BytesNum', WHERE WHAT IT READS IS OF BULK AT MOST 1048576: true; the input reads as it did. -/
def bytesNumUptoRow : OpenClaim := { program := "ytfdndkempgnlcaa", sum := "7c126091f89555c21c3d50ddc7a16b1d10181aae637b63bd5338cc6b1e060472", func := "casemate/casematelaw06.BytesNum", spec := "bytesNum", apart := false, narrowed := true }
def BytesNumUptoSaid : Prop := bytesNumUptoRow.holds Try.pinned (OpenSpec.upto bytesNumSpec)

/-- 'casematelaw06.BytesOwn', WHERE WHAT IT READS IS OF BULK AT MOST 1048576: true; the input reads as it did. -/
def bytesOwnUptoRow : OpenClaim := { program := "ytfdndkempgnlcaa", sum := "7c126091f89555c21c3d50ddc7a16b1d10181aae637b63bd5338cc6b1e060472", func := "casemate/casematelaw06.BytesOwn", spec := "bytesOwn", apart := false, narrowed := true }
def BytesOwnUptoSaid : Prop := bytesOwnUptoRow.holds Try.pinned (OpenSpec.upto bytesOwnSpec)

/-- 'casematelaw06.BytesTakes', WHERE WHAT IT READS IS OF BULK AT MOST 1048576: true; the input reads as it did. -/
def bytesTakesUptoRow : OpenClaim := { program := "ytfdndkempgnlcaa", sum := "7c126091f89555c21c3d50ddc7a16b1d10181aae637b63bd5338cc6b1e060472", func := "casemate/casematelaw06.BytesTakes", spec := "bytesTakes", apart := false, narrowed := true }
def BytesTakesUptoSaid : Prop := bytesTakesUptoRow.holds Try.pinned (OpenSpec.upto bytesTakesSpec)

/-- 'casematelaw06.BytesBack', WHERE WHAT IT READS IS OF BULK AT MOST 1048576: true; the input reads as it did. -/
def bytesBackUptoRow : OpenClaim := { program := "ytfdndkempgnlcaa", sum := "7c126091f89555c21c3d50ddc7a16b1d10181aae637b63bd5338cc6b1e060472", func := "casemate/casematelaw06.BytesBack", spec := "bytesBack", apart := false, narrowed := true }
def BytesBackUptoSaid : Prop := bytesBackUptoRow.holds Try.pinned (OpenSpec.upto bytesBackSpec)

/-- 'casematelaw06.BytesKnown', WHERE WHAT IT READS IS OF BULK AT MOST 1048576: true; the input reads as it did. -/
def bytesKnownUptoRow : OpenClaim := { program := "ytfdndkempgnlcaa", sum := "7c126091f89555c21c3d50ddc7a16b1d10181aae637b63bd5338cc6b1e060472", func := "casemate/casematelaw06.BytesKnown", spec := "bytesKnown", apart := false, narrowed := true }
def BytesKnownUptoSaid : Prop := bytesKnownUptoRow.holds Try.pinned (OpenSpec.upto bytesKnownSpec)

end Rows
end Go.Proofs.Ytfdndkempgnlcaa
