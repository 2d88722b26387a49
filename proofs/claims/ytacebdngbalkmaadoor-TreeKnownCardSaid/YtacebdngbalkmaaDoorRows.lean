/-
  NARROWER THAN 'FOR EVERY INPUT', by the rows' own cells (each row's printed sentence says how): TreeAnew: laid · TreeProves: laid · TreeChecks: laid · TreePlays: laid · TreeKnown: laid · TreeApart: laid.
  DERIVED. THE GIVEN ROWS OF THIS SEAT. 6 by the template 'for every input the law returns true; each argument reads behind the call as it read before'; 0 by the template 'total and deterministic' (their statements: YtacebdngbalkmaaDoorTotals.lean).
  GIVEN WITH THE SEED: the statements are not yours to turn. If you find one false, say at which input.
  Laid BY PROGRAM, IN A SANDBOX (cutbox-rows.mjs): the forced cells as the released guide's own fill.sh prints them over the translation 5a71d7977acff4fb… (all of the seat's roots in one cut). By AI agents, Wed Nov 11 2026. No macro, syntax, notation, axiom, sorry.
-/
import Derived.Test.YtacebdngbalkmaaDoorChecked
import GoSem.Claim
import GoSem.ClaimJoined
import GoSem.ClaimMapViews
import Derived.JoinedTies
import Derived.KernelRfl
namespace Go.Proofs.YtacebdngbalkmaaDoor
/- THE CELL 'sum', in the pinned program and in every row, IS THE sha256 OF THE DUMP (.gsa) THAT YtacebdngbalkmaaDoorProg.lean LOADS. Nothing in Lean hashes anything: it is a label: what it is worth is what the hold of that sum in a sandbox is worth. -/
noncomputable def Tryd.pinned : Pinned := { name := "ytacebdngbalkmaadoor", sum := "5a71d7977acff4fb3f88a4a392787906a324229d01723cfb47a220c7fdc0ac65", checked := Tryd.checked }
namespace Rows
def none {H : Type} : Left H := { results := [], args := [] }

/- WHAT THE LISTED PACKAGE-LEVEL VARIABLES READ AS WHEN THE CALL BEGINS. Each datum BY PROGRAM (the guide's laid-datum.mjs) off the statement by which the dump's own 'gosem.cut.vars' lays the variable. In a bare row this is a premise. The card (YtacebdngbalkmaaDoorCards.lean) ties it to the program's text. -/
def laid_casemate_sha_salts {H : Type} : DataW H := .agg [.lit (.int .u32 1116352408), .lit (.int .u32 1899447441), .lit (.int .u32 3049323471), .lit (.int .u32 3921009573), .lit (.int .u32 961987163), .lit (.int .u32 1508970993), .lit (.int .u32 2453635748), .lit (.int .u32 2870763221), .lit (.int .u32 3624381080), .lit (.int .u32 310598401), .lit (.int .u32 607225278), .lit (.int .u32 1426881987), .lit (.int .u32 1925078388), .lit (.int .u32 2162078206), .lit (.int .u32 2614888103), .lit (.int .u32 3248222580), .lit (.int .u32 3835390401), .lit (.int .u32 4022224774), .lit (.int .u32 264347078), .lit (.int .u32 604807628), .lit (.int .u32 770255983), .lit (.int .u32 1249150122), .lit (.int .u32 1555081692), .lit (.int .u32 1996064986), .lit (.int .u32 2554220882), .lit (.int .u32 2821834349), .lit (.int .u32 2952996808), .lit (.int .u32 3210313671), .lit (.int .u32 3336571891), .lit (.int .u32 3584528711), .lit (.int .u32 113926993), .lit (.int .u32 338241895), .lit (.int .u32 666307205), .lit (.int .u32 773529912), .lit (.int .u32 1294757372), .lit (.int .u32 1396182291), .lit (.int .u32 1695183700), .lit (.int .u32 1986661051), .lit (.int .u32 2177026350), .lit (.int .u32 2456956037), .lit (.int .u32 2730485921), .lit (.int .u32 2820302411), .lit (.int .u32 3259730800), .lit (.int .u32 3345764771), .lit (.int .u32 3516065817), .lit (.int .u32 3600352804), .lit (.int .u32 4094571909), .lit (.int .u32 275423344), .lit (.int .u32 430227734), .lit (.int .u32 506948616), .lit (.int .u32 659060556), .lit (.int .u32 883997877), .lit (.int .u32 958139571), .lit (.int .u32 1322822218), .lit (.int .u32 1537002063), .lit (.int .u32 1747873779), .lit (.int .u32 1955562222), .lit (.int .u32 2024104815), .lit (.int .u32 2227730452), .lit (.int .u32 2361852424), .lit (.int .u32 2428436474), .lit (.int .u32 2756734187), .lit (.int .u32 3204031479), .lit (.int .u32 3329325298)]

/-- 'casematelaw18.TreeAnew': WHATEVER THE INPUT: true; the input reads as it did. -/
def treeAnewSpec : ChangeSpec := { name := "treeAnew", fn := fun _ => fun
  | [d1, d2, d3] => { results := [.lit (.bool true)], args := [d1, d2, d3] }
  | _ => none }
def treeAnewRow : OpenClaim := { program := "ytacebdngbalkmaadoor", sum := "5a71d7977acff4fb3f88a4a392787906a324229d01723cfb47a220c7fdc0ac65", func := "casemate/casematelaw18.TreeAnew", spec := "treeAnew", unfollowed := true, recurses := true, named := ["casemate/sha.salts"], apart := false, laid := [("casemate/sha.salts", laid_casemate_sha_salts)] }
def TreeAnewSaid : Prop := treeAnewRow.holds Tryd.pinned (OpenSpec.ofChange treeAnewSpec)

/-- ITS FALSE NEIGHBOUR: 'it returns false'. Refute it at one input. -/
def treeAnewWrong : ChangeSpec := { name := "treeAnew", fn := fun _ => fun
  | [d1, d2, d3] => { results := [.lit (.bool false)], args := [d1, d2, d3] }
  | _ => none }
def TreeAnewWrongFalsely : Prop := treeAnewRow.holds Tryd.pinned (OpenSpec.ofChange treeAnewWrong)

/-- 'casematelaw18.TreeProves': WHATEVER THE INPUT: true; the input reads as it did. -/
def treeProvesSpec : ChangeSpec := { name := "treeProves", fn := fun _ => fun
  | [d1, d2, d3] => { results := [.lit (.bool true)], args := [d1, d2, d3] }
  | _ => none }
def treeProvesRow : OpenClaim := { program := "ytacebdngbalkmaadoor", sum := "5a71d7977acff4fb3f88a4a392787906a324229d01723cfb47a220c7fdc0ac65", func := "casemate/casematelaw18.TreeProves", spec := "treeProves", unfollowed := true, recurses := true, named := ["casemate/sha.salts"], apart := false, laid := [("casemate/sha.salts", laid_casemate_sha_salts)] }
def TreeProvesSaid : Prop := treeProvesRow.holds Tryd.pinned (OpenSpec.ofChange treeProvesSpec)

/-- ITS FALSE NEIGHBOUR: 'it returns false'. Refute it at one input. -/
def treeProvesWrong : ChangeSpec := { name := "treeProves", fn := fun _ => fun
  | [d1, d2, d3] => { results := [.lit (.bool false)], args := [d1, d2, d3] }
  | _ => none }
def TreeProvesWrongFalsely : Prop := treeProvesRow.holds Tryd.pinned (OpenSpec.ofChange treeProvesWrong)

/-- 'casematelaw18.TreeChecks': WHATEVER THE INPUT: true; the input reads as it did. -/
def treeChecksSpec : ChangeSpec := { name := "treeChecks", fn := fun _ => fun
  | [d1, d2, d3] => { results := [.lit (.bool true)], args := [d1, d2, d3] }
  | _ => none }
def treeChecksRow : OpenClaim := { program := "ytacebdngbalkmaadoor", sum := "5a71d7977acff4fb3f88a4a392787906a324229d01723cfb47a220c7fdc0ac65", func := "casemate/casematelaw18.TreeChecks", spec := "treeChecks", unfollowed := true, recurses := true, named := ["casemate/sha.salts"], apart := false, laid := [("casemate/sha.salts", laid_casemate_sha_salts)] }
def TreeChecksSaid : Prop := treeChecksRow.holds Tryd.pinned (OpenSpec.ofChange treeChecksSpec)

/-- ITS FALSE NEIGHBOUR: 'it returns false'. Refute it at one input. -/
def treeChecksWrong : ChangeSpec := { name := "treeChecks", fn := fun _ => fun
  | [d1, d2, d3] => { results := [.lit (.bool false)], args := [d1, d2, d3] }
  | _ => none }
def TreeChecksWrongFalsely : Prop := treeChecksRow.holds Tryd.pinned (OpenSpec.ofChange treeChecksWrong)

/-- 'casematelaw18.TreePlays': WHATEVER THE INPUT: true; the input reads as it did. -/
def treePlaysSpec : ChangeSpec := { name := "treePlays", fn := fun _ => fun
  | [d1, d2, d3] => { results := [.lit (.bool true)], args := [d1, d2, d3] }
  | _ => none }
def treePlaysRow : OpenClaim := { program := "ytacebdngbalkmaadoor", sum := "5a71d7977acff4fb3f88a4a392787906a324229d01723cfb47a220c7fdc0ac65", func := "casemate/casematelaw18.TreePlays", spec := "treePlays", unfollowed := true, recurses := true, named := ["casemate/sha.salts"], apart := false, laid := [("casemate/sha.salts", laid_casemate_sha_salts)] }
def TreePlaysSaid : Prop := treePlaysRow.holds Tryd.pinned (OpenSpec.ofChange treePlaysSpec)

/-- ITS FALSE NEIGHBOUR: 'it returns false'. Refute it at one input. -/
def treePlaysWrong : ChangeSpec := { name := "treePlays", fn := fun _ => fun
  | [d1, d2, d3] => { results := [.lit (.bool false)], args := [d1, d2, d3] }
  | _ => none }
def TreePlaysWrongFalsely : Prop := treePlaysRow.holds Tryd.pinned (OpenSpec.ofChange treePlaysWrong)

/-- 'casematelaw18.TreeKnown': WHATEVER THE INPUT: true; the input reads as it did. -/
def treeKnownSpec : ChangeSpec := { name := "treeKnown", fn := fun _ => fun
  | [] => { results := [.lit (.bool true)], args := [] }
  | _ => none }
def treeKnownRow : OpenClaim := { program := "ytacebdngbalkmaadoor", sum := "5a71d7977acff4fb3f88a4a392787906a324229d01723cfb47a220c7fdc0ac65", func := "casemate/casematelaw18.TreeKnown", spec := "treeKnown", unfollowed := true, recurses := true, named := ["casemate/sha.salts"], apart := false, laid := [("casemate/sha.salts", laid_casemate_sha_salts)] }
def TreeKnownSaid : Prop := treeKnownRow.holds Tryd.pinned (OpenSpec.ofChange treeKnownSpec)

/-- ITS FALSE NEIGHBOUR: 'it returns false'. Refute it at one input. -/
def treeKnownWrong : ChangeSpec := { name := "treeKnown", fn := fun _ => fun
  | [] => { results := [.lit (.bool false)], args := [] }
  | _ => none }
def TreeKnownWrongFalsely : Prop := treeKnownRow.holds Tryd.pinned (OpenSpec.ofChange treeKnownWrong)

/-- 'casematelaw18.TreeApart': WHATEVER THE INPUT: true; the input reads as it did. -/
def treeApartSpec : ChangeSpec := { name := "treeApart", fn := fun _ => fun
  | [d1, d2, d3] => { results := [.lit (.bool true)], args := [d1, d2, d3] }
  | _ => none }
def treeApartRow : OpenClaim := { program := "ytacebdngbalkmaadoor", sum := "5a71d7977acff4fb3f88a4a392787906a324229d01723cfb47a220c7fdc0ac65", func := "casemate/casematelaw18.TreeApart", spec := "treeApart", unfollowed := true, recurses := true, named := ["casemate/sha.salts"], apart := false, laid := [("casemate/sha.salts", laid_casemate_sha_salts)] }
def TreeApartSaid : Prop := treeApartRow.holds Tryd.pinned (OpenSpec.ofChange treeApartSpec)

/-- ITS FALSE NEIGHBOUR: 'it returns false'. Refute it at one input. -/
def treeApartWrong : ChangeSpec := { name := "treeApart", fn := fun _ => fun
  | [d1, d2, d3] => { results := [.lit (.bool false)], args := [d1, d2, d3] }
  | _ => none }
def TreeApartWrongFalsely : Prop := treeApartRow.holds Tryd.pinned (OpenSpec.ofChange treeApartWrong)

/- THE SECOND FORM. 'bulk': how many values and letters a reading holds, each counted each time it is reached (what is shared counts as often as it is met; a slice's spare places count too). A statement '..UptoSaid' is the law's where the arguments, and the package variables that the reading takes, are together of bulk at most 1048576: NARROWER than '..Said'. Prove '..Said' where nothing that the law and all that it calls make is longer than what came in: it says more and counts as full. Else prove '..UptoSaid'. A law counts once. -/
mutual
def uptoBulk {H : Type} : DataW H → Nat
  | .lit (.string bytes) => bytes.length + 1
  | .lit _ => 1
  | .nil => 1
  | .ptr d => uptoBulk d + 1
  | .slice elems spare => uptoBulkAll elems + uptoBulkAll spare + 1
  | .agg parts => uptoBulkAll parts + 1
  | .iface _ d => uptoBulk d + 1
  | .map entries => uptoBulkEntries entries + 1
  | .held _ => 1
def uptoBulkAll {H : Type} : List (DataW H) → Nat
  | [] => 0
  | d :: r => uptoBulk d + uptoBulkAll r
def uptoBulkEntries {H : Type} : List (Lit × DataW H) → Nat
  | [] => 0
  | x :: r => uptoBulkEntry x + uptoBulkEntries r
def uptoBulkEntry {H : Type} : Lit × DataW H → Nat
  | (.string bytes, d) => bytes.length + uptoBulk d + 1
  | (_, d) => uptoBulk d + 1
 end
def uptoSmall : (H : Type) → List (DataW H) → Bool := fun _ ds => decide (uptoBulkAll ds ≤ 1048576)
def OpenSpec.upto (s : _root_.Go.ChangeSpec) : _root_.Go.OpenSpec := { _root_.Go.OpenSpec.ofChange s with cond := some uptoSmall }

/-- 'casematelaw18.TreeAnew', WHERE WHAT IT READS IS OF BULK AT MOST 1048576: true; the input reads as it did. -/
def treeAnewUptoRow : OpenClaim := { program := "ytacebdngbalkmaadoor", sum := "5a71d7977acff4fb3f88a4a392787906a324229d01723cfb47a220c7fdc0ac65", func := "casemate/casematelaw18.TreeAnew", spec := "treeAnew", unfollowed := true, recurses := true, named := ["casemate/sha.salts"], apart := false, laid := [("casemate/sha.salts", laid_casemate_sha_salts)], narrowed := true }
def TreeAnewUptoSaid : Prop := treeAnewUptoRow.holds Tryd.pinned (OpenSpec.upto treeAnewSpec)

/-- 'casematelaw18.TreeProves', WHERE WHAT IT READS IS OF BULK AT MOST 1048576: true; the input reads as it did. -/
def treeProvesUptoRow : OpenClaim := { program := "ytacebdngbalkmaadoor", sum := "5a71d7977acff4fb3f88a4a392787906a324229d01723cfb47a220c7fdc0ac65", func := "casemate/casematelaw18.TreeProves", spec := "treeProves", unfollowed := true, recurses := true, named := ["casemate/sha.salts"], apart := false, laid := [("casemate/sha.salts", laid_casemate_sha_salts)], narrowed := true }
def TreeProvesUptoSaid : Prop := treeProvesUptoRow.holds Tryd.pinned (OpenSpec.upto treeProvesSpec)

/-- 'casematelaw18.TreeChecks', WHERE WHAT IT READS IS OF BULK AT MOST 1048576: true; the input reads as it did. -/
def treeChecksUptoRow : OpenClaim := { program := "ytacebdngbalkmaadoor", sum := "5a71d7977acff4fb3f88a4a392787906a324229d01723cfb47a220c7fdc0ac65", func := "casemate/casematelaw18.TreeChecks", spec := "treeChecks", unfollowed := true, recurses := true, named := ["casemate/sha.salts"], apart := false, laid := [("casemate/sha.salts", laid_casemate_sha_salts)], narrowed := true }
def TreeChecksUptoSaid : Prop := treeChecksUptoRow.holds Tryd.pinned (OpenSpec.upto treeChecksSpec)

/-- 'casematelaw18.TreePlays', WHERE WHAT IT READS IS OF BULK AT MOST 1048576: true; the input reads as it did. -/
def treePlaysUptoRow : OpenClaim := { program := "ytacebdngbalkmaadoor", sum := "5a71d7977acff4fb3f88a4a392787906a324229d01723cfb47a220c7fdc0ac65", func := "casemate/casematelaw18.TreePlays", spec := "treePlays", unfollowed := true, recurses := true, named := ["casemate/sha.salts"], apart := false, laid := [("casemate/sha.salts", laid_casemate_sha_salts)], narrowed := true }
def TreePlaysUptoSaid : Prop := treePlaysUptoRow.holds Tryd.pinned (OpenSpec.upto treePlaysSpec)

/-- 'casematelaw18.TreeKnown', WHERE WHAT IT READS IS OF BULK AT MOST 1048576: true; the input reads as it did. -/
def treeKnownUptoRow : OpenClaim := { program := "ytacebdngbalkmaadoor", sum := "5a71d7977acff4fb3f88a4a392787906a324229d01723cfb47a220c7fdc0ac65", func := "casemate/casematelaw18.TreeKnown", spec := "treeKnown", unfollowed := true, recurses := true, named := ["casemate/sha.salts"], apart := false, laid := [("casemate/sha.salts", laid_casemate_sha_salts)], narrowed := true }
def TreeKnownUptoSaid : Prop := treeKnownUptoRow.holds Tryd.pinned (OpenSpec.upto treeKnownSpec)

/-- 'casematelaw18.TreeApart', WHERE WHAT IT READS IS OF BULK AT MOST 1048576: true; the input reads as it did. -/
def treeApartUptoRow : OpenClaim := { program := "ytacebdngbalkmaadoor", sum := "5a71d7977acff4fb3f88a4a392787906a324229d01723cfb47a220c7fdc0ac65", func := "casemate/casematelaw18.TreeApart", spec := "treeApart", unfollowed := true, recurses := true, named := ["casemate/sha.salts"], apart := false, laid := [("casemate/sha.salts", laid_casemate_sha_salts)], narrowed := true }
def TreeApartUptoSaid : Prop := treeApartUptoRow.holds Tryd.pinned (OpenSpec.upto treeApartSpec)

end Rows
end Go.Proofs.YtacebdngbalkmaaDoor
