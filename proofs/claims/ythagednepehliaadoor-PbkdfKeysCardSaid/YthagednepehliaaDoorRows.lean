/-
  NARROWER THAN 'FOR EVERY INPUT', by the rows' own cells (each row's printed sentence says how): PbkdfPasses: laid · PbkdfKnown: laid · PbkdfBegins: laid · PbkdfApart: laid · PbkdfRounds: laid · DeriveKnown: laid · DeriveSubs: laid · PbkdfKeys: laid · DeriveSets: laid · DeriveRows: laid.
  DERIVED. THE GIVEN ROWS OF THIS SEAT. 10 by the template 'for every input the law returns true; each argument reads behind the call as it read before'; 0 by the template 'total and deterministic' (their statements: YthagednepehliaaDoorTotals.lean).
  GIVEN WITH THE SEED: the statements are not yours to turn. If you find one false, say at which input.
  Laid BY PROGRAM, IN A SANDBOX (cutbox-rows.mjs): the forced cells as the released guide's own fill.sh prints them over the translation b2469f8efddad5db… (all of the seat's roots in one cut). By AI agents, Wed Nov 11 2026. No macro, syntax, notation, axiom, sorry.
-/
import Derived.Test.YthagednepehliaaDoorChecked
import GoSem.Claim
import GoSem.ClaimJoined
import GoSem.ClaimMapViews
import Derived.JoinedTies
import Derived.KernelRfl
namespace Go.Proofs.YthagednepehliaaDoor
/- THE CELL 'sum', in the pinned program and in every row, IS THE sha256 OF THE DUMP (.gsa) THAT YthagednepehliaaDoorProg.lean LOADS. Nothing in Lean hashes anything: it is a label: what it is worth is what the hold of that sum in a sandbox is worth. -/
noncomputable def Tryd.pinned : Pinned := { name := "ythagednepehliaadoor", sum := "b2469f8efddad5db258a99a1d0add29c50e32e1092573f42936993eaa31e728d", checked := Tryd.checked }
namespace Rows
def none {H : Type} : Left H := { results := [], args := [] }

/- WHAT THE LISTED PACKAGE-LEVEL VARIABLES READ AS WHEN THE CALL BEGINS. Each datum BY PROGRAM (the guide's laid-datum.mjs) off the statement by which the dump's own 'gosem.cut.vars' lays the variable. In a bare row this is a premise. The card (YthagednepehliaaDoorCards.lean) ties it to the program's text. -/
def laid_casemate_sha_salts {H : Type} : DataW H := .agg [.lit (.int .u32 1116352408), .lit (.int .u32 1899447441), .lit (.int .u32 3049323471), .lit (.int .u32 3921009573), .lit (.int .u32 961987163), .lit (.int .u32 1508970993), .lit (.int .u32 2453635748), .lit (.int .u32 2870763221), .lit (.int .u32 3624381080), .lit (.int .u32 310598401), .lit (.int .u32 607225278), .lit (.int .u32 1426881987), .lit (.int .u32 1925078388), .lit (.int .u32 2162078206), .lit (.int .u32 2614888103), .lit (.int .u32 3248222580), .lit (.int .u32 3835390401), .lit (.int .u32 4022224774), .lit (.int .u32 264347078), .lit (.int .u32 604807628), .lit (.int .u32 770255983), .lit (.int .u32 1249150122), .lit (.int .u32 1555081692), .lit (.int .u32 1996064986), .lit (.int .u32 2554220882), .lit (.int .u32 2821834349), .lit (.int .u32 2952996808), .lit (.int .u32 3210313671), .lit (.int .u32 3336571891), .lit (.int .u32 3584528711), .lit (.int .u32 113926993), .lit (.int .u32 338241895), .lit (.int .u32 666307205), .lit (.int .u32 773529912), .lit (.int .u32 1294757372), .lit (.int .u32 1396182291), .lit (.int .u32 1695183700), .lit (.int .u32 1986661051), .lit (.int .u32 2177026350), .lit (.int .u32 2456956037), .lit (.int .u32 2730485921), .lit (.int .u32 2820302411), .lit (.int .u32 3259730800), .lit (.int .u32 3345764771), .lit (.int .u32 3516065817), .lit (.int .u32 3600352804), .lit (.int .u32 4094571909), .lit (.int .u32 275423344), .lit (.int .u32 430227734), .lit (.int .u32 506948616), .lit (.int .u32 659060556), .lit (.int .u32 883997877), .lit (.int .u32 958139571), .lit (.int .u32 1322822218), .lit (.int .u32 1537002063), .lit (.int .u32 1747873779), .lit (.int .u32 1955562222), .lit (.int .u32 2024104815), .lit (.int .u32 2227730452), .lit (.int .u32 2361852424), .lit (.int .u32 2428436474), .lit (.int .u32 2756734187), .lit (.int .u32 3204031479), .lit (.int .u32 3329325298)]

/-- 'casematelaw05.PbkdfPasses': WHATEVER THE INPUT: true; the input reads as it did. -/
def pbkdfPassesSpec : ChangeSpec := { name := "pbkdfPasses", fn := fun _ => fun
  | [d] => { results := [.lit (.bool true)], args := [d] }
  | _ => none }
def pbkdfPassesRow : OpenClaim := { program := "ythagednepehliaadoor", sum := "b2469f8efddad5db258a99a1d0add29c50e32e1092573f42936993eaa31e728d", func := "casemate/casematelaw05.PbkdfPasses", spec := "pbkdfPasses", unfollowed := true, recurses := true, named := ["casemate/sha.salts"], apart := false, laid := [("casemate/sha.salts", laid_casemate_sha_salts)] }
def PbkdfPassesSaid : Prop := pbkdfPassesRow.holds Tryd.pinned (OpenSpec.ofChange pbkdfPassesSpec)

/-- ITS FALSE NEIGHBOUR: 'it returns false'. Refute it at one input. -/
def pbkdfPassesWrong : ChangeSpec := { name := "pbkdfPasses", fn := fun _ => fun
  | [d] => { results := [.lit (.bool false)], args := [d] }
  | _ => none }
def PbkdfPassesWrongFalsely : Prop := pbkdfPassesRow.holds Tryd.pinned (OpenSpec.ofChange pbkdfPassesWrong)

/-- 'casematelaw05.PbkdfKnown': WHATEVER THE INPUT: true; the input reads as it did. -/
def pbkdfKnownSpec : ChangeSpec := { name := "pbkdfKnown", fn := fun _ => fun
  | [] => { results := [.lit (.bool true)], args := [] }
  | _ => none }
def pbkdfKnownRow : OpenClaim := { program := "ythagednepehliaadoor", sum := "b2469f8efddad5db258a99a1d0add29c50e32e1092573f42936993eaa31e728d", func := "casemate/casematelaw05.PbkdfKnown", spec := "pbkdfKnown", unfollowed := true, recurses := true, named := ["casemate/sha.salts"], apart := false, laid := [("casemate/sha.salts", laid_casemate_sha_salts)] }
def PbkdfKnownSaid : Prop := pbkdfKnownRow.holds Tryd.pinned (OpenSpec.ofChange pbkdfKnownSpec)

/-- ITS FALSE NEIGHBOUR: 'it returns false'. Refute it at one input. -/
def pbkdfKnownWrong : ChangeSpec := { name := "pbkdfKnown", fn := fun _ => fun
  | [] => { results := [.lit (.bool false)], args := [] }
  | _ => none }
def PbkdfKnownWrongFalsely : Prop := pbkdfKnownRow.holds Tryd.pinned (OpenSpec.ofChange pbkdfKnownWrong)

/-- 'casematelaw05.PbkdfBegins': WHATEVER THE INPUT: true; the input reads as it did. -/
def pbkdfBeginsSpec : ChangeSpec := { name := "pbkdfBegins", fn := fun _ => fun
  | [d1, d2] => { results := [.lit (.bool true)], args := [d1, d2] }
  | _ => none }
def pbkdfBeginsRow : OpenClaim := { program := "ythagednepehliaadoor", sum := "b2469f8efddad5db258a99a1d0add29c50e32e1092573f42936993eaa31e728d", func := "casemate/casematelaw05.PbkdfBegins", spec := "pbkdfBegins", unfollowed := true, recurses := true, named := ["casemate/sha.salts"], apart := false, laid := [("casemate/sha.salts", laid_casemate_sha_salts)] }
def PbkdfBeginsSaid : Prop := pbkdfBeginsRow.holds Tryd.pinned (OpenSpec.ofChange pbkdfBeginsSpec)

/-- ITS FALSE NEIGHBOUR: 'it returns false'. Refute it at one input. -/
def pbkdfBeginsWrong : ChangeSpec := { name := "pbkdfBegins", fn := fun _ => fun
  | [d1, d2] => { results := [.lit (.bool false)], args := [d1, d2] }
  | _ => none }
def PbkdfBeginsWrongFalsely : Prop := pbkdfBeginsRow.holds Tryd.pinned (OpenSpec.ofChange pbkdfBeginsWrong)

/-- 'casematelaw05.PbkdfApart': WHATEVER THE INPUT: true; the input reads as it did. -/
def pbkdfApartSpec : ChangeSpec := { name := "pbkdfApart", fn := fun _ => fun
  | [d1, d2] => { results := [.lit (.bool true)], args := [d1, d2] }
  | _ => none }
def pbkdfApartRow : OpenClaim := { program := "ythagednepehliaadoor", sum := "b2469f8efddad5db258a99a1d0add29c50e32e1092573f42936993eaa31e728d", func := "casemate/casematelaw05.PbkdfApart", spec := "pbkdfApart", unfollowed := true, recurses := true, named := ["casemate/sha.salts"], apart := false, laid := [("casemate/sha.salts", laid_casemate_sha_salts)] }
def PbkdfApartSaid : Prop := pbkdfApartRow.holds Tryd.pinned (OpenSpec.ofChange pbkdfApartSpec)

/-- ITS FALSE NEIGHBOUR: 'it returns false'. Refute it at one input. -/
def pbkdfApartWrong : ChangeSpec := { name := "pbkdfApart", fn := fun _ => fun
  | [d1, d2] => { results := [.lit (.bool false)], args := [d1, d2] }
  | _ => none }
def PbkdfApartWrongFalsely : Prop := pbkdfApartRow.holds Tryd.pinned (OpenSpec.ofChange pbkdfApartWrong)

/-- 'casematelaw05.PbkdfRounds': WHATEVER THE INPUT: true; the input reads as it did. -/
def pbkdfRoundsSpec : ChangeSpec := { name := "pbkdfRounds", fn := fun _ => fun
  | [d1, d2] => { results := [.lit (.bool true)], args := [d1, d2] }
  | _ => none }
def pbkdfRoundsRow : OpenClaim := { program := "ythagednepehliaadoor", sum := "b2469f8efddad5db258a99a1d0add29c50e32e1092573f42936993eaa31e728d", func := "casemate/casematelaw05.PbkdfRounds", spec := "pbkdfRounds", unfollowed := true, recurses := true, named := ["casemate/sha.salts"], apart := false, laid := [("casemate/sha.salts", laid_casemate_sha_salts)] }
def PbkdfRoundsSaid : Prop := pbkdfRoundsRow.holds Tryd.pinned (OpenSpec.ofChange pbkdfRoundsSpec)

/-- ITS FALSE NEIGHBOUR: 'it returns false'. Refute it at one input. -/
def pbkdfRoundsWrong : ChangeSpec := { name := "pbkdfRounds", fn := fun _ => fun
  | [d1, d2] => { results := [.lit (.bool false)], args := [d1, d2] }
  | _ => none }
def PbkdfRoundsWrongFalsely : Prop := pbkdfRoundsRow.holds Tryd.pinned (OpenSpec.ofChange pbkdfRoundsWrong)

/-- 'casematelaw09.DeriveKnown': WHATEVER THE INPUT: true; the input reads as it did. -/
def deriveKnownSpec : ChangeSpec := { name := "deriveKnown", fn := fun _ => fun
  | [] => { results := [.lit (.bool true)], args := [] }
  | _ => none }
def deriveKnownRow : OpenClaim := { program := "ythagednepehliaadoor", sum := "b2469f8efddad5db258a99a1d0add29c50e32e1092573f42936993eaa31e728d", func := "casemate/casematelaw09.DeriveKnown", spec := "deriveKnown", unfollowed := true, recurses := true, named := ["casemate/sha.salts"], apart := false, laid := [("casemate/sha.salts", laid_casemate_sha_salts)] }
def DeriveKnownSaid : Prop := deriveKnownRow.holds Tryd.pinned (OpenSpec.ofChange deriveKnownSpec)

/-- ITS FALSE NEIGHBOUR: 'it returns false'. Refute it at one input. -/
def deriveKnownWrong : ChangeSpec := { name := "deriveKnown", fn := fun _ => fun
  | [] => { results := [.lit (.bool false)], args := [] }
  | _ => none }
def DeriveKnownWrongFalsely : Prop := deriveKnownRow.holds Tryd.pinned (OpenSpec.ofChange deriveKnownWrong)

/-- 'casematelaw09.DeriveSubs': WHATEVER THE INPUT: true; the input reads as it did. -/
def deriveSubsSpec : ChangeSpec := { name := "deriveSubs", fn := fun _ => fun
  | [d1, d2] => { results := [.lit (.bool true)], args := [d1, d2] }
  | _ => none }
def deriveSubsRow : OpenClaim := { program := "ythagednepehliaadoor", sum := "b2469f8efddad5db258a99a1d0add29c50e32e1092573f42936993eaa31e728d", func := "casemate/casematelaw09.DeriveSubs", spec := "deriveSubs", unfollowed := true, recurses := true, named := ["casemate/sha.salts"], apart := false, laid := [("casemate/sha.salts", laid_casemate_sha_salts)] }
def DeriveSubsSaid : Prop := deriveSubsRow.holds Tryd.pinned (OpenSpec.ofChange deriveSubsSpec)

/-- ITS FALSE NEIGHBOUR: 'it returns false'. Refute it at one input. -/
def deriveSubsWrong : ChangeSpec := { name := "deriveSubs", fn := fun _ => fun
  | [d1, d2] => { results := [.lit (.bool false)], args := [d1, d2] }
  | _ => none }
def DeriveSubsWrongFalsely : Prop := deriveSubsRow.holds Tryd.pinned (OpenSpec.ofChange deriveSubsWrong)

/-- 'casematelaw05.PbkdfKeys': WHATEVER THE INPUT: true; the input reads as it did. -/
def pbkdfKeysSpec : ChangeSpec := { name := "pbkdfKeys", fn := fun _ => fun
  | [d] => { results := [.lit (.bool true)], args := [d] }
  | _ => none }
def pbkdfKeysRow : OpenClaim := { program := "ythagednepehliaadoor", sum := "b2469f8efddad5db258a99a1d0add29c50e32e1092573f42936993eaa31e728d", func := "casemate/casematelaw05.PbkdfKeys", spec := "pbkdfKeys", unfollowed := true, recurses := true, named := ["casemate/sha.salts"], apart := false, laid := [("casemate/sha.salts", laid_casemate_sha_salts)] }
def PbkdfKeysSaid : Prop := pbkdfKeysRow.holds Tryd.pinned (OpenSpec.ofChange pbkdfKeysSpec)

/-- ITS FALSE NEIGHBOUR: 'it returns false'. Refute it at one input. -/
def pbkdfKeysWrong : ChangeSpec := { name := "pbkdfKeys", fn := fun _ => fun
  | [d] => { results := [.lit (.bool false)], args := [d] }
  | _ => none }
def PbkdfKeysWrongFalsely : Prop := pbkdfKeysRow.holds Tryd.pinned (OpenSpec.ofChange pbkdfKeysWrong)

/-- 'casematelaw09.DeriveSets': WHATEVER THE INPUT: true; the input reads as it did. -/
def deriveSetsSpec : ChangeSpec := { name := "deriveSets", fn := fun _ => fun
  | [d1, d2] => { results := [.lit (.bool true)], args := [d1, d2] }
  | _ => none }
def deriveSetsRow : OpenClaim := { program := "ythagednepehliaadoor", sum := "b2469f8efddad5db258a99a1d0add29c50e32e1092573f42936993eaa31e728d", func := "casemate/casematelaw09.DeriveSets", spec := "deriveSets", unfollowed := true, recurses := true, named := ["casemate/sha.salts"], apart := false, laid := [("casemate/sha.salts", laid_casemate_sha_salts)] }
def DeriveSetsSaid : Prop := deriveSetsRow.holds Tryd.pinned (OpenSpec.ofChange deriveSetsSpec)

/-- ITS FALSE NEIGHBOUR: 'it returns false'. Refute it at one input. -/
def deriveSetsWrong : ChangeSpec := { name := "deriveSets", fn := fun _ => fun
  | [d1, d2] => { results := [.lit (.bool false)], args := [d1, d2] }
  | _ => none }
def DeriveSetsWrongFalsely : Prop := deriveSetsRow.holds Tryd.pinned (OpenSpec.ofChange deriveSetsWrong)

/-- 'casematelaw09.DeriveRows': WHATEVER THE INPUT: true; the input reads as it did. -/
def deriveRowsSpec : ChangeSpec := { name := "deriveRows", fn := fun _ => fun
  | [d1, d2, d3] => { results := [.lit (.bool true)], args := [d1, d2, d3] }
  | _ => none }
def deriveRowsRow : OpenClaim := { program := "ythagednepehliaadoor", sum := "b2469f8efddad5db258a99a1d0add29c50e32e1092573f42936993eaa31e728d", func := "casemate/casematelaw09.DeriveRows", spec := "deriveRows", unfollowed := true, recurses := true, named := ["casemate/sha.salts"], apart := false, laid := [("casemate/sha.salts", laid_casemate_sha_salts)] }
def DeriveRowsSaid : Prop := deriveRowsRow.holds Tryd.pinned (OpenSpec.ofChange deriveRowsSpec)

/-- ITS FALSE NEIGHBOUR: 'it returns false'. Refute it at one input. -/
def deriveRowsWrong : ChangeSpec := { name := "deriveRows", fn := fun _ => fun
  | [d1, d2, d3] => { results := [.lit (.bool false)], args := [d1, d2, d3] }
  | _ => none }
def DeriveRowsWrongFalsely : Prop := deriveRowsRow.holds Tryd.pinned (OpenSpec.ofChange deriveRowsWrong)

/- THE SECOND FORM. 'bulk': how many values and letters a reading holds, each counted each time it is reached (what is shared counts as often as it is met; a slice's spare places count too). A statement '..UptoSaid' is the law's where the arguments, and the package variables that the reading takes, are together of bulk at most 1048576: NARROWER than '..Said'. Prove '..Said' where nothing that the law and all that it calls make is longer than what came in: it says more and counts as full. Else prove '..UptoSaid'. A law counts once. -/
mutual
def uptoBulk {H : Type} : DataW H → Nat
  | .lit (.string bytes) => bytes.length + 1
  | .lit _ => 1
  | .nil => 1
  | .ptr d => uptoBulk d + 1
  | .slice elems spare => uptoBulkAll elems + uptoBulkAll spare + 1
  | .agg parts => uptoBulkAll parts + 1
  | .iface _ d => uptoBulk d + 1
  | .map entries => uptoBulkEntries entries + 1
  | .held _ => 1
def uptoBulkAll {H : Type} : List (DataW H) → Nat
  | [] => 0
  | d :: r => uptoBulk d + uptoBulkAll r
def uptoBulkEntries {H : Type} : List (Lit × DataW H) → Nat
  | [] => 0
  | x :: r => uptoBulkEntry x + uptoBulkEntries r
def uptoBulkEntry {H : Type} : Lit × DataW H → Nat
  | (.string bytes, d) => bytes.length + uptoBulk d + 1
  | (_, d) => uptoBulk d + 1
 end
def uptoSmall : (H : Type) → List (DataW H) → Bool := fun _ ds => decide (uptoBulkAll ds ≤ 1048576)
def OpenSpec.upto (s : _root_.Go.ChangeSpec) : _root_.Go.OpenSpec := { _root_.Go.OpenSpec.ofChange s with cond := some uptoSmall }

/-- 'casematelaw05.PbkdfPasses', WHERE WHAT IT READS IS OF BULK AT MOST 1048576: true; the input reads as it did. -/
def pbkdfPassesUptoRow : OpenClaim := { program := "ythagednepehliaadoor", sum := "b2469f8efddad5db258a99a1d0add29c50e32e1092573f42936993eaa31e728d", func := "casemate/casematelaw05.PbkdfPasses", spec := "pbkdfPasses", unfollowed := true, recurses := true, named := ["casemate/sha.salts"], apart := false, laid := [("casemate/sha.salts", laid_casemate_sha_salts)], narrowed := true }
def PbkdfPassesUptoSaid : Prop := pbkdfPassesUptoRow.holds Tryd.pinned (OpenSpec.upto pbkdfPassesSpec)

/-- 'casematelaw05.PbkdfKnown', WHERE WHAT IT READS IS OF BULK AT MOST 1048576: true; the input reads as it did. -/
def pbkdfKnownUptoRow : OpenClaim := { program := "ythagednepehliaadoor", sum := "b2469f8efddad5db258a99a1d0add29c50e32e1092573f42936993eaa31e728d", func := "casemate/casematelaw05.PbkdfKnown", spec := "pbkdfKnown", unfollowed := true, recurses := true, named := ["casemate/sha.salts"], apart := false, laid := [("casemate/sha.salts", laid_casemate_sha_salts)], narrowed := true }
def PbkdfKnownUptoSaid : Prop := pbkdfKnownUptoRow.holds Tryd.pinned (OpenSpec.upto pbkdfKnownSpec)

/-- 'casematelaw05.PbkdfBegins', WHERE WHAT IT READS IS OF BULK AT MOST 1048576: true; the input reads as it did. -/
def pbkdfBeginsUptoRow : OpenClaim := { program := "ythagednepehliaadoor", sum := "b2469f8efddad5db258a99a1d0add29c50e32e1092573f42936993eaa31e728d", func := "casemate/casematelaw05.PbkdfBegins", spec := "pbkdfBegins", unfollowed := true, recurses := true, named := ["casemate/sha.salts"], apart := false, laid := [("casemate/sha.salts", laid_casemate_sha_salts)], narrowed := true }
def PbkdfBeginsUptoSaid : Prop := pbkdfBeginsUptoRow.holds Tryd.pinned (OpenSpec.upto pbkdfBeginsSpec)

/-- 'casematelaw05.PbkdfApart', WHERE WHAT IT READS IS OF BULK AT MOST 1048576: true; the input reads as it did. -/
def pbkdfApartUptoRow : OpenClaim := { program := "ythagednepehliaadoor", sum := "b2469f8efddad5db258a99a1d0add29c50e32e1092573f42936993eaa31e728d", func := "casemate/casematelaw05.PbkdfApart", spec := "pbkdfApart", unfollowed := true, recurses := true, named := ["casemate/sha.salts"], apart := false, laid := [("casemate/sha.salts", laid_casemate_sha_salts)], narrowed := true }
def PbkdfApartUptoSaid : Prop := pbkdfApartUptoRow.holds Tryd.pinned (OpenSpec.upto pbkdfApartSpec)

/-- 'casematelaw05.PbkdfRounds', WHERE WHAT IT READS IS OF BULK AT MOST 1048576: true; the input reads as it did. -/
def pbkdfRoundsUptoRow : OpenClaim := { program := "ythagednepehliaadoor", sum := "b2469f8efddad5db258a99a1d0add29c50e32e1092573f42936993eaa31e728d", func := "casemate/casematelaw05.PbkdfRounds", spec := "pbkdfRounds", unfollowed := true, recurses := true, named := ["casemate/sha.salts"], apart := false, laid := [("casemate/sha.salts", laid_casemate_sha_salts)], narrowed := true }
def PbkdfRoundsUptoSaid : Prop := pbkdfRoundsUptoRow.holds Tryd.pinned (OpenSpec.upto pbkdfRoundsSpec)

/-- 'casematelaw09.DeriveKnown', WHERE WHAT IT READS IS OF BULK AT MOST 1048576: true; the input reads as it did. -/
def deriveKnownUptoRow : OpenClaim := { program := "ythagednepehliaadoor", sum := "b2469f8efddad5db258a99a1d0add29c50e32e1092573f42936993eaa31e728d", func := "casemate/casematelaw09.DeriveKnown", spec := "deriveKnown", unfollowed := true, recurses := true, named := ["casemate/sha.salts"], apart := false, laid := [("casemate/sha.salts", laid_casemate_sha_salts)], narrowed := true }
def DeriveKnownUptoSaid : Prop := deriveKnownUptoRow.holds Tryd.pinned (OpenSpec.upto deriveKnownSpec)

/-- 'casematelaw09.DeriveSubs', WHERE WHAT IT READS IS OF BULK AT MOST 1048576: true; the input reads as it did. -/
def deriveSubsUptoRow : OpenClaim := { program := "ythagednepehliaadoor", sum := "b2469f8efddad5db258a99a1d0add29c50e32e1092573f42936993eaa31e728d", func := "casemate/casematelaw09.DeriveSubs", spec := "deriveSubs", unfollowed := true, recurses := true, named := ["casemate/sha.salts"], apart := false, laid := [("casemate/sha.salts", laid_casemate_sha_salts)], narrowed := true }
def DeriveSubsUptoSaid : Prop := deriveSubsUptoRow.holds Tryd.pinned (OpenSpec.upto deriveSubsSpec)

/-- 'casematelaw05.PbkdfKeys', WHERE WHAT IT READS IS OF BULK AT MOST 1048576: true; the input reads as it did. -/
def pbkdfKeysUptoRow : OpenClaim := { program := "ythagednepehliaadoor", sum := "b2469f8efddad5db258a99a1d0add29c50e32e1092573f42936993eaa31e728d", func := "casemate/casematelaw05.PbkdfKeys", spec := "pbkdfKeys", unfollowed := true, recurses := true, named := ["casemate/sha.salts"], apart := false, laid := [("casemate/sha.salts", laid_casemate_sha_salts)], narrowed := true }
def PbkdfKeysUptoSaid : Prop := pbkdfKeysUptoRow.holds Tryd.pinned (OpenSpec.upto pbkdfKeysSpec)

/-- 'casematelaw09.DeriveSets', WHERE WHAT IT READS IS OF BULK AT MOST 1048576: true; the input reads as it did. -/
def deriveSetsUptoRow : OpenClaim := { program := "ythagednepehliaadoor", sum := "b2469f8efddad5db258a99a1d0add29c50e32e1092573f42936993eaa31e728d", func := "casemate/casematelaw09.DeriveSets", spec := "deriveSets", unfollowed := true, recurses := true, named := ["casemate/sha.salts"], apart := false, laid := [("casemate/sha.salts", laid_casemate_sha_salts)], narrowed := true }
def DeriveSetsUptoSaid : Prop := deriveSetsUptoRow.holds Tryd.pinned (OpenSpec.upto deriveSetsSpec)

/-- 'casematelaw09.DeriveRows', WHERE WHAT IT READS IS OF BULK AT MOST 1048576: true; the input reads as it did. -/
def deriveRowsUptoRow : OpenClaim := { program := "ythagednepehliaadoor", sum := "b2469f8efddad5db258a99a1d0add29c50e32e1092573f42936993eaa31e728d", func := "casemate/casematelaw09.DeriveRows", spec := "deriveRows", unfollowed := true, recurses := true, named := ["casemate/sha.salts"], apart := false, laid := [("casemate/sha.salts", laid_casemate_sha_salts)], narrowed := true }
def DeriveRowsUptoSaid : Prop := deriveRowsUptoRow.holds Tryd.pinned (OpenSpec.upto deriveRowsSpec)

end Rows
end Go.Proofs.YthagednepehliaaDoor
