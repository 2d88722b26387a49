/-
  NARROWER THAN 'FOR EVERY INPUT', by the rows' own cells (each row's printed sentence says how): BoxTold: laid · BoxWraps: laid · BoxLays: laid · BoxBack: laid · BoxKnown: laid · SlotsBoxes: laid · SlotsRemoves: laid · SlotsKnown: laid · SlotsOpen: laid · SlotsApart: laid · SlotsUnlocks: laid.
  DERIVED. THE GIVEN ROWS OF THIS SEAT. 11 by the template 'for every input the law returns true; each argument reads behind the call as it read before'; 0 by the template 'total and deterministic' (their statements: YtniekapfoaiieaaDoorTotals.lean).
  GIVEN WITH THE SEED: the statements are not yours to turn. If you find one false, say at which input.
  Laid BY PROGRAM, IN A SANDBOX (cutbox-rows.mjs): the forced cells as the released guide's own fill.sh prints them over the translation 15f5716490f7371f… (all of the seat's roots in one cut). By AI agents, Wed Nov 11 2026. No macro, syntax, notation, axiom, sorry.
-/
import Derived.Test.YtniekapfoaiieaaDoorChecked
import GoSem.Claim
import GoSem.ClaimJoined
import GoSem.ClaimMapViews
import Derived.JoinedTies
import Derived.KernelRfl
namespace Go.Proofs.YtniekapfoaiieaaDoor
/- THE CELL 'sum', in the pinned program and in every row, IS THE sha256 OF THE DUMP (.gsa) THAT YtniekapfoaiieaaDoorProg.lean LOADS. Nothing in Lean hashes anything: it is a label: what it is worth is what the hold of that sum in a sandbox is worth. -/
noncomputable def Tryd.pinned : Pinned := { name := "ytniekapfoaiieaadoor", sum := "15f5716490f7371f6e236c055584fca13816e095856409c04463bd14380ce530", checked := Tryd.checked }
namespace Rows
def none {H : Type} : Left H := { results := [], args := [] }

/- WHAT THE LISTED PACKAGE-LEVEL VARIABLES READ AS WHEN THE CALL BEGINS. Each datum BY PROGRAM (the guide's laid-datum.mjs) off the statement by which the dump's own 'gosem.cut.vars' lays the variable. In a bare row this is a premise. The card (YtniekapfoaiieaaDoorCards.lean) ties it to the program's text. -/
def laid_math_bits_deBruijn32tab {H : Type} : DataW H := .agg [.lit (.int .u8 0), .lit (.int .u8 1), .lit (.int .u8 28), .lit (.int .u8 2), .lit (.int .u8 29), .lit (.int .u8 14), .lit (.int .u8 24), .lit (.int .u8 3), .lit (.int .u8 30), .lit (.int .u8 22), .lit (.int .u8 20), .lit (.int .u8 15), .lit (.int .u8 25), .lit (.int .u8 17), .lit (.int .u8 4), .lit (.int .u8 8), .lit (.int .u8 31), .lit (.int .u8 27), .lit (.int .u8 13), .lit (.int .u8 23), .lit (.int .u8 21), .lit (.int .u8 19), .lit (.int .u8 16), .lit (.int .u8 7), .lit (.int .u8 26), .lit (.int .u8 12), .lit (.int .u8 18), .lit (.int .u8 6), .lit (.int .u8 11), .lit (.int .u8 5), .lit (.int .u8 10), .lit (.int .u8 9)]
def laid_math_bits_deBruijn64tab {H : Type} : DataW H := .agg [.lit (.int .u8 0), .lit (.int .u8 1), .lit (.int .u8 56), .lit (.int .u8 2), .lit (.int .u8 57), .lit (.int .u8 49), .lit (.int .u8 28), .lit (.int .u8 3), .lit (.int .u8 61), .lit (.int .u8 58), .lit (.int .u8 42), .lit (.int .u8 50), .lit (.int .u8 38), .lit (.int .u8 29), .lit (.int .u8 17), .lit (.int .u8 4), .lit (.int .u8 62), .lit (.int .u8 47), .lit (.int .u8 59), .lit (.int .u8 36), .lit (.int .u8 45), .lit (.int .u8 43), .lit (.int .u8 51), .lit (.int .u8 22), .lit (.int .u8 53), .lit (.int .u8 39), .lit (.int .u8 33), .lit (.int .u8 30), .lit (.int .u8 24), .lit (.int .u8 18), .lit (.int .u8 12), .lit (.int .u8 5), .lit (.int .u8 63), .lit (.int .u8 55), .lit (.int .u8 48), .lit (.int .u8 27), .lit (.int .u8 60), .lit (.int .u8 41), .lit (.int .u8 37), .lit (.int .u8 16), .lit (.int .u8 46), .lit (.int .u8 35), .lit (.int .u8 44), .lit (.int .u8 21), .lit (.int .u8 52), .lit (.int .u8 32), .lit (.int .u8 23), .lit (.int .u8 11), .lit (.int .u8 54), .lit (.int .u8 26), .lit (.int .u8 40), .lit (.int .u8 15), .lit (.int .u8 34), .lit (.int .u8 20), .lit (.int .u8 31), .lit (.int .u8 10), .lit (.int .u8 25), .lit (.int .u8 14), .lit (.int .u8 19), .lit (.int .u8 9), .lit (.int .u8 13), .lit (.int .u8 8), .lit (.int .u8 7), .lit (.int .u8 6)]
def laid_internal_strconv_uint64pow10 {H : Type} : DataW H := .agg [.lit (.int .u64 1), .lit (.int .u64 10), .lit (.int .u64 100), .lit (.int .u64 1000), .lit (.int .u64 10000), .lit (.int .u64 100000), .lit (.int .u64 1000000), .lit (.int .u64 10000000), .lit (.int .u64 100000000), .lit (.int .u64 1000000000), .lit (.int .u64 10000000000), .lit (.int .u64 100000000000), .lit (.int .u64 1000000000000), .lit (.int .u64 10000000000000), .lit (.int .u64 100000000000000), .lit (.int .u64 1000000000000000), .lit (.int .u64 10000000000000000), .lit (.int .u64 100000000000000000), .lit (.int .u64 1000000000000000000), .lit (.int .u64 10000000000000000000)]
def laid_casemate_sha_salts {H : Type} : DataW H := .agg [.lit (.int .u32 1116352408), .lit (.int .u32 1899447441), .lit (.int .u32 3049323471), .lit (.int .u32 3921009573), .lit (.int .u32 961987163), .lit (.int .u32 1508970993), .lit (.int .u32 2453635748), .lit (.int .u32 2870763221), .lit (.int .u32 3624381080), .lit (.int .u32 310598401), .lit (.int .u32 607225278), .lit (.int .u32 1426881987), .lit (.int .u32 1925078388), .lit (.int .u32 2162078206), .lit (.int .u32 2614888103), .lit (.int .u32 3248222580), .lit (.int .u32 3835390401), .lit (.int .u32 4022224774), .lit (.int .u32 264347078), .lit (.int .u32 604807628), .lit (.int .u32 770255983), .lit (.int .u32 1249150122), .lit (.int .u32 1555081692), .lit (.int .u32 1996064986), .lit (.int .u32 2554220882), .lit (.int .u32 2821834349), .lit (.int .u32 2952996808), .lit (.int .u32 3210313671), .lit (.int .u32 3336571891), .lit (.int .u32 3584528711), .lit (.int .u32 113926993), .lit (.int .u32 338241895), .lit (.int .u32 666307205), .lit (.int .u32 773529912), .lit (.int .u32 1294757372), .lit (.int .u32 1396182291), .lit (.int .u32 1695183700), .lit (.int .u32 1986661051), .lit (.int .u32 2177026350), .lit (.int .u32 2456956037), .lit (.int .u32 2730485921), .lit (.int .u32 2820302411), .lit (.int .u32 3259730800), .lit (.int .u32 3345764771), .lit (.int .u32 3516065817), .lit (.int .u32 3600352804), .lit (.int .u32 4094571909), .lit (.int .u32 275423344), .lit (.int .u32 430227734), .lit (.int .u32 506948616), .lit (.int .u32 659060556), .lit (.int .u32 883997877), .lit (.int .u32 958139571), .lit (.int .u32 1322822218), .lit (.int .u32 1537002063), .lit (.int .u32 1747873779), .lit (.int .u32 1955562222), .lit (.int .u32 2024104815), .lit (.int .u32 2227730452), .lit (.int .u32 2361852424), .lit (.int .u32 2428436474), .lit (.int .u32 2756734187), .lit (.int .u32 3204031479), .lit (.int .u32 3329325298)]

/-- 'casematelaw10.BoxTold': WHATEVER THE INPUT: true; the input reads as it did. -/
def boxToldSpec : ChangeSpec := { name := "boxTold", fn := fun _ => fun
  | [d1, d2, d3] => { results := [.lit (.bool true)], args := [d1, d2, d3] }
  | _ => none }
def boxToldRow : OpenClaim := { program := "ytniekapfoaiieaadoor", sum := "15f5716490f7371f6e236c055584fca13816e095856409c04463bd14380ce530", func := "casemate/casematelaw10.BoxTold", spec := "boxTold", unfollowed := true, recurses := true, named := ["internal/strconv.uint64pow10", "math/bits.deBruijn32tab", "math/bits.deBruijn64tab", "casemate/sha.salts"], apart := false, laid := [("math/bits.deBruijn32tab", laid_math_bits_deBruijn32tab), ("math/bits.deBruijn64tab", laid_math_bits_deBruijn64tab), ("internal/strconv.uint64pow10", laid_internal_strconv_uint64pow10), ("casemate/sha.salts", laid_casemate_sha_salts)] }
def BoxToldSaid : Prop := boxToldRow.holds Tryd.pinned (OpenSpec.ofChange boxToldSpec)

/-- ITS FALSE NEIGHBOUR: 'it returns false'. Refute it at one input. -/
def boxToldWrong : ChangeSpec := { name := "boxTold", fn := fun _ => fun
  | [d1, d2, d3] => { results := [.lit (.bool false)], args := [d1, d2, d3] }
  | _ => none }
def BoxToldWrongFalsely : Prop := boxToldRow.holds Tryd.pinned (OpenSpec.ofChange boxToldWrong)

/-- 'casematelaw10.BoxWraps': WHATEVER THE INPUT: true; the input reads as it did. -/
def boxWrapsSpec : ChangeSpec := { name := "boxWraps", fn := fun _ => fun
  | [d1, d2, d3] => { results := [.lit (.bool true)], args := [d1, d2, d3] }
  | _ => none }
def boxWrapsRow : OpenClaim := { program := "ytniekapfoaiieaadoor", sum := "15f5716490f7371f6e236c055584fca13816e095856409c04463bd14380ce530", func := "casemate/casematelaw10.BoxWraps", spec := "boxWraps", unfollowed := true, recurses := true, named := ["internal/strconv.uint64pow10", "math/bits.deBruijn32tab", "math/bits.deBruijn64tab", "casemate/sha.salts"], apart := false, laid := [("math/bits.deBruijn32tab", laid_math_bits_deBruijn32tab), ("math/bits.deBruijn64tab", laid_math_bits_deBruijn64tab), ("internal/strconv.uint64pow10", laid_internal_strconv_uint64pow10), ("casemate/sha.salts", laid_casemate_sha_salts)] }
def BoxWrapsSaid : Prop := boxWrapsRow.holds Tryd.pinned (OpenSpec.ofChange boxWrapsSpec)

/-- ITS FALSE NEIGHBOUR: 'it returns false'. Refute it at one input. -/
def boxWrapsWrong : ChangeSpec := { name := "boxWraps", fn := fun _ => fun
  | [d1, d2, d3] => { results := [.lit (.bool false)], args := [d1, d2, d3] }
  | _ => none }
def BoxWrapsWrongFalsely : Prop := boxWrapsRow.holds Tryd.pinned (OpenSpec.ofChange boxWrapsWrong)

/-- 'casematelaw10.BoxLays': WHATEVER THE INPUT: true; the input reads as it did. -/
def boxLaysSpec : ChangeSpec := { name := "boxLays", fn := fun _ => fun
  | [d1, d2] => { results := [.lit (.bool true)], args := [d1, d2] }
  | _ => none }
def boxLaysRow : OpenClaim := { program := "ytniekapfoaiieaadoor", sum := "15f5716490f7371f6e236c055584fca13816e095856409c04463bd14380ce530", func := "casemate/casematelaw10.BoxLays", spec := "boxLays", unfollowed := true, recurses := true, named := ["internal/strconv.uint64pow10", "math/bits.deBruijn32tab", "math/bits.deBruijn64tab", "casemate/sha.salts"], apart := false, laid := [("math/bits.deBruijn32tab", laid_math_bits_deBruijn32tab), ("math/bits.deBruijn64tab", laid_math_bits_deBruijn64tab), ("internal/strconv.uint64pow10", laid_internal_strconv_uint64pow10), ("casemate/sha.salts", laid_casemate_sha_salts)] }
def BoxLaysSaid : Prop := boxLaysRow.holds Tryd.pinned (OpenSpec.ofChange boxLaysSpec)

/-- ITS FALSE NEIGHBOUR: 'it returns false'. Refute it at one input. -/
def boxLaysWrong : ChangeSpec := { name := "boxLays", fn := fun _ => fun
  | [d1, d2] => { results := [.lit (.bool false)], args := [d1, d2] }
  | _ => none }
def BoxLaysWrongFalsely : Prop := boxLaysRow.holds Tryd.pinned (OpenSpec.ofChange boxLaysWrong)

/-- 'casematelaw10.BoxBack': WHATEVER THE INPUT: true; the input reads as it did. -/
def boxBackSpec : ChangeSpec := { name := "boxBack", fn := fun _ => fun
  | [d1, d2, d3] => { results := [.lit (.bool true)], args := [d1, d2, d3] }
  | _ => none }
def boxBackRow : OpenClaim := { program := "ytniekapfoaiieaadoor", sum := "15f5716490f7371f6e236c055584fca13816e095856409c04463bd14380ce530", func := "casemate/casematelaw10.BoxBack", spec := "boxBack", unfollowed := true, recurses := true, named := ["internal/strconv.uint64pow10", "math/bits.deBruijn32tab", "math/bits.deBruijn64tab", "casemate/sha.salts"], apart := false, laid := [("math/bits.deBruijn32tab", laid_math_bits_deBruijn32tab), ("math/bits.deBruijn64tab", laid_math_bits_deBruijn64tab), ("internal/strconv.uint64pow10", laid_internal_strconv_uint64pow10), ("casemate/sha.salts", laid_casemate_sha_salts)] }
def BoxBackSaid : Prop := boxBackRow.holds Tryd.pinned (OpenSpec.ofChange boxBackSpec)

/-- ITS FALSE NEIGHBOUR: 'it returns false'. Refute it at one input. -/
def boxBackWrong : ChangeSpec := { name := "boxBack", fn := fun _ => fun
  | [d1, d2, d3] => { results := [.lit (.bool false)], args := [d1, d2, d3] }
  | _ => none }
def BoxBackWrongFalsely : Prop := boxBackRow.holds Tryd.pinned (OpenSpec.ofChange boxBackWrong)

/-- 'casematelaw10.BoxKnown': WHATEVER THE INPUT: true; the input reads as it did. -/
def boxKnownSpec : ChangeSpec := { name := "boxKnown", fn := fun _ => fun
  | [] => { results := [.lit (.bool true)], args := [] }
  | _ => none }
def boxKnownRow : OpenClaim := { program := "ytniekapfoaiieaadoor", sum := "15f5716490f7371f6e236c055584fca13816e095856409c04463bd14380ce530", func := "casemate/casematelaw10.BoxKnown", spec := "boxKnown", unfollowed := true, recurses := true, named := ["internal/strconv.uint64pow10", "math/bits.deBruijn32tab", "math/bits.deBruijn64tab", "casemate/sha.salts"], apart := false, laid := [("math/bits.deBruijn32tab", laid_math_bits_deBruijn32tab), ("math/bits.deBruijn64tab", laid_math_bits_deBruijn64tab), ("internal/strconv.uint64pow10", laid_internal_strconv_uint64pow10), ("casemate/sha.salts", laid_casemate_sha_salts)] }
def BoxKnownSaid : Prop := boxKnownRow.holds Tryd.pinned (OpenSpec.ofChange boxKnownSpec)

/-- ITS FALSE NEIGHBOUR: 'it returns false'. Refute it at one input. -/
def boxKnownWrong : ChangeSpec := { name := "boxKnown", fn := fun _ => fun
  | [] => { results := [.lit (.bool false)], args := [] }
  | _ => none }
def BoxKnownWrongFalsely : Prop := boxKnownRow.holds Tryd.pinned (OpenSpec.ofChange boxKnownWrong)

/-- 'casematelaw25.SlotsBoxes': WHATEVER THE INPUT: true; the input reads as it did. -/
def slotsBoxesSpec : ChangeSpec := { name := "slotsBoxes", fn := fun _ => fun
  | [d1, d2] => { results := [.lit (.bool true)], args := [d1, d2] }
  | _ => none }
def slotsBoxesRow : OpenClaim := { program := "ytniekapfoaiieaadoor", sum := "15f5716490f7371f6e236c055584fca13816e095856409c04463bd14380ce530", func := "casemate/casematelaw25.SlotsBoxes", spec := "slotsBoxes", unfollowed := true, recurses := true, named := ["casemate/sha.salts", "internal/strconv.uint64pow10", "math/bits.deBruijn32tab", "math/bits.deBruijn64tab"], apart := false, laid := [("math/bits.deBruijn32tab", laid_math_bits_deBruijn32tab), ("math/bits.deBruijn64tab", laid_math_bits_deBruijn64tab), ("internal/strconv.uint64pow10", laid_internal_strconv_uint64pow10), ("casemate/sha.salts", laid_casemate_sha_salts)] }
def SlotsBoxesSaid : Prop := slotsBoxesRow.holds Tryd.pinned (OpenSpec.ofChange slotsBoxesSpec)

/-- ITS FALSE NEIGHBOUR: 'it returns false'. Refute it at one input. -/
def slotsBoxesWrong : ChangeSpec := { name := "slotsBoxes", fn := fun _ => fun
  | [d1, d2] => { results := [.lit (.bool false)], args := [d1, d2] }
  | _ => none }
def SlotsBoxesWrongFalsely : Prop := slotsBoxesRow.holds Tryd.pinned (OpenSpec.ofChange slotsBoxesWrong)

/-- 'casematelaw25.SlotsRemoves': WHATEVER THE INPUT: true; the input reads as it did. -/
def slotsRemovesSpec : ChangeSpec := { name := "slotsRemoves", fn := fun _ => fun
  | [d1, d2] => { results := [.lit (.bool true)], args := [d1, d2] }
  | _ => none }
def slotsRemovesRow : OpenClaim := { program := "ytniekapfoaiieaadoor", sum := "15f5716490f7371f6e236c055584fca13816e095856409c04463bd14380ce530", func := "casemate/casematelaw25.SlotsRemoves", spec := "slotsRemoves", unfollowed := true, recurses := true, named := ["casemate/sha.salts", "internal/strconv.uint64pow10", "math/bits.deBruijn32tab", "math/bits.deBruijn64tab"], apart := false, laid := [("math/bits.deBruijn32tab", laid_math_bits_deBruijn32tab), ("math/bits.deBruijn64tab", laid_math_bits_deBruijn64tab), ("internal/strconv.uint64pow10", laid_internal_strconv_uint64pow10), ("casemate/sha.salts", laid_casemate_sha_salts)] }
def SlotsRemovesSaid : Prop := slotsRemovesRow.holds Tryd.pinned (OpenSpec.ofChange slotsRemovesSpec)

/-- ITS FALSE NEIGHBOUR: 'it returns false'. Refute it at one input. -/
def slotsRemovesWrong : ChangeSpec := { name := "slotsRemoves", fn := fun _ => fun
  | [d1, d2] => { results := [.lit (.bool false)], args := [d1, d2] }
  | _ => none }
def SlotsRemovesWrongFalsely : Prop := slotsRemovesRow.holds Tryd.pinned (OpenSpec.ofChange slotsRemovesWrong)

/-- 'casematelaw25.SlotsKnown': WHATEVER THE INPUT: true; the input reads as it did. -/
def slotsKnownSpec : ChangeSpec := { name := "slotsKnown", fn := fun _ => fun
  | [] => { results := [.lit (.bool true)], args := [] }
  | _ => none }
def slotsKnownRow : OpenClaim := { program := "ytniekapfoaiieaadoor", sum := "15f5716490f7371f6e236c055584fca13816e095856409c04463bd14380ce530", func := "casemate/casematelaw25.SlotsKnown", spec := "slotsKnown", unfollowed := true, recurses := true, named := ["casemate/sha.salts", "internal/strconv.uint64pow10", "math/bits.deBruijn32tab", "math/bits.deBruijn64tab"], apart := false, laid := [("math/bits.deBruijn32tab", laid_math_bits_deBruijn32tab), ("math/bits.deBruijn64tab", laid_math_bits_deBruijn64tab), ("internal/strconv.uint64pow10", laid_internal_strconv_uint64pow10), ("casemate/sha.salts", laid_casemate_sha_salts)] }
def SlotsKnownSaid : Prop := slotsKnownRow.holds Tryd.pinned (OpenSpec.ofChange slotsKnownSpec)

/-- ITS FALSE NEIGHBOUR: 'it returns false'. Refute it at one input. -/
def slotsKnownWrong : ChangeSpec := { name := "slotsKnown", fn := fun _ => fun
  | [] => { results := [.lit (.bool false)], args := [] }
  | _ => none }
def SlotsKnownWrongFalsely : Prop := slotsKnownRow.holds Tryd.pinned (OpenSpec.ofChange slotsKnownWrong)

/-- 'casematelaw25.SlotsOpen': WHATEVER THE INPUT: true; the input reads as it did. -/
def slotsOpenSpec : ChangeSpec := { name := "slotsOpen", fn := fun _ => fun
  | [d1, d2, d3] => { results := [.lit (.bool true)], args := [d1, d2, d3] }
  | _ => none }
def slotsOpenRow : OpenClaim := { program := "ytniekapfoaiieaadoor", sum := "15f5716490f7371f6e236c055584fca13816e095856409c04463bd14380ce530", func := "casemate/casematelaw25.SlotsOpen", spec := "slotsOpen", unfollowed := true, recurses := true, named := ["casemate/sha.salts", "internal/strconv.uint64pow10", "math/bits.deBruijn32tab", "math/bits.deBruijn64tab"], apart := false, laid := [("math/bits.deBruijn32tab", laid_math_bits_deBruijn32tab), ("math/bits.deBruijn64tab", laid_math_bits_deBruijn64tab), ("internal/strconv.uint64pow10", laid_internal_strconv_uint64pow10), ("casemate/sha.salts", laid_casemate_sha_salts)] }
def SlotsOpenSaid : Prop := slotsOpenRow.holds Tryd.pinned (OpenSpec.ofChange slotsOpenSpec)

/-- ITS FALSE NEIGHBOUR: 'it returns false'. Refute it at one input. -/
def slotsOpenWrong : ChangeSpec := { name := "slotsOpen", fn := fun _ => fun
  | [d1, d2, d3] => { results := [.lit (.bool false)], args := [d1, d2, d3] }
  | _ => none }
def SlotsOpenWrongFalsely : Prop := slotsOpenRow.holds Tryd.pinned (OpenSpec.ofChange slotsOpenWrong)

/-- 'casematelaw25.SlotsApart': WHATEVER THE INPUT: true; the input reads as it did. -/
def slotsApartSpec : ChangeSpec := { name := "slotsApart", fn := fun _ => fun
  | [d1, d2] => { results := [.lit (.bool true)], args := [d1, d2] }
  | _ => none }
def slotsApartRow : OpenClaim := { program := "ytniekapfoaiieaadoor", sum := "15f5716490f7371f6e236c055584fca13816e095856409c04463bd14380ce530", func := "casemate/casematelaw25.SlotsApart", spec := "slotsApart", unfollowed := true, recurses := true, named := ["casemate/sha.salts", "internal/strconv.uint64pow10", "math/bits.deBruijn32tab", "math/bits.deBruijn64tab"], apart := false, laid := [("math/bits.deBruijn32tab", laid_math_bits_deBruijn32tab), ("math/bits.deBruijn64tab", laid_math_bits_deBruijn64tab), ("internal/strconv.uint64pow10", laid_internal_strconv_uint64pow10), ("casemate/sha.salts", laid_casemate_sha_salts)] }
def SlotsApartSaid : Prop := slotsApartRow.holds Tryd.pinned (OpenSpec.ofChange slotsApartSpec)

/-- ITS FALSE NEIGHBOUR: 'it returns false'. Refute it at one input. -/
def slotsApartWrong : ChangeSpec := { name := "slotsApart", fn := fun _ => fun
  | [d1, d2] => { results := [.lit (.bool false)], args := [d1, d2] }
  | _ => none }
def SlotsApartWrongFalsely : Prop := slotsApartRow.holds Tryd.pinned (OpenSpec.ofChange slotsApartWrong)

/-- 'casematelaw25.SlotsUnlocks': WHATEVER THE INPUT: true; the input reads as it did. -/
def slotsUnlocksSpec : ChangeSpec := { name := "slotsUnlocks", fn := fun _ => fun
  | [d1, d2] => { results := [.lit (.bool true)], args := [d1, d2] }
  | _ => none }
def slotsUnlocksRow : OpenClaim := { program := "ytniekapfoaiieaadoor", sum := "15f5716490f7371f6e236c055584fca13816e095856409c04463bd14380ce530", func := "casemate/casematelaw25.SlotsUnlocks", spec := "slotsUnlocks", unfollowed := true, recurses := true, named := ["casemate/sha.salts", "internal/strconv.uint64pow10", "math/bits.deBruijn32tab", "math/bits.deBruijn64tab"], apart := false, laid := [("math/bits.deBruijn32tab", laid_math_bits_deBruijn32tab), ("math/bits.deBruijn64tab", laid_math_bits_deBruijn64tab), ("internal/strconv.uint64pow10", laid_internal_strconv_uint64pow10), ("casemate/sha.salts", laid_casemate_sha_salts)] }
def SlotsUnlocksSaid : Prop := slotsUnlocksRow.holds Tryd.pinned (OpenSpec.ofChange slotsUnlocksSpec)

/-- ITS FALSE NEIGHBOUR: 'it returns false'. Refute it at one input. -/
def slotsUnlocksWrong : ChangeSpec := { name := "slotsUnlocks", fn := fun _ => fun
  | [d1, d2] => { results := [.lit (.bool false)], args := [d1, d2] }
  | _ => none }
def SlotsUnlocksWrongFalsely : Prop := slotsUnlocksRow.holds Tryd.pinned (OpenSpec.ofChange slotsUnlocksWrong)

/- THE SECOND FORM. 'bulk': how many values and letters a reading holds, each counted each time it is reached (what is shared counts as often as it is met; a slice's spare places count too). A statement '..UptoSaid' is the law's where the arguments, and the package variables that the reading takes, are together of bulk at most 1048576: NARROWER than '..Said'. Prove '..Said' where nothing that the law and all that it calls make is longer than what came in: it says more and counts as full. Else prove '..UptoSaid'. A law counts once. -/
mutual
def uptoBulk {H : Type} : DataW H → Nat
  | .lit (.string bytes) => bytes.length + 1
  | .lit _ => 1
  | .nil => 1
  | .ptr d => uptoBulk d + 1
  | .slice elems spare => uptoBulkAll elems + uptoBulkAll spare + 1
  | .agg parts => uptoBulkAll parts + 1
  | .iface _ d => uptoBulk d + 1
  | .map entries => uptoBulkEntries entries + 1
  | .held _ => 1
def uptoBulkAll {H : Type} : List (DataW H) → Nat
  | [] => 0
  | d :: r => uptoBulk d + uptoBulkAll r
def uptoBulkEntries {H : Type} : List (Lit × DataW H) → Nat
  | [] => 0
  | x :: r => uptoBulkEntry x + uptoBulkEntries r
def uptoBulkEntry {H : Type} : Lit × DataW H → Nat
  | (.string bytes, d) => bytes.length + uptoBulk d + 1
  | (_, d) => uptoBulk d + 1
 end
def uptoSmall : (H : Type) → List (DataW H) → Bool := fun _ ds => decide (uptoBulkAll ds ≤ 1048576)
def OpenSpec.upto (s : _root_.Go.ChangeSpec) : _root_.Go.OpenSpec := { _root_.Go.OpenSpec.ofChange s with cond := some uptoSmall }

/-- 'casematelaw10.BoxTold', WHERE WHAT IT READS IS OF BULK AT MOST 1048576: true; the input reads as it did. -/
def boxToldUptoRow : OpenClaim := { program := "ytniekapfoaiieaadoor", sum := "15f5716490f7371f6e236c055584fca13816e095856409c04463bd14380ce530", func := "casemate/casematelaw10.BoxTold", spec := "boxTold", unfollowed := true, recurses := true, named := ["internal/strconv.uint64pow10", "math/bits.deBruijn32tab", "math/bits.deBruijn64tab", "casemate/sha.salts"], apart := false, laid := [("math/bits.deBruijn32tab", laid_math_bits_deBruijn32tab), ("math/bits.deBruijn64tab", laid_math_bits_deBruijn64tab), ("internal/strconv.uint64pow10", laid_internal_strconv_uint64pow10), ("casemate/sha.salts", laid_casemate_sha_salts)], narrowed := true }
def BoxToldUptoSaid : Prop := boxToldUptoRow.holds Tryd.pinned (OpenSpec.upto boxToldSpec)

/-- 'casematelaw10.BoxWraps', WHERE WHAT IT READS IS OF BULK AT MOST 1048576: true; the input reads as it did. -/
def boxWrapsUptoRow : OpenClaim := { program := "ytniekapfoaiieaadoor", sum := "15f5716490f7371f6e236c055584fca13816e095856409c04463bd14380ce530", func := "casemate/casematelaw10.BoxWraps", spec := "boxWraps", unfollowed := true, recurses := true, named := ["internal/strconv.uint64pow10", "math/bits.deBruijn32tab", "math/bits.deBruijn64tab", "casemate/sha.salts"], apart := false, laid := [("math/bits.deBruijn32tab", laid_math_bits_deBruijn32tab), ("math/bits.deBruijn64tab", laid_math_bits_deBruijn64tab), ("internal/strconv.uint64pow10", laid_internal_strconv_uint64pow10), ("casemate/sha.salts", laid_casemate_sha_salts)], narrowed := true }
def BoxWrapsUptoSaid : Prop := boxWrapsUptoRow.holds Tryd.pinned (OpenSpec.upto boxWrapsSpec)

/-- 'casematelaw10.BoxLays', WHERE WHAT IT READS IS OF BULK AT MOST 1048576: true; the input reads as it did. -/
def boxLaysUptoRow : OpenClaim := { program := "ytniekapfoaiieaadoor", sum := "15f5716490f7371f6e236c055584fca13816e095856409c04463bd14380ce530", func := "casemate/casematelaw10.BoxLays", spec := "boxLays", unfollowed := true, recurses := true, named := ["internal/strconv.uint64pow10", "math/bits.deBruijn32tab", "math/bits.deBruijn64tab", "casemate/sha.salts"], apart := false, laid := [("math/bits.deBruijn32tab", laid_math_bits_deBruijn32tab), ("math/bits.deBruijn64tab", laid_math_bits_deBruijn64tab), ("internal/strconv.uint64pow10", laid_internal_strconv_uint64pow10), ("casemate/sha.salts", laid_casemate_sha_salts)], narrowed := true }
def BoxLaysUptoSaid : Prop := boxLaysUptoRow.holds Tryd.pinned (OpenSpec.upto boxLaysSpec)

/-- 'casematelaw10.BoxBack', WHERE WHAT IT READS IS OF BULK AT MOST 1048576: true; the input reads as it did. -/
def boxBackUptoRow : OpenClaim := { program := "ytniekapfoaiieaadoor", sum := "15f5716490f7371f6e236c055584fca13816e095856409c04463bd14380ce530", func := "casemate/casematelaw10.BoxBack", spec := "boxBack", unfollowed := true, recurses := true, named := ["internal/strconv.uint64pow10", "math/bits.deBruijn32tab", "math/bits.deBruijn64tab", "casemate/sha.salts"], apart := false, laid := [("math/bits.deBruijn32tab", laid_math_bits_deBruijn32tab), ("math/bits.deBruijn64tab", laid_math_bits_deBruijn64tab), ("internal/strconv.uint64pow10", laid_internal_strconv_uint64pow10), ("casemate/sha.salts", laid_casemate_sha_salts)], narrowed := true }
def BoxBackUptoSaid : Prop := boxBackUptoRow.holds Tryd.pinned (OpenSpec.upto boxBackSpec)

/-- 'casematelaw10.BoxKnown', WHERE WHAT IT READS IS OF BULK AT MOST 1048576: true; the input reads as it did. -/
def boxKnownUptoRow : OpenClaim := { program := "ytniekapfoaiieaadoor", sum := "15f5716490f7371f6e236c055584fca13816e095856409c04463bd14380ce530", func := "casemate/casematelaw10.BoxKnown", spec := "boxKnown", unfollowed := true, recurses := true, named := ["internal/strconv.uint64pow10", "math/bits.deBruijn32tab", "math/bits.deBruijn64tab", "casemate/sha.salts"], apart := false, laid := [("math/bits.deBruijn32tab", laid_math_bits_deBruijn32tab), ("math/bits.deBruijn64tab", laid_math_bits_deBruijn64tab), ("internal/strconv.uint64pow10", laid_internal_strconv_uint64pow10), ("casemate/sha.salts", laid_casemate_sha_salts)], narrowed := true }
def BoxKnownUptoSaid : Prop := boxKnownUptoRow.holds Tryd.pinned (OpenSpec.upto boxKnownSpec)

/-- 'casematelaw25.SlotsBoxes', WHERE WHAT IT READS IS OF BULK AT MOST 1048576: true; the input reads as it did. -/
def slotsBoxesUptoRow : OpenClaim := { program := "ytniekapfoaiieaadoor", sum := "15f5716490f7371f6e236c055584fca13816e095856409c04463bd14380ce530", func := "casemate/casematelaw25.SlotsBoxes", spec := "slotsBoxes", unfollowed := true, recurses := true, named := ["casemate/sha.salts", "internal/strconv.uint64pow10", "math/bits.deBruijn32tab", "math/bits.deBruijn64tab"], apart := false, laid := [("math/bits.deBruijn32tab", laid_math_bits_deBruijn32tab), ("math/bits.deBruijn64tab", laid_math_bits_deBruijn64tab), ("internal/strconv.uint64pow10", laid_internal_strconv_uint64pow10), ("casemate/sha.salts", laid_casemate_sha_salts)], narrowed := true }
def SlotsBoxesUptoSaid : Prop := slotsBoxesUptoRow.holds Tryd.pinned (OpenSpec.upto slotsBoxesSpec)

/-- 'casematelaw25.SlotsRemoves', WHERE WHAT IT READS IS OF BULK AT MOST 1048576: true; the input reads as it did. -/
def slotsRemovesUptoRow : OpenClaim := { program := "ytniekapfoaiieaadoor", sum := "15f5716490f7371f6e236c055584fca13816e095856409c04463bd14380ce530", func := "casemate/casematelaw25.SlotsRemoves", spec := "slotsRemoves", unfollowed := true, recurses := true, named := ["casemate/sha.salts", "internal/strconv.uint64pow10", "math/bits.deBruijn32tab", "math/bits.deBruijn64tab"], apart := false, laid := [("math/bits.deBruijn32tab", laid_math_bits_deBruijn32tab), ("math/bits.deBruijn64tab", laid_math_bits_deBruijn64tab), ("internal/strconv.uint64pow10", laid_internal_strconv_uint64pow10), ("casemate/sha.salts", laid_casemate_sha_salts)], narrowed := true }
def SlotsRemovesUptoSaid : Prop := slotsRemovesUptoRow.holds Tryd.pinned (OpenSpec.upto slotsRemovesSpec)

/-- 'casematelaw25.SlotsKnown', WHERE WHAT IT READS IS OF BULK AT MOST 1048576: true; the input reads as it did. -/
def slotsKnownUptoRow : OpenClaim := { program := "ytniekapfoaiieaadoor", sum := "15f5716490f7371f6e236c055584fca13816e095856409c04463bd14380ce530", func := "casemate/casematelaw25.SlotsKnown", spec := "slotsKnown", unfollowed := true, recurses := true, named := ["casemate/sha.salts", "internal/strconv.uint64pow10", "math/bits.deBruijn32tab", "math/bits.deBruijn64tab"], apart := false, laid := [("math/bits.deBruijn32tab", laid_math_bits_deBruijn32tab), ("math/bits.deBruijn64tab", laid_math_bits_deBruijn64tab), ("internal/strconv.uint64pow10", laid_internal_strconv_uint64pow10), ("casemate/sha.salts", laid_casemate_sha_salts)], narrowed := true }
def SlotsKnownUptoSaid : Prop := slotsKnownUptoRow.holds Tryd.pinned (OpenSpec.upto slotsKnownSpec)

/-- 'casematelaw25.SlotsOpen', WHERE WHAT IT READS IS OF BULK AT MOST 1048576: true; the input reads as it did. -/
def slotsOpenUptoRow : OpenClaim := { program := "ytniekapfoaiieaadoor", sum := "15f5716490f7371f6e236c055584fca13816e095856409c04463bd14380ce530", func := "casemate/casematelaw25.SlotsOpen", spec := "slotsOpen", unfollowed := true, recurses := true, named := ["casemate/sha.salts", "internal/strconv.uint64pow10", "math/bits.deBruijn32tab", "math/bits.deBruijn64tab"], apart := false, laid := [("math/bits.deBruijn32tab", laid_math_bits_deBruijn32tab), ("math/bits.deBruijn64tab", laid_math_bits_deBruijn64tab), ("internal/strconv.uint64pow10", laid_internal_strconv_uint64pow10), ("casemate/sha.salts", laid_casemate_sha_salts)], narrowed := true }
def SlotsOpenUptoSaid : Prop := slotsOpenUptoRow.holds Tryd.pinned (OpenSpec.upto slotsOpenSpec)

/-- 'casematelaw25.SlotsApart', WHERE WHAT IT READS IS OF BULK AT MOST 1048576: true; the input reads as it did. -/
def slotsApartUptoRow : OpenClaim := { program := "ytniekapfoaiieaadoor", sum := "15f5716490f7371f6e236c055584fca13816e095856409c04463bd14380ce530", func := "casemate/casematelaw25.SlotsApart", spec := "slotsApart", unfollowed := true, recurses := true, named := ["casemate/sha.salts", "internal/strconv.uint64pow10", "math/bits.deBruijn32tab", "math/bits.deBruijn64tab"], apart := false, laid := [("math/bits.deBruijn32tab", laid_math_bits_deBruijn32tab), ("math/bits.deBruijn64tab", laid_math_bits_deBruijn64tab), ("internal/strconv.uint64pow10", laid_internal_strconv_uint64pow10), ("casemate/sha.salts", laid_casemate_sha_salts)], narrowed := true }
def SlotsApartUptoSaid : Prop := slotsApartUptoRow.holds Tryd.pinned (OpenSpec.upto slotsApartSpec)

/-- 'casematelaw25.SlotsUnlocks', WHERE WHAT IT READS IS OF BULK AT MOST 1048576: true; the input reads as it did. -/
def slotsUnlocksUptoRow : OpenClaim := { program := "ytniekapfoaiieaadoor", sum := "15f5716490f7371f6e236c055584fca13816e095856409c04463bd14380ce530", func := "casemate/casematelaw25.SlotsUnlocks", spec := "slotsUnlocks", unfollowed := true, recurses := true, named := ["casemate/sha.salts", "internal/strconv.uint64pow10", "math/bits.deBruijn32tab", "math/bits.deBruijn64tab"], apart := false, laid := [("math/bits.deBruijn32tab", laid_math_bits_deBruijn32tab), ("math/bits.deBruijn64tab", laid_math_bits_deBruijn64tab), ("internal/strconv.uint64pow10", laid_internal_strconv_uint64pow10), ("casemate/sha.salts", laid_casemate_sha_salts)], narrowed := true }
def SlotsUnlocksUptoSaid : Prop := slotsUnlocksUptoRow.holds Tryd.pinned (OpenSpec.upto slotsUnlocksSpec)

end Rows
end Go.Proofs.YtniekapfoaiieaaDoor
