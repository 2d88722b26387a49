/- Own library, part J: arrays as slices, copy into an array; what HMAC of the given program computes. -/
import Derived.Test.YtamjaacddbecaaaKxI
set_option linter.unusedSimpArgs false
set_option linter.unusedVariables false
namespace Go.Kx
open Go
variable {P : Program} {ops : Array Oper} {D : Option (Nat → Prop)} {Q : Exit → Act → World → Prop} {w0 w w' : World} {M : List Nat} {H H' : List Ent}
  {a : Act} {n : Nat} {L : List (Nat × Value)} {rest : List (Bool × Oper)} {d : Nat} {ty : TypeId} {pos : String} {aft : Array Edge} {x y z : Operand} {u v r : Value}

/-- An array of bytes, read as a slice. -/
theorem rd_of_arr {b m T : Nat} {bs : List UInt8} (h : (blk b [bv bs] [m] T).holds w) (hm : bs.length = m) : (rd (.slice (some ⟨b, 0, none⟩) m m) 1 bs.length m (bv bs)).holds w := by
  subst hm
  exact rd_of_blk (s := bs.length) h (by simp [rdSeg]) (by omega) (Nat.le_refl _)

theorem bin_xor8 {t : TypeId} {x y : UInt8} : Bin P .xor t (bV x) (bV y) (bV (x ^^^ y)) := bin_of rfl fun w => by
  have e : (BitVec.ofInt IntKind.u8.bits (x.toNat : Int) ^^^ BitVec.ofInt IntKind.u8.bits (y.toNat : Int)).toNat = (x ^^^ y).toNat := by
    show (BitVec.ofInt 8 (x.toNat : Int) ^^^ BitVec.ofInt 8 (y.toNat : Int)).toNat = _
    simp [BitVec.toNat_xor]
  simp only [bV, binOp, Op.intBits]
  rw [if_neg (by simp), e, wrap_u8_ofNat]; simp
/-! ## HMAC -/

def blockW (key : List UInt8) : List UInt8 :=
  let k := if 64 < key.length then shaW key else key
  k ++ List.replicate (64 - k.length) 0
theorem blockW_length (key : List UInt8) : (blockW key).length = 64 := by
  unfold blockW
  by_cases h : 64 < key.length
  · simp [h]
  · simp [h]; omega

def padW (key : List UInt8) (x : UInt8) : List UInt8 := (blockW key).map (· ^^^ x)
@[simp] theorem padW_length (key : List UInt8) (x : UInt8) : (padW key x).length = 64 := by simp [padW, blockW_length]
def hmacW (key msg : List UInt8) : List UInt8 := shaW (padW key 92 ++ shaW (padW key 54 ++ msg))
@[simp] theorem hmacW_length (key msg : List UInt8) : (hmacW key msg).length = 32 := by simp [hmacW]

/-- What stretching lays, one tag behind the other. -/
def strT (key b : List UInt8) : Nat → List UInt8
  | 0 => []
  | i + 1 => hmacW key (strT key b i ++ b ++ [UInt8.ofNat (i + 1)])
def strO (key b : List UInt8) : Nat → List UInt8
  | 0 => []
  | i + 1 => strO key b i ++ strT key b (i + 1)
@[simp] theorem strO_length (key b : List UInt8) : ∀ i, (strO key b i).length = 32 * i
  | 0 => rfl
  | i + 1 => by simp [strO, strO_length key b i, strT]; omega

end Go.Kx
