/- Own library, part Wg: bytes as writes; a byte inside a part of a block. -/
import Derived.Test.YtamjaacddbecaaaKxWx
import Derived.Scope
set_option linter.unusedSimpArgs false
set_option linter.unusedVariables false
namespace Go.Kx
open Go
variable {P : Program} {ops : Array Oper} {D : Option (Nat → Prop)} {Q : Exit → Act → World → Prop} {w0 w w' : World} {M : List Nat} {H H' : List Ent}
  {a : Act} {n : Nat} {L : List (Nat × Value)} {rest : List (Bool × Oper)} {d : Nat} {ty : TypeId} {pos : String} {aft : Array Edge} {x y z : Operand} {u v r : Value}
/-! ## Writes, read -/
def wAt (bs : List UInt8) (i : Nat) : Wr := (((val ((bs.drop (69 * i)).take 1) : Nat) : Int), ((val ((bs.drop (69 * i + 1)).take 4) : Nat) : Int), (bs.drop (69 * i + 5)).take 64)
def wAts (bs : List UInt8) (n : Nat) : List Wr := (List.range n).map (wAt bs)
@[simp] theorem wAts_len (bs : List UInt8) (i : Nat) : (wAts bs i).length = i := by simp [wAts]
/-! ## Root records -/
end Go.Kx
