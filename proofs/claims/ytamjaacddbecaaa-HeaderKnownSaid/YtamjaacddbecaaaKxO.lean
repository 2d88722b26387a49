/- Own library, part O: texts become bytes; what keys of labels are. -/
import Derived.Test.YtamjaacddbecaaaKxM
import Derived.Lib.ConvBytes
set_option linter.unusedSimpArgs false
set_option linter.unusedVariables false
namespace Go.Kx
open Go
variable {P : Program} {ops : Array Oper} {D : Option (Nat → Prop)} {Q : Exit → Act → World → Prop} {w0 w w' : World} {M : List Nat} {H H' : List Ent}
  {a : Act} {n : Nat} {L : List (Nat × Value)} {rest : List (Bool × Oper)} {d : Nat} {ty : TypeId} {pos : String} {aft : Array Edge} {x y z : Operand} {u v r : Value}

/-- The row of a label, and the key that is under it. -/
def rowL (l : List UInt8) : List UInt8 := (pRow 68 [l]).1
def subW (key l : List UInt8) : List UInt8 := hmacW key (rowL l)
@[simp] theorem subW_length (key l : List UInt8) : (subW key l).length = 32 := by simp [subW]
end Go.Kx
