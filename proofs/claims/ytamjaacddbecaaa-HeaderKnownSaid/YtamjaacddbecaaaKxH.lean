/- Own library, part H: words of 32 bits, arrays that are indexed by what is not known, closures' cells, drawn regions in two phases over memory. -/
import Derived.Test.YtamjaacddbecaaaKxB2
import Derived.Test.YtamjaacddbecaaaKxW
import Derived.Test.YtamjaacddbecaaaKxX
set_option linter.unusedSimpArgs false
set_option linter.unusedVariables false
namespace Go.Kx
open Go
variable {P : Program} {Q : Exit → Act → World → Prop} {D : Option (Nat → Prop)} {ops : Array Oper} {rest : List (Bool × Oper)} {a : Act} {w w0 w' : World} {n d : Nat} {L : List (Nat × Value)} {x y : Operand} {v u : Value} {M : List Nat} {H : List Ent} {ty : TypeId} {pos : String} {aft : Array Edge}

theorem q_ph {l : List (Bool × Oper)} (h : wpL P ops D Q l a w) : ph P ops D Q l .normal a w := h

/-! ## Words -/

def wV (x : UInt32) : Value := .int .u32 (x.toNat : Int)
def wd (l : List UInt32) : List Value := l.map wV
@[simp] theorem wd_length (l : List UInt32) : (wd l).length = l.length := by simp [wd]
def shrW (x : UInt32) (k : Nat) : UInt32 := UInt32.ofNat (x.toNat / 2 ^ k)
def shlW (x : UInt32) (k : Nat) : UInt32 := UInt32.ofNat (x.toNat * 2 ^ k)

/-! ## Arrays -/

end Go.Kx
