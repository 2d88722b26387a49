/- Own library, part V: a block beside a slice that it does not hold; fields of elements. -/
import Derived.Test.YtamjaacddbecaaaKxU
set_option linter.unusedSimpArgs false
set_option linter.unusedVariables false
namespace Go.Kx
open Go
variable {P : Program} {Q : Exit → Act → World → Prop} {D : Option (Nat → Prop)} {ops : Array Oper} {rest : List (Bool × Oper)} {a : Act} {w w0 w' : World} {n d : Nat} {L : List (Nat × Value)} {x y : Operand} {v u : Value} {M : List Nat} {H : List Ent} {ty : TypeId} {pos : String} {aft : Array Edge}

theorem Sta.mono {X Y : Nat → Prop} (h : Sta (some X) w w') (hXY : ∀ b, X b → Y b) : Sta (some Y) w w' := ⟨h.1, fun b hb hy => h.2 b hb (fun hx => hy (hXY b hx))⟩

/-- The cells of numbers, two an element. -/
def two (ls : List (Int × Int)) : List Value := ls.flatMap fun p => [.int .i64 p.1, .int .i64 p.2]
variable {W : World} {K : Type} {enc : TypeId × Value → K}
open Go.ChangeShapes Go.WideShapes Go.ChangeAt Go.RowKit

end Go.Kx
