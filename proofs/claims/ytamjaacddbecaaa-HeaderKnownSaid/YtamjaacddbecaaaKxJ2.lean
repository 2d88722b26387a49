/- Own library, part J2: aggregates are compared; plain laws of HMAC. -/
import Derived.Test.YtamjaacddbecaaaKxJ
set_option linter.unusedSimpArgs false
set_option linter.unusedVariables false
namespace Go.Kx
open Go
variable {P : Program} {w : World}

def hexD : List UInt8 := [48, 49, 50, 51, 52, 53, 54, 55, 56, 57, 97, 98, 99, 100, 101, 102]
def hexL (bs : List UInt8) : List UInt8 := bs.flatMap fun c => [hexD.getD (c.toNat / 16) 0, hexD.getD (c.toNat % 16) 0]
@[simp] theorem hexL_length (bs : List UInt8) : (hexL bs).length = 2 * bs.length := by
  induction bs with
  | nil => rfl
  | cons c r ih => simp [hexL] at ih ⊢; omega

section
variable {ops : Array Oper} {D : Option (Nat → Prop)} {Q : Exit → Act → World → Prop} {a : Act} {n : Nat} {L : List (Nat × Value)} {rest : List (Bool × Oper)} {d : Nat} {ty : TypeId} {pos : String} {aft : Array Edge} {x y : Operand}
end

theorem own_subR {v : Value} {bs : List UInt8} {m l : Nat} (h : (own v 1 m (bv bs)).holds w) (hl : l ≤ m) (hm : m = bs.length) : ∃ c, (rd (subV v l) 1 (bs.take l).length c (bv (bs.take l))).holds w := by
  obtain ⟨c, hc⟩ := own_rd (own_subB h hl)
  refine ⟨c, ?_⟩
  have e : (bs.take l).length = l := by simp; omega
  rw [e]; exact hc

end Go.Kx
