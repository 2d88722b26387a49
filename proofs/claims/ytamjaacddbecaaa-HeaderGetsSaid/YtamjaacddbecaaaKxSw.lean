/- Own library, part Sw: what the second walk printer cites: entries of bytes in another text. -/
import Derived.Test.YtamjaacddbecaaaKxTa
import Derived.Test.YtamjaacddbecaaaKxB3
import Derived.Test.YtamjaacddbecaaaKxM
import Derived.Test.YtamjaacddbecaaaKxO
import Derived.Test.YtamjaacddbecaaaKxW
import Derived.Test.YtamjaacddbecaaaKxU
set_option linter.unusedSimpArgs false
set_option linter.unusedVariables false
namespace Go.Kx
open Go
variable {P : Program} {ops : Array Oper} {D : Option (Nat → Prop)} {Q : Exit → Act → World → Prop} {w0 w w' : World} {M : List Nat} {H H' : List Ent}
  {a : Act} {n : Nat} {L : List (Nat × Value)} {rest : List (Bool × Oper)} {d : Nat} {ty : TypeId} {pos : String} {aft : Array Edge} {x y z : Operand} {u v r : Value}

theorem Mem.ownB {p q : List UInt8} (hM : Mem w0 M w (own v 1 p.length (bv p) :: H)) (h : p = q) : Mem w0 M w (own v 1 q.length (bv q) :: H) := h ▸ hM
theorem Mem.ownApp {p q : List UInt8} {m : Nat} (hM : Mem w0 M w (own v 1 (p.length + m) (bv p ++ bv q) :: H)) (hm : m = q.length) : Mem w0 M w (own v 1 (p ++ q).length (bv (p ++ q)) :: H) :=
  hM.ownEq (by rw [List.length_append, hm]) (bv_append p q).symm
theorem Mem.ownNil {p q : List UInt8} {m : Nat} (hM : Mem w0 M w (own v 1 (p.length + m) (bv p ++ bv q) :: H)) (hp : p = []) (hm : m = q.length) : Mem w0 M w (own v 1 q.length (bv q) :: H) := by
  subst hp
  exact hM.ownEq (by simp [hm]) rfl
theorem Mem.ownSet {p : List UInt8} {j : Nat} {b : UInt8} (hM : Mem w0 M w (own v 1 p.length (wr (j * 1) [bV b] (bv p)) :: H)) (hj : j < p.length) : Mem w0 M w (own v 1 (p.set j b).length (bv (p.set j b)) :: H) :=
  hM.ownEq (by simp) (bv_set hj)

theorem wp_treeM {id : Nat} {ops : Array Oper} (hM : Mem w0 M w H) (hm : P.follows .mixedOrders = true) (X1 X2 : Nat → Prop) (pl : Pl) (c : List (Nat × Bool)) (T : List (Nat × List (Nat × Nat))) (hc : treeOk ops pl c T = true)
    (h : ∀ w', Mem w0 M w' H → w'.heap = w.heap → obl P ops X2 Q pl X1 c a w') : (Code.region id ops true).wp P Q a w :=
  wp_tree hm X1 X2 pl c T hc (h _ hM.drew rfl)

/-! ## A slice that is written to and not appended to: what lies behind it in its block is whatever -/

/-- A slice's first elements, and no room behind them. -/
def cutV : Value → Nat → Value
  | .slice p _ _, l => .slice p l l
  | v, _ => v
@[simp] theorem cutV_blocks (v : Value) (l : Nat) : valBlocks (cutV v l) = valBlocks v := by cases v with
  | slice p m c => cases p <;> rfl
  | _ => rfl
end Go.Kx
