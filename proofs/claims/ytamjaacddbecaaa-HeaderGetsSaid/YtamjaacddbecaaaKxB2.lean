/- Own library, part B2: a region that draws its order, of which two operations that do not float have no order. -/
import Derived.Test.YtamjaacddbecaaaKxB
set_option linter.unusedSimpArgs false
set_option linter.unusedVariables false
namespace Go.Kx
open Go
variable {P : Program} {ops : Array Oper} {D : Option (Nat → Prop)} {Q : Exit → Act → World → Prop}

structure Fork (ops : Array Oper) (T : List (Nat × List (Nat × Nat))) (listed : Array Bool) (pre : List (Nat × Bool)) (x y : Nat × Bool) (rest : List (Nat × Bool)) : Prop where
  un : ∀ p ∈ pre ++ x :: y :: rest, p.1 < ops.size ∧ listed.getD p.1 true = false ∧ waits ops p.1 p.1 = false
  all : ∀ i, i < ops.size → listed.getD i false = true ∨ ∃ p ∈ pre ++ x :: y :: rest, p.1 = i
  px : (pre ++ x :: rest).Pairwise (fun p q => pairOk ops T p q = true ∧ p.1 ≠ q.1)
  py : (pre ++ y :: rest).Pairwise (fun p q => pairOk ops T p q = true ∧ p.1 ≠ q.1)
  xy : waits ops x.1 y.1 = false ∧ waits ops y.1 x.1 = false ∧ x.1 ≠ y.1
  fl : ∀ p ∈ pre, p.2 = true
  back : x.2 = false ∧ y.2 = false
  closed : ∀ j e, listed.getD j false = true → waits ops j e = true → listed.getD e false = true

end Go.Kx
