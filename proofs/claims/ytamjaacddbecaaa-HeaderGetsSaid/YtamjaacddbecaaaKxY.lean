/- Own library, part Y: counts with labels (33 cells), and lists of them. -/
import Derived.Test.YtamjaacddbecaaaKxX
set_option linter.unusedSimpArgs false
set_option linter.unusedVariables false
namespace Go.Kx
open Go
variable {P : Program} {w : World}

abbrev Cl := Nat × List UInt8
def cl0 : Cl := (0, List.replicate 32 0)
def OkCl (c : Cl) : Prop := c.2.length = 32 ∧ c.1 < 2 ^ 64

end Go.Kx
