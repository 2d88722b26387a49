/- Own library, part R: what comes in as an argument of a law. -/
import Derived.Test.YtamjaacddbecaaaKxL
import Derived.Test.YtamjaacddbecaaaKxS
set_option linter.unusedSimpArgs false
set_option linter.unusedVariables false
namespace Go.Kx
open Go
open Go.ChangeShapes Go.WideShapes Go.ChangeAt Go.RowKit
variable {P : Program} {W : World} {H : Type} {enc : TypeId × Value → H}

end Go.Kx
