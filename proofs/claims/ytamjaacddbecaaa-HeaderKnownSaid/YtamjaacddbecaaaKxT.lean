/- Own library, part T: plain laws of rows of parts; lists of parts that grow or come in. -/
import Derived.Test.YtamjaacddbecaaaKxR
set_option linter.unusedSimpArgs false
set_option linter.unusedVariables false
namespace Go.Kx
open Go
open Go.ChangeShapes Go.WideShapes Go.ChangeAt Go.RowKit
variable {P : Program} {w0 w : World} {M : List Nat} {H : List Ent}

variable {W : World} {K : Type} {enc : TypeId × Value → K}

end Go.Kx
