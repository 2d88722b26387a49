/- Own library, part U: plain laws: rows are read back, and are laid as they were read. -/
import Derived.Test.YtamjaacddbecaaaKxT
set_option linter.unusedSimpArgs false
set_option linter.unusedVariables false
namespace Go.Kx
open Go
variable {P : Program} {w0 w w' : World} {M : List Nat} {H : List Ent}

end Go.Kx
