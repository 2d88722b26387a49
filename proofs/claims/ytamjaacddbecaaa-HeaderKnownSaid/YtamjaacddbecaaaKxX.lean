/- Own library, part X: arrays of bytes and structs are compared. -/
import Derived.Test.YtamjaacddbecaaaKxW
import Derived.DeepKeys
set_option linter.unusedSimpArgs false
set_option linter.unusedVariables false
namespace Go.Kx
open Go
variable {P : Program} {w : World}

end Go.Kx
