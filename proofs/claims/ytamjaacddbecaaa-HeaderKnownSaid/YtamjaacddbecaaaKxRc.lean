/- Own library, part Rc: root records and writes as bytes, in plain Lean. -/
import Derived.Test.YtamjaacddbecaaaKxSx
import Derived.Test.YtamjaacddbecaaaKxY2
set_option linter.unusedSimpArgs false
set_option linter.unusedVariables false
namespace Go.Kx
open Go
/-! ## Root records and writes -/
/-! What bytes are as a root record. -/
def py (b : List UInt8) : Nat := val ((b.drop 116).take 4)
end Go.Kx
