/- Own library, part Wx: a write that comes in. -/
import Derived.Test.YtamjaacddbecaaaKxWr
import Derived.Test.YtamjaacddbecaaaKxY2
set_option linter.unusedSimpArgs false
set_option linter.unusedVariables false
namespace Go.Kx
open Go
variable {P : Program} {W : World}
end Go.Kx
