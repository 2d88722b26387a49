/- Own library, part Wh: two slices of rows that come in. -/
import Derived.Test.YtamjaacddbecaaaKxWg
import Derived.Test.YtamjaacddbecaaaKxN
set_option linter.unusedSimpArgs false
set_option linter.unusedVariables false
namespace Go.Kx
open Go
variable {P : Program} {W : World}
end Go.Kx
