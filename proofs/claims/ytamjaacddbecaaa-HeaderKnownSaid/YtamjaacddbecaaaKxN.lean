/- Own library, part N: rows that list a table of words. -/
import Derived.Test.YtamjaacddbecaaaKxJ2
import Derived.Test.YtamjaacddbecaaaKxR
import Derived.LaidMore
import Derived.MakeChecks
import Derived.Lay
import Derived.Lib.LaidTab
import Derived.Stop.Joined
set_option linter.unusedSimpArgs false
set_option linter.unusedVariables false
namespace Go.Kx
open Go
open Go.ChangeShapes Go.WideShapes Go.ChangeAt Go.RowKit
variable {P : Program} {W : World}

end Go.Kx
