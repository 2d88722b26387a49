/- Walks of functions of the given program that the claim reaches. -/
import Derived.Test.YtbjdbiljkkfklaaDoorLs
set_option linter.unusedSimpArgs false
set_option linter.unusedVariables false
namespace Go.Proofs.YtbjdbiljkkfklaaDoor
open Go Go.Kx Go.RowKit
end Go.Proofs.YtbjdbiljkkfklaaDoor
