/- Walks of functions of the given program that the claim reaches. -/
import Derived.Test.YtamjaacddbecaaaLj
set_option linter.unusedSimpArgs false
set_option linter.unusedVariables false
namespace Go.Proofs.Ytamjaacddbecaaa
open Go Go.Kx
end Go.Proofs.Ytamjaacddbecaaa
