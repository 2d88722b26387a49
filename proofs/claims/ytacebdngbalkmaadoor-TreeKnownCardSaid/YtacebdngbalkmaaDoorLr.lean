/- Walks of functions of the given program that the claim reaches. -/
import Derived.Test.YtacebdngbalkmaaDoorLh
set_option linter.unusedSimpArgs false
set_option linter.unusedVariables false
namespace Go.Proofs.YtacebdngbalkmaaDoor
open Go Go.Kx
end Go.Proofs.YtacebdngbalkmaaDoor
