/- Walks of functions of the given program that the claim reaches. -/
import Derived.Test.YtniekapfoaiieaaDoorLd
set_option linter.unusedSimpArgs false
set_option linter.unusedVariables false
namespace Go.Proofs.YtniekapfoaiieaaDoor
open Go Go.Kx
theorem one24 : OneT Tryd.prog 24 := OneT.of Tryd.underlying24 rfl (by kernel_rfl)
end Go.Proofs.YtniekapfoaiieaaDoor
