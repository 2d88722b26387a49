/- Own library, part K3: the salts and seeds are roots of primes. -/
import Derived.Test.YtbljddjfcmbnpaaDoorKxK2
namespace Go.Kx
open Go
theorem salts_are : (primesW 64).map (fun p => rootW p true) = saltsW := by decide +kernel
theorem seeds_are : (primesW 8).map (fun p => rootW p false) = seedsW := by decide +kernel

end Go.Kx
