/- Own library, part S: plain laws of numbers and texts as bytes. -/
import Derived.Test.YtamjaacddbecaaaKxQ
set_option linter.unusedSimpArgs false
set_option linter.unusedVariables false
namespace Go.Kx
open Go
variable {P : Program}

theorem two8 (i : Nat) : 2 ^ (8 * i) = 256 ^ i := by rw [Nat.pow_mul]

theorem bin_rem_nat {t : TypeId} {k : IntKind} {m s : Nat} (hs : s ≠ 0) : Bin P .rem t (.int k m) (.int k s) (.int k ((m % s : Nat) : Int)) := bin_rem (by omega) rfl

theorem bin_quo_nat {t : TypeId} {k : IntKind} {m s : Nat} (hs : s ≠ 0) (hw : k.wrap ((m / s : Nat) : Int) = ((m / s : Nat) : Int)) : Bin P .quo t (.int k m) (.int k s) (.int k ((m / s : Nat) : Int)) := bin_quo (by omega) (by
  rw [show ((m : Int).tdiv s) = ((m / s : Nat) : Int) from rfl]; exact hw)

theorem ofNat_mod (m : Nat) : UInt8.ofNat (m % 256) = UInt8.ofNat m := by
  apply UInt8.toNat_inj.1
  simp

end Go.Kx
