/- Own library, part S: plain laws of numbers and texts as bytes. -/
import Derived.Test.YtamjaacddbecaaaKxQ
set_option linter.unusedSimpArgs false
set_option linter.unusedVariables false
namespace Go.Kx
open Go
variable {P : Program}

theorem two8 (i : Nat) : 2 ^ (8 * i) = 256 ^ i := by rw [Nat.pow_mul]

theorem laid_succ (k m : Nat) : laid (k + 1) m = laid k (m / 256) ++ [UInt8.ofNat m] := by
  unfold laid
  rw [List.range_succ, List.map_append]
  congr 1
  · apply List.map_congr_left
    intro i hi
    have hi := List.mem_range.1 hi
    congr 1
    rw [two8, two8, show k + 1 - 1 - i = (k - 1 - i) + 1 by omega, Nat.pow_succ, Nat.mul_comm, Nat.div_div_eq_div_mul]
  · simp

theorem val_laid : ∀ k m : Nat, val (laid k m) = m % 256 ^ k
  | 0, m => by simp [laid, val, Nat.mod_one]
  | k + 1, m => by
    rw [laid_succ, val_snoc, val_laid k]
    have h1 : (UInt8.ofNat m).toNat = m % 256 := by simp
    rw [h1, Nat.pow_succ, Nat.mul_comm (256 ^ k) 256, Nat.mod_mul]
    omega

end Go.Kx
