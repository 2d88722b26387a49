/- Own library, part M: what keys out of passphrases are, in plain Lean. -/
import Derived.Test.YtamjaacddbecaaaKxN
set_option linter.unusedSimpArgs false
set_option linter.unusedVariables false
namespace Go.Kx
open Go

def xorW (a b : List UInt8) : List UInt8 := List.zipWith (· ^^^ ·) a b
theorem xorW_length {a b : List UInt8} (h : a.length = b.length) : (xorW a b).length = a.length := by simp [xorW, h]
def uW (pass salt : List UInt8) (i : UInt8) : Nat → List UInt8
  | 0 => hmacW pass (salt ++ [0, 0, 0, i])
  | n + 1 => hmacW pass (uW pass salt i n)
@[simp] theorem uW_length (pass salt : List UInt8) (i : UInt8) (n : Nat) : (uW pass salt i n).length = 32 := by cases n <;> simp [uW]
def oW (pass salt : List UInt8) (i : UInt8) : Nat → List UInt8
  | 0 => List.replicate 32 0
  | n + 1 => xorW (oW pass salt i n) (uW pass salt i n)
@[simp] theorem oW_length (pass salt : List UInt8) (i : UInt8) : ∀ n, (oW pass salt i n).length = 32
  | 0 => by simp [oW]
  | n + 1 => by rw [oW, xorW_length (by simp [oW_length pass salt i n]), oW_length pass salt i n]

def keyP (pass salt : List UInt8) (r : Nat) : Nat → List UInt8
  | 0 => []
  | j + 1 => keyP pass salt r j ++ oW pass salt (UInt8.ofNat (j + 1)) r
@[simp] theorem keyP_length (pass salt : List UInt8) (r : Nat) : ∀ j, (keyP pass salt r j).length = 32 * j
  | 0 => rfl
  | j + 1 => by simp [keyP, keyP_length pass salt r j]; omega
def keyW (pass salt : List UInt8) (r n : Nat) : List UInt8 := (keyP pass salt r ((n + 31) / 32)).take n
@[simp] theorem keyW_length (pass salt : List UInt8) (r n : Nat) : (keyW pass salt r n).length = n := by simp [keyW]; omega
theorem take_snoc {l : List UInt8} {i : Nat} (h : i < l.length) : l.take (i + 1) = l.take i ++ [l.getD i 0] := by
  rw [List.take_succ_eq_append_getElem h]; simp [List.getD, h]

end Go.Kx
