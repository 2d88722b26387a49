/- Own library, part I: what SHA-256 of the given program computes, in plain Lean. -/
import Derived.Test.YtamjaacddbecaaaKxH
set_option linter.unusedSimpArgs false
set_option linter.unusedVariables false
namespace Go.Kx
open Go

def rotW (x : UInt32) (k : Nat) : UInt32 := shrW x k ||| shlW x (32 - k)
def halfW (x : UInt32) (a b c : Nat) : UInt32 := (rotW x a ^^^ rotW x b) ^^^ shrW x c

def beW (l : List UInt8) : UInt32 := l.foldl (fun m c => m * 256 + UInt32.ofNat c.toNat) 0

def wordW (b : List UInt8) (m : List UInt32) (n : Nat) : UInt32 :=
  if n < 16 then beW ((b.drop (4 * n)).take 4)
  else m.getD (n - 16) 0 + halfW (m.getD (n - 15) 0) 7 18 3 + m.getD (n - 7) 0 + halfW (m.getD (n - 2) 0) 17 19 10

def msgW (b : List UInt8) : Nat → List UInt32
  | 0 => []
  | n + 1 => msgW b n ++ [wordW b (msgW b n) n]

@[simp] theorem msgW_length (b : List UInt8) : ∀ n, (msgW b n).length = n
  | 0 => rfl
  | n + 1 => by simp [msgW, msgW_length b n]

def saltsW : List UInt32 := [
  0x428a2f98, 0x71374491, 0xb5c0fbcf, 0xe9b5dba5, 0x3956c25b, 0x59f111f1, 0x923f82a4, 0xab1c5ed5,
  0xd807aa98, 0x12835b01, 0x243185be, 0x550c7dc3, 0x72be5d74, 0x80deb1fe, 0x9bdc06a7, 0xc19bf174,
  0xe49b69c1, 0xefbe4786, 0x0fc19dc6, 0x240ca1cc, 0x2de92c6f, 0x4a7484aa, 0x5cb0a9dc, 0x76f988da,
  0x983e5152, 0xa831c66d, 0xb00327c8, 0xbf597fc7, 0xc6e00bf3, 0xd5a79147, 0x06ca6351, 0x14292967,
  0x27b70a85, 0x2e1b2138, 0x4d2c6dfc, 0x53380d13, 0x650a7354, 0x766a0abb, 0x81c2c92e, 0x92722c85,
  0xa2bfe8a1, 0xa81a664b, 0xc24b8b70, 0xc76c51a3, 0xd192e819, 0xd6990624, 0xf40e3585, 0x106aa070,
  0x19a4c116, 0x1e376c08, 0x2748774c, 0x34b0bcb5, 0x391c0cb3, 0x4ed8aa4a, 0x5b9cca4f, 0x682e6ff3,
  0x748f82ee, 0x78a5636f, 0x84c87814, 0x8cc70208, 0x90befffa, 0xa4506ceb, 0xbef9a3f7, 0xc67178f2]

def seedsW : List UInt32 := [0x6a09e667, 0xbb67ae85, 0x3c6ef372, 0xa54ff53a, 0x510e527f, 0x9b05688c, 0x1f83d9ab, 0x5be0cd19]

def whoI (k i : Nat) : Nat := (k + 64 - i) % 8
def gW (n : List UInt32) (k i : Nat) : UInt32 := n.getD (whoI k i) 0
def choiceW (n : List UInt32) (i : Nat) : UInt32 := gW n 6 i ^^^ (gW n 4 i &&& (gW n 5 i ^^^ gW n 6 i))
def mostW (n : List UInt32) (i : Nat) : UInt32 := ((gW n 0 i &&& gW n 1 i) ||| (gW n 0 i &&& gW n 2 i)) ||| (gW n 1 i &&& gW n 2 i)
def pW (n : List UInt32) (s m : UInt32) (i : Nat) : UInt32 := gW n 7 i + ((rotW (gW n 4 i) 6 ^^^ rotW (gW n 4 i) 11) ^^^ rotW (gW n 4 i) 25) + choiceW n i + s + m
def stepW (n : List UInt32) (s m : UInt32) (i : Nat) : List UInt32 :=
  (n.set (whoI 3 i) (gW n 3 i + pW n s m i)).set (whoI 7 i) (pW n s m i + ((rotW (gW n 0 i) 2 ^^^ rotW (gW n 0 i) 13) ^^^ rotW (gW n 0 i) 22) + mostW n i)
@[simp] theorem stepW_length (n : List UInt32) (s m : UInt32) (i : Nat) : (stepW n s m i).length = n.length := by simp [stepW]

def runW (msg : List UInt32) : Nat → List UInt32 → List UInt32
  | 0, n => n
  | i + 1, n => stepW (runW msg i n) (saltsW.getD i 0) (msg.getD i 0) i
@[simp] theorem runW_length (msg n : List UInt32) : ∀ i, (runW msg i n).length = n.length
  | 0 => rfl
  | i + 1 => by simp [runW, runW_length msg n i]

def sumW (was n : List UInt32) : Nat → List UInt32
  | 0 => n
  | k + 1 => (sumW was n k).set k ((sumW was n k).getD k 0 + was.getD k 0)
@[simp] theorem sumW_length (was n : List UInt32) : ∀ k, (sumW was n k).length = n.length
  | 0 => rfl
  | k + 1 => by simp [sumW, sumW_length was n k]

def passW (was : List UInt32) (b : List UInt8) : List UInt32 := sumW was (runW (msgW b 64) 64 was) 8
@[simp] theorem passW_length (was : List UInt32) (b : List UInt8) : (passW was b).length = was.length := by simp [passW]

def overW : Nat → List UInt32 → List UInt8 → List UInt32
  | 0, n, _ => n
  | k + 1, n, b => overW k (passW n (b.take 64)) (b.drop 64)
@[simp] theorem overW_length : ∀ (k : Nat) (n : List UInt32) (b : List UInt8), (overW k n b).length = n.length
  | 0, _, _ => rfl
  | k + 1, n, b => by simp [overW, overW_length k]

def zerosW (n : Nat) : Nat := (119 - n % 64) % 64
def tailW (n : Nat) : List UInt8 := 128 :: List.replicate (zerosW n) 0 ++ laid 8 (n * 8)

def bytesW (n : List UInt32) : Nat → List UInt8
  | 0 => []
  | i + 1 => bytesW n i ++ [UInt8.ofNat (shrW (n.getD (i / 4) 0) (24 - i % 4 * 8)).toNat]
@[simp] theorem bytesW_length (n : List UInt32) : ∀ i, (bytesW n i).length = i
  | 0 => rfl
  | i + 1 => by simp [bytesW, bytesW_length n i]

/-- The digest of bytes behind a prefix: its numbers and size. -/
def endW (n : List UInt32) (size : Nat) (bs : List UInt8) : List UInt8 :=
  let q := bs.length / 64
  let l := bs.drop (64 * q) ++ tailW (size + bs.length)
  bytesW (overW (l.length / 64) (overW q n (bs.take (64 * q))) l) 32
@[simp] theorem endW_length (n : List UInt32) (size : Nat) (bs : List UInt8) : (endW n size bs).length = 32 := by simp [endW]

def shaW (bs : List UInt8) : List UInt8 := endW seedsW 0 bs
@[simp] theorem shaW_length (bs : List UInt8) : (shaW bs).length = 32 := by simp [shaW]

end Go.Kx
