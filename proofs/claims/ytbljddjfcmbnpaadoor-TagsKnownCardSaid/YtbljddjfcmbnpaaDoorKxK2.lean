/- Own library, part K2: numbers of 64 bits; the reference's primes and roots, in plain Lean. -/
import Derived.Test.YtbljddjfcmbnpaaDoorKxK
namespace Go.Kx
open Go
variable {P : Program} {ops : Array Oper} {D : Option (Nat → Prop)} {Q : Exit → Act → World → Prop} {w0 w w' : World} {M : List Nat} {H H' : List Ent}
  {a : Act} {n : Nat} {L : List (Nat × Value)} {rest : List (Bool × Oper)} {d : Nat} {ty : TypeId} {pos : String} {aft : Array Edge} {x y z : Operand} {u v r : Value}

def vV (x : UInt64) : Value := .int .u64 (x.toNat : Int)
theorem wrap_u64_ofNat (m : Nat) : IntKind.u64.wrap (m : Int) = ((UInt64.ofNat m).toNat : Int) := by
  rw [IntKind.wrap_u64]; simp
theorem wrap_u64_lt {m : Nat} (h : m < 2 ^ 64) : IntKind.u64.wrap (m : Int) = (m : Int) := by
  rw [wrap_u64_ofNat, UInt64.toNat_ofNat_of_lt' h]
theorem bin_add64 {t : TypeId} {x y : UInt64} : Bin P .add t (vV x) (vV y) (vV (x + y)) :=
  bin_add (by
    have := wrap_u64_ofNat (x.toNat + y.toNat)
    rw [Int.natCast_add] at this
    rw [this, UInt64.ofNat_add]; simp)
theorem bin_mul64 {t : TypeId} {x y : UInt64} : Bin P .mul t (vV x) (vV y) (vV (x * y)) :=
  bin_mul (by
    have := wrap_u64_ofNat (x.toNat * y.toNat)
    rw [Int.natCast_mul] at this
    rw [this, UInt64.ofNat_mul]; simp)
theorem bin_and64 {t : TypeId} {x y : UInt64} : Bin P .and t (vV x) (vV y) (vV (x &&& y)) := bin_of rfl fun w => by
  have e : (BitVec.ofInt IntKind.u64.bits (x.toNat : Int) &&& BitVec.ofInt IntKind.u64.bits (y.toNat : Int)).toNat = (x &&& y).toNat := by
    show (BitVec.ofInt 64 (x.toNat : Int) &&& BitVec.ofInt 64 (y.toNat : Int)).toNat = _
    simp [BitVec.toNat_and]
  simp only [vV, binOp, Op.intBits]
  rw [if_neg (by simp), e, wrap_u64_lt (UInt64.toNat_lt _)]; rfl
def shrV (x : UInt64) (k : Nat) : UInt64 := UInt64.ofNat (x.toNat / 2 ^ k)
def shlV (x : UInt64) (k : Nat) : UInt64 := UInt64.ofNat (x.toNat * 2 ^ k)
theorem bin_shr64 {t : TypeId} {x : UInt64} {k' : IntKind} {s : Nat} {j : Int} (hj : j = (s : Int)) (hs : s ≤ 64) : Bin P .shr t (vV x) (.int k' j) (vV (shrV x s)) := by
  have h := bin_shr_nat (P := P) (t := t) (k := .u64) (k' := k') (m := x.toNat) hj hs
  have e : (shrV x s).toNat = x.toNat / 2 ^ s := UInt64.toNat_ofNat_of_lt' (Nat.lt_of_le_of_lt (Nat.div_le_self _ _) x.toNat_lt)
  unfold vV; rw [e]; exact h
theorem bin_shl64 {t : TypeId} {x : UInt64} {k' : IntKind} {s : Nat} {j : Int} (hj : j = (s : Int)) (hs : s ≤ 64) : Bin P .shl t (vV x) (.int k' j) (vV (shlV x s)) := bin_of rfl fun w => by
  subst hj
  have h1 : ¬ ((s : Int) < 0) := by omega
  have h2 : min (s : Int).toNat IntKind.u64.bits = s := by show min s 64 = s; omega
  simp only [vV, binOp, Op.shift, h1, if_false, h2]
  have e : (x.toNat : Int) * 2 ^ s = ((x.toNat * 2 ^ s : Nat) : Int) := by simp
  rw [e, wrap_u64_ofNat]; rfl
theorem bin_rem64 {t : TypeId} {x y : UInt64} (h : y.toNat ≠ 0) : Bin P .rem t (vV x) (vV y) (vV (x % y)) := by
  have := bin_rem_nat (P := P) (t := t) (k := .u64) (m := x.toNat) h
  unfold vV; rw [UInt64.toNat_mod]; exact this

def vd (l : List UInt64) : List Value := l.map vV
@[simp] theorem vd_length (l : List UInt64) : (vd l).length = l.length := by simp [vd]
theorem vd_append (a b : List UInt64) : vd (a ++ b) = vd a ++ vd b := by simp [vd]
theorem vd_one (l : List UInt64) : One (vd l) := fun v hv => by
  obtain ⟨x, _, rfl⟩ := List.mem_map.1 hv; rfl
theorem vd_elem {l : List UInt64} {j : Nat} (h : j < l.length) : ((vd l).drop (j * 1)).take 1 = [vV (l.getD j 0)] := by
  apply List.ext_getElem?
  intro i
  cases i with
  | zero => simp [vd, List.getD, h]
  | succ i => simp; omega
def bl (l : List Bool) : List Value := l.map .bool
@[simp] theorem bl_length (l : List Bool) : (bl l).length = l.length := by simp [bl]
theorem bl_elem {l : List Bool} {j : Nat} (h : j < l.length) : ((bl l).drop (j * 1)).take 1 = [.bool (l.getD j false)] := by
  apply List.ext_getElem?
  intro i
  cases i with
  | zero => simp [bl, List.getD, h]
  | succ i => simp; omega
theorem bl_set {l : List Bool} {j : Nat} {b : Bool} (h : j < l.length) : wr (j * 1) [.bool b] (bl l) = bl (l.set j b) := by
  rw [Nat.mul_one, wr_set (by simpa using h)]
  simp [bl, List.map_set]

/-- The upper half of a product, as it is reckoned. -/
def mulHi (x y : UInt64) : UInt64 :=
  (shrV x 32 * shrV y 32 + shrV (shrV x 32 * (y &&& 4294967295) + shrV ((x &&& 4294967295) * (y &&& 4294967295)) 32) 32) +
    shrV (((shrV x 32 * (y &&& 4294967295) + shrV ((x &&& 4294967295) * (y &&& 4294967295)) 32) &&& 4294967295) + (x &&& 4294967295) * shrV y 32) 32

def leB (high low limit : UInt64) : Bool := decide ((high.toNat : Int) < (limit.toNat : Int)) || (decide ((high.toNat : Int) = (limit.toNat : Int)) && decide ((low.toNat : Int) = 0))
def withinB (x p : UInt64) (cube : Bool) : Bool :=
  match cube with
  | true => leB (mulHi x x * x + mulHi (x * x) x) (x * x * x) (p * 4294967296)
  | false => leB (mulHi x x) (x * x) p

def rootX (p : UInt64) (cube : Bool) : Nat → UInt64
  | 0 => 0
  | j + 1 => match withinB (rootX p cube j + shlV 1 (37 - j)) p cube with
    | true => rootX p cube j + shlV 1 (37 - j)
    | false => rootX p cube j
def rootW (p : UInt64) (cube : Bool) : UInt32 := UInt32.ofNat (rootX p cube 38 % 4294967296).toNat

def markB (n : Nat) : Nat → List Bool → List Bool
  | 0, l => l
  | k + 1, l => (markB n k l).set (n + k * n) true
@[simp] theorem markB_length (n : Nat) (l : List Bool) : ∀ k, (markB n k l).length = l.length
  | 0 => rfl
  | k + 1 => by simp [markB, markB_length n l k]

def primS : Nat → List Bool × List UInt64
  | 0 => (List.replicate 400 false, [])
  | j + 1 => match (primS j).1.getD (2 + j) false with
    | true => primS j
    | false => (markB (2 + j) (399 / (2 + j)) (primS j).1, (primS j).2 ++ [UInt64.ofNat (2 + j)])
theorem primS_length : ∀ j, (primS j).1.length = 400
  | 0 => by show (List.replicate 400 false).length = 400; exact List.length_replicate ..
  | j + 1 => by
    rw [primS]; split
    · exact primS_length j
    · simp [primS_length j]
theorem primS_prefix : ∀ {i j : Nat}, i ≤ j → (primS i).2 <+: (primS j).2
  | i, 0, h => by obtain rfl : i = 0 := by omega
                  exact List.prefix_refl _
  | i, j + 1, h => by
    rcases Nat.lt_or_eq_of_le h with h' | rfl
    · refine (primS_prefix (show i ≤ j by omega)).trans ?_
      rw [primS]; split
      · exact List.prefix_refl _
      · exact List.prefix_append ..
    · exact List.prefix_refl _
def primesW (many : Nat) : List UInt64 := (primS 398).2.take many
theorem primes_end {j many : Nat} (hj : j ≤ 398) (h1 : (primS j).2.length ≤ many) (h2 : j = 398 ∨ (primS j).2.length = many) : (primS j).2 = primesW many := by
  unfold primesW
  rcases h2 with rfl | h2
  · exact (List.take_of_length_le h1).symm
  · have := primS_prefix hj
    rw [← h2]
    exact List.prefix_iff_eq_take.1 this
theorem mark_more {n k : Nat} (hn : 0 < n) : n + k * n < 400 ↔ k < 399 / n := by
  have : n + k * n = (k + 1) * n := by rw [Nat.add_mul]; omega
  rw [this, Nat.lt_div_iff_mul_lt hn]
  rw [Nat.add_mul]
  have h := Nat.le_div_iff_mul_le (x := k + 1) (y := 399) hn
  constructor
  · intro h; omega
  · intro h; omega

theorem laid_cons (j m : Nat) : laid (j + 1) m = UInt8.ofNat (m / 256 ^ j) :: laid j m := by
  unfold laid
  rw [List.range_succ_eq_map, List.map_cons, List.map_map]
  rw [List.cons.injEq]
  constructor
  · simp [two8]
  · apply List.map_congr_left
    intro i hi
    have := List.mem_range.1 hi
    simp only [Function.comp_apply]
    have e : j + 1 - 1 - (i + 1) = j - 1 - i := by omega
    first | rw [e] | (show UInt8.ofNat (m / 2 ^ (8 * (j + 1 - 1 - (i + 1)))) = _; rw [e])

theorem overW_append : ∀ (q r : Nat) (n : List UInt32) (a b : List UInt8), a.length = 64 * q → overW (q + r) n (a ++ b) = overW r (overW q n a) b
  | 0, r, n, a, b, h => by
    have : a = [] := List.eq_nil_of_length_eq_zero (by omega)
    subst this; simp [overW]
  | q + 1, r, n, a, b, h => by
    rw [show q + 1 + r = (q + r) + 1 by omega, overW, overW, List.take_append_of_le_length (by omega), List.drop_append_of_le_length (by omega)]
    exact overW_append q r _ _ b (by simp; omega)

theorem sha_whole (bs : List UInt8) : shaW bs = bytesW (overW ((bs ++ tailW bs.length).length / 64) seedsW (bs ++ tailW bs.length)) 32 := by
  have ht := tailW_length bs.length
  simp only [shaW, endW, Nat.zero_add]
  have e : bs ++ tailW bs.length = bs.take (64 * (bs.length / 64)) ++ (bs.drop (64 * (bs.length / 64)) ++ tailW bs.length) := by
    rw [← List.append_assoc, List.take_append_drop]
  have h1 : (bs.take (64 * (bs.length / 64))).length = 64 * (bs.length / 64) := by simp; omega
  have h2 : (bs ++ tailW bs.length).length / 64 = bs.length / 64 + (bs.drop (64 * (bs.length / 64)) ++ tailW bs.length).length / 64 := by
    simp only [List.length_append, List.length_drop]; omega
  rw [h2, e, overW_append _ _ _ _ _ h1]

theorem zeros_eq (n : Nat) : (if (64 - (n + 9) % 64) = 64 then 0 else 64 - (n + 9) % 64) = zerosW n := by
  unfold zerosW; split <;> omega

end Go.Kx
