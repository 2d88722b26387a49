/- Own library: parts KxK, KxK2, KxK3, KxN, KxM, KxO, KxZ, KxTa, KxB3, KxSw, KxSx, KxY, KxY2, KxRc, KxWr, KxWx, KxWg, KxWh, KxSt, KxHd, KxHl, KxHm, KxFm, KxSp. -/
import Derived.Test.YtbjdbiljkkfklaaDoorKc3
import Derived.LaidMore
import Derived.MakeChecks
import Derived.Lay
import Derived.Lib.LaidTab
import Derived.Stop.Joined
import Derived.Lib.ConvBytes
import Derived.DeepKeys
import Derived.Lib.Repeat
import Derived.LoopN
import Derived.Scope
import Derived.Lib.ItoaNum
import Derived.Lib.ItoaMem
import Derived.Lib.ItoaLen
import Derived.Shelf.Strconv.Itoa2
import Derived.Lib.IfaceEq
import Derived.Lib.OthersKept
set_option linter.unusedSimpArgs false
set_option linter.unusedVariables false
/- Own library, part K: what the document's SHA-256 computes is what the given one computes; append of new memory. -/
namespace Go.Kx
open Go
variable {P : Program} {ops : Array Oper} {D : Option (Nat → Prop)} {Q : Exit → Act → World → Prop} {w0 w w' : World} {M : List Nat} {H H' : List Ent}
  {a : Act} {n : Nat} {L : List (Nat × Value)} {rest : List (Bool × Oper)} {d : Nat} {ty : TypeId} {pos : String} {aft : Array Edge} {x y z : Operand} {u v r : Value}

/-! ## Words, more -/

theorem wd_elem {l : List UInt32} {j : Nat} (h : j < l.length) : ((wd l).drop (j * 1)).take 1 = [wV (l.getD j 0)] := by
  apply List.ext_getElem?
  intro i
  cases i with
  | zero => simp [wd, List.getD, h]
  | succ i => simp; omega

theorem bin_rem32 {t : TypeId} {x y : UInt32} (h : y.toNat ≠ 0) : Bin P .rem t (wV x) (wV y) (wV (x % y)) := by
  have := bin_rem_nat (P := P) (t := t) (k := .u32) (m := x.toNat) h
  unfold wV; rw [UInt32.toNat_mod]; exact this
theorem bin_quo32 {t : TypeId} {x y : UInt32} (h : y.toNat ≠ 0) : Bin P .quo t (wV x) (wV y) (wV (x / y)) := by
  have := bin_quo_nat (P := P) (t := t) (k := .u32) (m := x.toNat) h (wrap_u32_lt (Nat.lt_of_le_of_lt (Nat.div_le_self _ _) x.toNat_lt))
  unfold wV; rw [UInt32.toNat_div]; exact this

theorem shrW_toNat (x : UInt32) (k : Nat) : (shrW x k).toNat = x.toNat / 2 ^ k := UInt32.toNat_ofNat_of_lt' (Nat.lt_of_le_of_lt (Nat.div_le_self _ _) x.toNat_lt)
theorem shlW_toNat (x : UInt32) (k : Nat) : (shlW x k).toNat = x.toNat * 2 ^ k % 2 ^ 32 := by simp [shlW]

theorem one_shl {k : Nat} (h : k < 32) : (shlW 1 k).toNat = 2 ^ k := by
  rw [shlW_toNat]
  have : 2 ^ k < 2 ^ 32 := Nat.pow_lt_pow_right (by omega) h
  simp only [UInt32.toNat_one, Nat.one_mul]
  exact Nat.mod_eq_of_lt this

theorem cut_eq {x : UInt32} {k : Nat} (h : k < 32) : x / shlW 1 k = shrW x k := by
  apply UInt32.toNat_inj.1
  rw [UInt32.toNat_div, one_shl h, shrW_toNat]

theorem rot_eq {x : UInt32} {k : Nat} (h0 : 0 < k) (h : k < 32) : shrW x k + shlW (x % shlW 1 k) (32 - k) = rotW x k := by
  have hx := x.toNat_lt
  have e32 : 2 ^ 32 = 2 ^ k * 2 ^ (32 - k) := by rw [← Nat.pow_add]; congr 1; omega
  have hlow : x.toNat % 2 ^ k * 2 ^ (32 - k) < 2 ^ 32 := by
    rw [e32]; exact Nat.mul_lt_mul_of_pos_right (Nat.mod_lt _ (Nat.two_pow_pos k)) (Nat.two_pow_pos _)
  have hhi : x.toNat / 2 ^ k < 2 ^ (32 - k) := by
    apply Nat.div_lt_of_lt_mul; rw [← e32]; exact hx
  have hm : x.toNat * 2 ^ (32 - k) % 2 ^ 32 = x.toNat % 2 ^ k * 2 ^ (32 - k) := by
    rw [e32, Nat.mul_comm (2 ^ k), Nat.mul_comm x.toNat, Nat.mul_mod_mul_left, Nat.mul_comm]
  have hs1 : (shlW (x % shlW 1 k) (32 - k)).toNat = x.toNat % 2 ^ k * 2 ^ (32 - k) := by
    rw [shlW_toNat, UInt32.toNat_mod, one_shl h, Nat.mod_eq_of_lt hlow]
  have hor : x.toNat / 2 ^ k ||| x.toNat % 2 ^ k * 2 ^ (32 - k) = x.toNat / 2 ^ k + x.toNat % 2 ^ k * 2 ^ (32 - k) := by
    have := Nat.two_pow_add_eq_or_of_lt hhi (x.toNat % 2 ^ k)
    rw [Nat.or_comm, Nat.mul_comm (x.toNat % 2 ^ k), ← this]
    omega
  have hlt : x.toNat / 2 ^ k + x.toNat % 2 ^ k * 2 ^ (32 - k) < 2 ^ 32 := by
    rw [← hor]; exact Nat.or_lt_two_pow (Nat.lt_of_le_of_lt (Nat.div_le_self _ _) hx) hlow
  apply UInt32.toNat_inj.1
  rw [UInt32.toNat_add, hs1, shrW_toNat, rotW, UInt32.toNat_or, shrW_toNat, shlW_toNat, hm, hor]
  exact Nat.mod_eq_of_lt hlt

def bitW (x : UInt32) (i : Nat) : UInt32 := shrW x i % 2
theorem bitW_eq (x : UInt32) (i : Nat) : bitW x i = if x.toNat.testBit i then 1 else 0 := by
  apply UInt32.toNat_inj.1
  rw [bitW, UInt32.toNat_mod, shrW_toNat, Nat.testBit_eq_decide_div_mod_eq]
  have h2 : (2 : UInt32).toNat = 2 := rfl
  rw [h2]
  by_cases h : x.toNat / 2 ^ i % 2 = 1
  · simp [h]
  · have : x.toNat / 2 ^ i % 2 = 0 := by omega
    simp [this]

/-- Bits from the top on, one behind the other. -/
def accW (f : Nat → UInt32) : Nat → UInt32
  | 0 => 0
  | j + 1 => 2 * accW f j + f (31 - j)
theorem accW_bits (x : UInt32) : ∀ j, j ≤ 32 → accW (bitW x) j = shrW x (32 - j)
  | 0, _ => by
    apply UInt32.toNat_inj.1
    rw [shrW_toNat]
    have := x.toNat_lt
    simp [accW]; omega
  | j + 1, h => by
    apply UInt32.toNat_inj.1
    have hx := x.toNat_lt
    have ih := accW_bits x j (by omega)
    have h2 : (2 : UInt32).toNat = 2 := rfl
    rw [accW, ih, UInt32.toNat_add, UInt32.toNat_mul, shrW_toNat, shrW_toNat, bitW, UInt32.toNat_mod, shrW_toNat, h2]
    have e1 : 32 - j = (31 - j) + 1 := by omega
    have e2 : 32 - (j + 1) = 31 - j := by omega
    rw [e1, e2, Nat.pow_succ, ← Nat.div_div_eq_div_mul]
    have hlt : x.toNat / 2 ^ (31 - j) < 2 ^ 32 := Nat.lt_of_le_of_lt (Nat.div_le_self _ _) hx
    omega
theorem accW_all (x : UInt32) : accW (bitW x) 32 = x := by
  rw [accW_bits x 32 (Nat.le_refl _)]
  apply UInt32.toNat_inj.1
  rw [shrW_toNat]; simp
theorem accW_congr {f g : Nat → UInt32} (h : ∀ i, f i = g i) : ∀ j, accW f j = accW g j
  | 0 => rfl
  | j + 1 => by rw [accW, accW, accW_congr h j, h]

def chB (e f g : UInt32) (i : Nat) : UInt32 := if bitW e i = 1 then bitW f i else bitW g i
def majB (a b c : UInt32) (i : Nat) : UInt32 := (bitW a i + bitW b i + bitW c i) / 2

theorem ch_eq (e f g : UInt32) : accW (chB e f g) 32 = g ^^^ (e &&& (f ^^^ g)) := by
  rw [← accW_all (g ^^^ (e &&& (f ^^^ g)))]
  refine accW_congr (fun i => ?_) 32
  simp only [chB, bitW_eq, UInt32.toNat_xor, UInt32.toNat_and, Nat.testBit_xor, Nat.testBit_and]
  cases e.toNat.testBit i <;> cases f.toNat.testBit i <;> cases g.toNat.testBit i <;> decide
theorem maj_eq (a b c : UInt32) : accW (majB a b c) 32 = ((a &&& b) ||| (a &&& c)) ||| (b &&& c) := by
  rw [← accW_all (((a &&& b) ||| (a &&& c)) ||| (b &&& c))]
  refine accW_congr (fun i => ?_) 32
  simp only [majB, bitW_eq, UInt32.toNat_or, UInt32.toNat_and, Nat.testBit_or, Nat.testBit_and]
  cases a.toNat.testBit i <;> cases b.toNat.testBit i <;> cases c.toNat.testBit i <;> decide

theorem be4_eq (a b c e : UInt8) : beW [a, b, c, e] = UInt32.ofNat a.toNat * 16777216 + UInt32.ofNat b.toNat * 65536 + UInt32.ofNat c.toNat * 256 + UInt32.ofNat e.toNat := by
  apply UInt32.toNat_inj.1
  have h1 := a.toNat_lt
  have h2 := b.toNat_lt
  have h3 := c.toNat_lt
  have h4 := e.toNat_lt
  have k1 : (16777216 : UInt32).toNat = 16777216 := rfl
  have k2 : (65536 : UInt32).toNat = 65536 := rfl
  have k3 : (256 : UInt32).toNat = 256 := rfl
  simp only [beW, List.foldl, UInt32.toNat_add, UInt32.toNat_mul, UInt32.toNat_ofNat', k1, k2, k3, UInt32.toNat_zero]
  omega

/-! ## The reference's numbers go round -/

def refW (n : List UInt32) (i : Nat) : List UInt32 := [gW n 0 i, gW n 1 i, gW n 2 i, gW n 3 i, gW n 4 i, gW n 5 i, gW n 6 i, gW n 7 i]

theorem gW_set_ne {n : List UInt32} {k i j : Nat} {x : UInt32} (h : whoI k i ≠ j) : gW (n.set j x) k i = gW n k i := by
  simp [gW, List.getD, List.getElem?_set_ne (Ne.symm h)]
theorem gW_set_eq {n : List UInt32} {k i j : Nat} {x : UInt32} (h : whoI k i = j) (hn : n.length = 8) : gW (n.set j x) k i = x := by
  have : j < n.length := by have := whoI_lt k i; omega
  simp [gW, List.getD, h, this]
theorem gW_next {n : List UInt32} {k i : Nat} (h : i < 64) : gW n (k + 1) (i + 1) = gW n k i := by
  have : whoI (k + 1) (i + 1) = whoI k i := by unfold whoI; congr 1; omega
  unfold gW; rw [this]

theorem ref_step {n : List UInt32} {s m : UInt32} {i : Nat} (hi : i < 64) (hn : n.length = 8) :
    refW (stepW n s m i) (i + 1) = [pW n s m i + (((rotW (gW n 0 i) 2 ^^^ rotW (gW n 0 i) 13) ^^^ rotW (gW n 0 i) 22) + mostW n i), gW n 0 i, gW n 1 i, gW n 2 i, gW n 3 i + pW n s m i, gW n 4 i, gW n 5 i, gW n 6 i] := by
  have ne : ∀ k l : Nat, k < 8 → l < 8 → k ≠ l → whoI k i ≠ whoI l i := by
    intro k l hk hl hkl; unfold whoI; omega
  have h0 : whoI 0 (i + 1) = whoI 7 i := by unfold whoI; omega
  have g0 : gW (stepW n s m i) 0 (i + 1) = pW n s m i + ((rotW (gW n 0 i) 2 ^^^ rotW (gW n 0 i) 13) ^^^ rotW (gW n 0 i) 22) + mostW n i := by
    unfold stepW
    exact gW_set_eq h0 (by simpa using hn)
  have g4 : gW (stepW n s m i) 4 (i + 1) = gW n 3 i + pW n s m i := by
    rw [gW_next hi]; unfold stepW
    rw [gW_set_ne (ne 3 7 (by omega) (by omega) (by omega)), gW_set_eq rfl hn]
  have gk : ∀ k, k < 7 → k ≠ 3 → gW (stepW n s m i) (k + 1) (i + 1) = gW n k i := by
    intro k hk h3
    rw [gW_next hi]; unfold stepW
    rw [gW_set_ne (ne k 7 (by omega) (by omega) (by omega)), gW_set_ne (ne k 3 (by omega) (by omega) h3)]
  unfold refW
  rw [g0, g4, gk 0 (by omega) (by omega), gk 1 (by omega) (by omega), gk 2 (by omega) (by omega), gk 4 (by omega) (by omega), gk 5 (by omega) (by omega), gk 6 (by omega) (by omega), UInt32.add_assoc]

theorem ref_start {n : List UInt32} (hn : n.length = 8) : refW n 0 = n := by
  match n, hn with
  | [a, b, c, d, e, f, g, h], _ => rfl
theorem ref_end {n : List UInt32} (hn : n.length = 8) : refW n 64 = n := by
  match n, hn with
  | [a, b, c, d, e, f, g, h], _ => rfl

/-- The first k sums. -/
def sumT (was n : List UInt32) : Nat → List UInt32
  | 0 => []
  | k + 1 => sumT was n k ++ [n.getD k 0 + was.getD k 0]
@[simp] theorem sumT_length (was n : List UInt32) : ∀ k, (sumT was n k).length = k
  | 0 => rfl
  | k + 1 => by simp [sumT, sumT_length was n k]
theorem sumT_all {was n : List UInt32} (hn : n.length = 8) : sumT was n 8 = sumW was n 8 := by
  match n, hn with
  | [a, b, c, d, e, f, g, h], _ => rfl

/-! ## Bytes of numbers -/

theorem bytes4 {n : List UInt32} {i : Nat} : bytesW n (4 * i + 4) = bytesW n (4 * i) ++ [UInt8.ofNat (n.getD i 0 / 16777216).toNat, UInt8.ofNat (n.getD i 0 / 65536).toNat, UInt8.ofNat (n.getD i 0 / 256).toNat, UInt8.ofNat (n.getD i 0).toNat] := by
  have e : bytesW n (4 * i + 4) = bytesW n (4 * i) ++ [UInt8.ofNat (shrW (n.getD (4 * i / 4) 0) (24 - 4 * i % 4 * 8)).toNat] ++ [UInt8.ofNat (shrW (n.getD ((4 * i + 1) / 4) 0) (24 - (4 * i + 1) % 4 * 8)).toNat] ++
      [UInt8.ofNat (shrW (n.getD ((4 * i + 2) / 4) 0) (24 - (4 * i + 2) % 4 * 8)).toNat] ++ [UInt8.ofNat (shrW (n.getD ((4 * i + 3) / 4) 0) (24 - (4 * i + 3) % 4 * 8)).toNat] := rfl
  rw [e]
  have a1 : 4 * i / 4 = i := by omega
  have a2 : (4 * i + 1) / 4 = i := by omega
  have a3 : (4 * i + 2) / 4 = i := by omega
  have a4 : (4 * i + 3) / 4 = i := by omega
  have b1 : 24 - 4 * i % 4 * 8 = 24 := by omega
  have b2 : 24 - (4 * i + 1) % 4 * 8 = 16 := by omega
  have b3 : 24 - (4 * i + 2) % 4 * 8 = 8 := by omega
  have b4 : 24 - (4 * i + 3) % 4 * 8 = 0 := by omega
  rw [a1, a2, a3, a4, b1, b2, b3, b4]
  simp only [shrW_toNat, UInt32.toNat_div, List.append_assoc, List.cons_append, List.nil_append]
  have k1 : (16777216 : UInt32).toNat = 16777216 := rfl
  have k2 : (65536 : UInt32).toNat = 65536 := rfl
  have k3 : (256 : UInt32).toNat = 256 := rfl
  rw [k1, k2, k3]
  simp

theorem set4 {b : List UInt8} {i : Nat} {p q r s : UInt8} (hb : b.length = 4 * i) (hi : i < 8) :
    ((((b ++ List.replicate (32 - 4 * i) 0).set (4 * i) p).set (4 * i + 1) q).set (4 * i + 2) r).set (4 * i + 3) s = b ++ [p, q, r, s] ++ List.replicate (32 - (4 * i + 4)) 0 := by
  obtain ⟨k, hk⟩ : ∃ k, 32 - 4 * i = k + 4 := ⟨32 - 4 * i - 4, by omega⟩
  rw [hk, show 32 - (4 * i + 4) = k by omega]
  have e : List.replicate (k + 4) (0 : UInt8) = 0 :: 0 :: 0 :: 0 :: List.replicate k 0 := rfl
  rw [e, List.set_append_right _ _ (by omega), hb, List.set_append_right _ _ (by omega), hb, List.set_append_right _ _ (by omega), hb, List.set_append_right _ _ (by omega), hb]
  simp

/-! ## append(s, make([]byte, n)...) -/

theorem run_appendZ {t xt ts e m m' c : Nat} {p : Option Addr} {ie : TypeInfo} (hu : P.underlying t = some (.slice e)) (hie : P.info? e = some ie) (hs : ie.size = 1) (hb : ie.bytes = 1) (hz : ie.zero = some (.int .u8 0)) (hxt : P.underlying xt = some (.int .i64)) (hts : P.underlying ts = some .string)
    (h63 : m + m' ≤ 1000000) (hmc : m ≤ c) (w : World) :
    (Builtin.append_ #[t, xt] ty #[.slice p m c, .int .i64 (m' : Int)]).run P w = (Builtin.append_ #[t, ts] ty #[.slice p m c, .string ⟨Array.replicate m' 0⟩]).run P w := by
  have hw : IntKind.i64.wrap (m' : Int) = (m' : Int) := wrap_i64 (by omega) (by omega)
  have hneg : ¬ ((m' : Int) < 0) := by omega
  have h48 : ¬ ((281474976710656 : Int) < (m' : Int)) := by omega
  have h63' : ¬ (9223372036854775807 < ((m : Int) + (m' : Int))) := by omega
  have hsz : (⟨Array.replicate m' 0⟩ : ByteArray).size = m' := by simp [ByteArray.size]
  have hzc : Builtin.zeroCells (Value.cells (.int .u8 0)) m' = (List.replicate m' (Value.int .u8 0)).toArray := by
    apply Array.ext'
    simp only [Builtin.zeroCells, Value.cells]
    apply List.ext_getElem?
    intro i
    by_cases hi : i < m'
    · simp [hi, Nat.mod_one]
    · simp [hi]
  have hfc : ∀ w, (Builtin.firstCells 1 m' (.string ⟨Array.replicate m' 0⟩)).run P w = .ok (List.replicate m' (Value.int .u8 0)).toArray w := by
    intro w
    have e : (ByteArray.extract ⟨Array.replicate m' 0⟩ 0 m').data.map (fun b => Value.int .u8 b.toNat) = (List.replicate m' (Value.int .u8 0)).toArray := by
      apply Array.ext'
      simp [ByteArray.data_extract]
    simp only [Builtin.firstCells, e, Sem.run_pure]
  have hap : ∀ w, (if m' * 1 = 0 then (pure #[] : Sem (Array Value)) else do pure (Builtin.zeroCells (← zeroValue e).cells m')).run P w = .ok (List.replicate m' (Value.int .u8 0)).toArray w := by
    intro w
    by_cases h0 : m' = 0
    · subst h0; simp
    · have : ¬ (m' * 1 = 0) := by omega
      simp [this, zeroValue, typeInfo, hie, hz, hzc, Sem.run_bind]
  by_cases h0 : m' = 0
  · subst h0
    have hs0 : (⟨#[]⟩ : ByteArray).size = 0 := rfl
    have hf0 : ∀ w, (Builtin.firstCells 1 0 (.string ⟨#[]⟩)).run P w = .ok #[] w := fun w => by simpa using hfc w
    simp [Builtin.append_, run_underlying hu, run_underlying hxt, run_underlying hts, sizeOf, typeInfo, zeroValue, hie, hs, hb, hz, asInt, asIntOf, (show IntKind.i64.wrap 0 = 0 by decide), hmc, hs0, Builtin.lenOf, hf0]
  · have hpos : ¬ ((m' : Int) ≤ 0) := by omega
    have hpos' : ¬ (m' ≤ 0) := by omega
    by_cases hroom : m + m' ≤ c
    · simp [Builtin.append_, run_underlying hu, run_underlying hxt, run_underlying hts, sizeOf, typeInfo, zeroValue, hie, hs, hb, hz, asInt, asIntOf, hw, hneg, h48, hroom, hsz, Builtin.lenOf, hfc, hpos, hpos', h0, hzc]
      skip
    · have hfit : ¬ (281474976710656 < Builtin.nextslicecap (m + m') c * 1) := by have := growslice_fits (need := m + m') (old := c) (bytes := 1) (by omega) (by omega); omega
      simp only [Nat.mul_one] at hfit
      simp [Builtin.append_, run_underlying hu, run_underlying hxt, run_underlying hts, sizeOf, typeInfo, zeroValue, hie, hs, hb, hz, asInt, asIntOf, hw, hneg, h48, hroom, hsz, Builtin.lenOf, hfc, h63', hfit, hpos, hpos', h0, hzc]
      skip

theorem s_appendZ {t xt ts e m m' : Nat} {bs : List UInt8} (hE : Env a n L) (hx : ev L x = some v) (hy : ev L y = some (.int .i64 (m' : Int))) (hM : Mem w0 M w (own v 1 m (bv bs) :: H)) (ht : SlT P t e 1 1)
    (hz : (P.info? e).bind (·.zero) = some (.int .u8 0)) (hxt : P.underlying xt = some (.int .i64)) (hts : P.underlying ts = some .string) (hD : D = none) (h63 : m + m' ≤ 1000000) (hn : Nat.blt d n = true)
    (k : ∀ a' v' w', Env a' n ((d, v') :: L) → Mem w0 M w' (own v' 1 (m + m') (bv (bs ++ List.replicate m' 0)) :: H) → wpL P ops D Q rest a' w') :
    wpL P ops D Q ((false, ⟨some d, .call { callee := .builtin .append, args := #[x, y], argTypes := #[t, xt] }, ty, pos, aft, none⟩) :: rest) a w := by
  subst hD
  have hA : ∃ v' w', (Builtin.append_ #[t, xt] ty #[v, .int .i64 (m' : Int)]).run P w = .ok v' w' ∧ Appended w w' v v' 1 (m + m') (bv bs ++ bv (List.replicate m' 0)) := by
    have ht' := ht
    obtain ⟨hu, hs, hb, _⟩ := ht
    obtain ⟨ie, hie⟩ : ∃ ie, P.info? e = some ie := by cases h : P.info? e with | none => simp [h] at hs | some i => exact ⟨i, rfl⟩
    simp only [hie, Option.map_some, Option.some.injEq, Option.bind_some] at hs hb hz
    have hown := hM.get 0 rfl
    obtain ⟨p, c, hv⟩ : ∃ p c, v = .slice p m c := own_slice hown
    obtain ⟨c', hrd⟩ := own_rd hown
    have hmc : m ≤ c := by
      have := rd_len hrd
      rcases hrd.2 with ⟨q, h1, h2, h3⟩ | ⟨b, o, h1, h2, _⟩
      · omega
      · rw [hv] at h1; cases h1; exact h2
    have hsrc : Src P 1 ts (.string ⟨Array.replicate m' 0⟩) m' (bv (List.replicate m' 0)) w := by
      have := Src.str (P := P) (w := w) hts ⟨Array.replicate m' 0⟩
      simpa [ByteArray.size] using this
    obtain ⟨v', w', hr, hA⟩ := run_append (ty := ty) ht' hown hsrc (by rw [maxLen_eq]; omega) (by omega)
    refine ⟨v', w', ?_, hA⟩
    rw [hv, run_appendZ hu hie hs hb hz hxt hts h63 hmc]
    rw [hv] at hr; exact hr
  obtain ⟨v', w', hr, hA⟩ := hA
  refine b_val hE hn (v := v') (w' := w') ?_ trivial (fun a' hE' => k a' v' w' hE' ?_)
  · simp [execOp, resolve, invoke, builtin, hE.eval hx, hE.eval hy, hr]
  · have := hM.append hA
    rw [← bv_append] at this
    exact this

end Go.Kx
/- Own library, part K2: numbers of 64 bits; the reference's primes and roots, in plain Lean. -/
namespace Go.Kx
open Go
variable {P : Program} {ops : Array Oper} {D : Option (Nat → Prop)} {Q : Exit → Act → World → Prop} {w0 w w' : World} {M : List Nat} {H H' : List Ent}
  {a : Act} {n : Nat} {L : List (Nat × Value)} {rest : List (Bool × Oper)} {d : Nat} {ty : TypeId} {pos : String} {aft : Array Edge} {x y z : Operand} {u v r : Value}

def vV (x : UInt64) : Value := .int .u64 (x.toNat : Int)
theorem wrap_u64_ofNat (m : Nat) : IntKind.u64.wrap (m : Int) = ((UInt64.ofNat m).toNat : Int) := by
  rw [IntKind.wrap_u64]; simp
theorem wrap_u64_lt {m : Nat} (h : m < 2 ^ 64) : IntKind.u64.wrap (m : Int) = (m : Int) := by
  rw [wrap_u64_ofNat, UInt64.toNat_ofNat_of_lt' h]
theorem bin_add64 {t : TypeId} {x y : UInt64} : Bin P .add t (vV x) (vV y) (vV (x + y)) :=
  bin_add (by
    have := wrap_u64_ofNat (x.toNat + y.toNat)
    rw [Int.natCast_add] at this
    rw [this, UInt64.ofNat_add]; simp)
theorem bin_mul64 {t : TypeId} {x y : UInt64} : Bin P .mul t (vV x) (vV y) (vV (x * y)) :=
  bin_mul (by
    have := wrap_u64_ofNat (x.toNat * y.toNat)
    rw [Int.natCast_mul] at this
    rw [this, UInt64.ofNat_mul]; simp)
theorem bin_and64 {t : TypeId} {x y : UInt64} : Bin P .and t (vV x) (vV y) (vV (x &&& y)) := bin_of rfl fun w => by
  have e : (BitVec.ofInt IntKind.u64.bits (x.toNat : Int) &&& BitVec.ofInt IntKind.u64.bits (y.toNat : Int)).toNat = (x &&& y).toNat := by
    show (BitVec.ofInt 64 (x.toNat : Int) &&& BitVec.ofInt 64 (y.toNat : Int)).toNat = _
    simp [BitVec.toNat_and]
  simp only [vV, binOp, Op.intBits]
  rw [if_neg (by simp), e, wrap_u64_lt (UInt64.toNat_lt _)]; rfl
def shrV (x : UInt64) (k : Nat) : UInt64 := UInt64.ofNat (x.toNat / 2 ^ k)
def shlV (x : UInt64) (k : Nat) : UInt64 := UInt64.ofNat (x.toNat * 2 ^ k)
theorem bin_shr64 {t : TypeId} {x : UInt64} {k' : IntKind} {s : Nat} {j : Int} (hj : j = (s : Int)) (hs : s ≤ 64) : Bin P .shr t (vV x) (.int k' j) (vV (shrV x s)) := by
  have h := bin_shr_nat (P := P) (t := t) (k := .u64) (k' := k') (m := x.toNat) hj hs
  have e : (shrV x s).toNat = x.toNat / 2 ^ s := UInt64.toNat_ofNat_of_lt' (Nat.lt_of_le_of_lt (Nat.div_le_self _ _) x.toNat_lt)
  unfold vV; rw [e]; exact h
theorem bin_shl64 {t : TypeId} {x : UInt64} {k' : IntKind} {s : Nat} {j : Int} (hj : j = (s : Int)) (hs : s ≤ 64) : Bin P .shl t (vV x) (.int k' j) (vV (shlV x s)) := bin_of rfl fun w => by
  subst hj
  have h1 : ¬ ((s : Int) < 0) := by omega
  have h2 : min (s : Int).toNat IntKind.u64.bits = s := by show min s 64 = s; omega
  simp only [vV, binOp, Op.shift, h1, if_false, h2]
  have e : (x.toNat : Int) * 2 ^ s = ((x.toNat * 2 ^ s : Nat) : Int) := by simp
  rw [e, wrap_u64_ofNat]; rfl
theorem bin_rem64 {t : TypeId} {x y : UInt64} (h : y.toNat ≠ 0) : Bin P .rem t (vV x) (vV y) (vV (x % y)) := by
  have := bin_rem_nat (P := P) (t := t) (k := .u64) (m := x.toNat) h
  unfold vV; rw [UInt64.toNat_mod]; exact this

def vd (l : List UInt64) : List Value := l.map vV
@[simp] theorem vd_length (l : List UInt64) : (vd l).length = l.length := by simp [vd]
theorem vd_append (a b : List UInt64) : vd (a ++ b) = vd a ++ vd b := by simp [vd]
theorem vd_one (l : List UInt64) : One (vd l) := fun v hv => by
  obtain ⟨x, _, rfl⟩ := List.mem_map.1 hv; rfl
theorem vd_elem {l : List UInt64} {j : Nat} (h : j < l.length) : ((vd l).drop (j * 1)).take 1 = [vV (l.getD j 0)] := by
  apply List.ext_getElem?
  intro i
  cases i with
  | zero => simp [vd, List.getD, h]
  | succ i => simp; omega
def bl (l : List Bool) : List Value := l.map .bool
@[simp] theorem bl_length (l : List Bool) : (bl l).length = l.length := by simp [bl]
theorem bl_elem {l : List Bool} {j : Nat} (h : j < l.length) : ((bl l).drop (j * 1)).take 1 = [.bool (l.getD j false)] := by
  apply List.ext_getElem?
  intro i
  cases i with
  | zero => simp [bl, List.getD, h]
  | succ i => simp; omega
theorem bl_set {l : List Bool} {j : Nat} {b : Bool} (h : j < l.length) : wr (j * 1) [.bool b] (bl l) = bl (l.set j b) := by
  rw [Nat.mul_one, wr_set (by simpa using h)]
  simp [bl, List.map_set]

/-- The upper half of a product, as it is reckoned. -/
def mulHi (x y : UInt64) : UInt64 :=
  (shrV x 32 * shrV y 32 + shrV (shrV x 32 * (y &&& 4294967295) + shrV ((x &&& 4294967295) * (y &&& 4294967295)) 32) 32) +
    shrV (((shrV x 32 * (y &&& 4294967295) + shrV ((x &&& 4294967295) * (y &&& 4294967295)) 32) &&& 4294967295) + (x &&& 4294967295) * shrV y 32) 32

def leB (high low limit : UInt64) : Bool := decide ((high.toNat : Int) < (limit.toNat : Int)) || (decide ((high.toNat : Int) = (limit.toNat : Int)) && decide ((low.toNat : Int) = 0))
def withinB (x p : UInt64) (cube : Bool) : Bool :=
  match cube with
  | true => leB (mulHi x x * x + mulHi (x * x) x) (x * x * x) (p * 4294967296)
  | false => leB (mulHi x x) (x * x) p

def rootX (p : UInt64) (cube : Bool) : Nat → UInt64
  | 0 => 0
  | j + 1 => match withinB (rootX p cube j + shlV 1 (37 - j)) p cube with
    | true => rootX p cube j + shlV 1 (37 - j)
    | false => rootX p cube j
def rootW (p : UInt64) (cube : Bool) : UInt32 := UInt32.ofNat (rootX p cube 38 % 4294967296).toNat

def markB (n : Nat) : Nat → List Bool → List Bool
  | 0, l => l
  | k + 1, l => (markB n k l).set (n + k * n) true
@[simp] theorem markB_length (n : Nat) (l : List Bool) : ∀ k, (markB n k l).length = l.length
  | 0 => rfl
  | k + 1 => by simp [markB, markB_length n l k]

def primS : Nat → List Bool × List UInt64
  | 0 => (List.replicate 400 false, [])
  | j + 1 => match (primS j).1.getD (2 + j) false with
    | true => primS j
    | false => (markB (2 + j) (399 / (2 + j)) (primS j).1, (primS j).2 ++ [UInt64.ofNat (2 + j)])
theorem primS_length : ∀ j, (primS j).1.length = 400
  | 0 => by show (List.replicate 400 false).length = 400; exact List.length_replicate ..
  | j + 1 => by
    rw [primS]; split
    · exact primS_length j
    · simp [primS_length j]
theorem primS_prefix : ∀ {i j : Nat}, i ≤ j → (primS i).2 <+: (primS j).2
  | i, 0, h => by obtain rfl : i = 0 := by omega
                  exact List.prefix_refl _
  | i, j + 1, h => by
    rcases Nat.lt_or_eq_of_le h with h' | rfl
    · refine (primS_prefix (show i ≤ j by omega)).trans ?_
      rw [primS]; split
      · exact List.prefix_refl _
      · exact List.prefix_append ..
    · exact List.prefix_refl _
def primesW (many : Nat) : List UInt64 := (primS 398).2.take many
theorem primes_end {j many : Nat} (hj : j ≤ 398) (h1 : (primS j).2.length ≤ many) (h2 : j = 398 ∨ (primS j).2.length = many) : (primS j).2 = primesW many := by
  unfold primesW
  rcases h2 with rfl | h2
  · exact (List.take_of_length_le h1).symm
  · have := primS_prefix hj
    rw [← h2]
    exact List.prefix_iff_eq_take.1 this
theorem mark_more {n k : Nat} (hn : 0 < n) : n + k * n < 400 ↔ k < 399 / n := by
  have : n + k * n = (k + 1) * n := by rw [Nat.add_mul]; omega
  rw [this, Nat.lt_div_iff_mul_lt hn]
  rw [Nat.add_mul]
  have h := Nat.le_div_iff_mul_le (x := k + 1) (y := 399) hn
  constructor
  · intro h; omega
  · intro h; omega

theorem overW_append : ∀ (q r : Nat) (n : List UInt32) (a b : List UInt8), a.length = 64 * q → overW (q + r) n (a ++ b) = overW r (overW q n a) b
  | 0, r, n, a, b, h => by
    have : a = [] := List.eq_nil_of_length_eq_zero (by omega)
    subst this; simp [overW]
  | q + 1, r, n, a, b, h => by
    rw [show q + 1 + r = (q + r) + 1 by omega, overW, overW, List.take_append_of_le_length (by omega), List.drop_append_of_le_length (by omega)]
    exact overW_append q r _ _ b (by simp; omega)

theorem sha_whole (bs : List UInt8) : shaW bs = bytesW (overW ((bs ++ tailW bs.length).length / 64) seedsW (bs ++ tailW bs.length)) 32 := by
  have ht := tailW_length bs.length
  simp only [shaW, endW, Nat.zero_add]
  have e : bs ++ tailW bs.length = bs.take (64 * (bs.length / 64)) ++ (bs.drop (64 * (bs.length / 64)) ++ tailW bs.length) := by
    rw [← List.append_assoc, List.take_append_drop]
  have h1 : (bs.take (64 * (bs.length / 64))).length = 64 * (bs.length / 64) := by simp; omega
  have h2 : (bs ++ tailW bs.length).length / 64 = bs.length / 64 + (bs.drop (64 * (bs.length / 64)) ++ tailW bs.length).length / 64 := by
    simp only [List.length_append, List.length_drop]; omega
  rw [h2, e, overW_append _ _ _ _ _ h1]

theorem zeros_eq (n : Nat) : (if (64 - (n + 9) % 64) = 64 then 0 else 64 - (n + 9) % 64) = zerosW n := by
  unfold zerosW; split <;> omega

end Go.Kx
/- Own library, part K3: the salts and seeds are roots of primes. -/
namespace Go.Kx
open Go
theorem salts_are : (primesW 64).map (fun p => rootW p true) = saltsW := by decide +kernel
theorem seeds_are : (primesW 8).map (fun p => rootW p false) = seedsW := by decide +kernel

end Go.Kx
/- Own library, part N: rows that list a table of words. -/
namespace Go.Kx
open Go
open Go.ChangeShapes Go.WideShapes Go.ChangeAt Go.RowKit
variable {P : Program} {W : World}

def saltsZ : List Int := saltsW.map fun x => (x.toNat : Int)

theorem glb_of_laid {name : String} {d : DataW Unit} {rest : List (String × DataW Unit)} {g t e : Nat} (hg : P.globalNamed name = some g) (hty : (P.globals[g]?).map (·.type) = some t) (ht : P.underlying t = some (.array 64 e)) (he : P.underlying e = some (.int .u32))
    (hce : P.cellsOf e = 1) (hct : P.cellsOf t = 64) (hd : d = Lib.tabData .u32 saltsZ) (h : laidMet P ((name, d) :: rest) W) : (glb g).holds W := by
  subst hd
  have hT := Lib.tabIs_of_head hg hty ht he hce hct h
  have h0 := hT.cell hg 0 (by decide)
  refine ⟨g, 0, rfl, World.block_lt_of_cell? W _ h0, fun i x hx => ?_⟩
  have hi : i < saltsW.length := by
    have := (List.getElem?_eq_some_iff.1 hx).1
    simpa using this
  have hc := hT.cell hg i (by simpa [saltsZ] using hi)
  rw [Nat.zero_add, hc]
  rw [wd_get hi] at hx
  rw [← hx]
  simp [saltsZ, wV, List.getD, hi]

/-- A law that lists variables, whose walk returns true, and turns nothing that was there. -/
theorem law_liftedL {C : Checked} {os : Os} {f : FuncId} {fn : Func} {s : ChangeSpec} {tb : TypeId} {H : Type} {enc : TypeId × Value → H} {l : List (String × DataW Unit)}
    (own : ownKnob C.prog.godebug = none) (started : os.Started) (noInit : C.prog.inits.idxOf? f = none) (hfn : C.prog.funcs[f]? = some fn) (hvars : s.vars = [])
    (hspec : ∀ ds : List (DataW H), ds.length = fn.params.toList.length → s.fn H ds = { results := [.lit (.bool true)], args := ds }) (hres : fn.resultTypes = #[tb]) (htb : C.prog.underlying tb = some .bool)
    (hl : laidOutB C.prog = true) (hts : ∀ t, t ∈ fn.params.toList → C.prog.readableRec t = true ∧ t < C.prog.types.size)
    (hplain : (l.all fun x => x.2.handleName?.isNone) = true)
    (witness : ∃ (w : World) (tape : Tape) (i : Input), w.os = os ∧ (w.forCall tape i).Shaped C.prog ∧ i.vars = [] ∧ Input.okWide C.prog (w.forCall tape i) .any w.heap.size f i ∧
      ((s.pre enc C.prog fn [] false (w.forCall tape i).memory i.args ∧ laidMetH C.prog l (w.forCall tape i).memory) ∧ sizedMet enc C.prog fn (OpenSpec.ofChange s) false (w.forCall tape i).memory i.args) ∧ Assume.holds {} C.prog (lone (Frame.enter C.prog f i.args .normal) [] (w.forCall tape i)))
    (walk : ∀ (W : World) (base : Nat) (args : Array Value) (ds : List (DataW H)) (ps : List MemPlace), (∀ (j : Nat) t v, fn.params[j]? = some t → args[j]? = some v → Value.okWide C.prog W .any base t v) →
      DataW.TrodAll enc C.prog W 0 (fun _ => true) true fn.params.toList args.toList ds ps → (∀ m, m ∈ DataW.weightsEach C.prog fn.params.toList ds → m ≤ reachBytes) → laidMet C.prog l W →
      Calls C.prog f args W fun e W' => e = .returned (.bool true) ∧ Mem W [] W' []) :
    ReturnsInHanded {} C os f .any (fun w args => (s.pre enc C.prog fn [] false w args ∧ laidMetH C.prog l w) ∧ sizedMet enc C.prog fn (OpenSpec.ofChange s) false w args) (s.post enc C.prog fn false true false false) := by
  refine returnsInHanded_of_change_and (C := C) (X := fun w _ => laidMetH C.prog l w) (fun _ _ _ hh h => h.of_heap hh) own started noInit hfn witness ?_
  intro W base args ds gs before hval hW _ hsz hL _
  rw [MakeChecks.laidMetH_plain _ _ _ hplain] at hL
  have hW' := hW
  obtain ⟨p, q, hA, hV, rfl, hfz, hnd⟩ := hW
  rw [hvars] at hV
  obtain ⟨rfl, rfl⟩ := trodVars_none hV
  have hvt : s.plain.varTypes C.prog = [] := by simp [ChangeSpec.plain, DataSpec.varTypes, hvars]
  rw [hvt, List.append_nil, List.append_nil, List.all_eq_true] at hsz
  refine (walk W base args ds p hval hA (fun m hm => by simpa using hsz m hm) hL).mono ?_
  rintro e W' ⟨rfl, hM⟩
  have hb := hM.below
  have hs := hspec ds (trodAll_len hA)
  refine ⟨_, rfl, ds, [], _, [], p, [], hW', ?_, ?_, ?_, hb.frame _, fun h => by cases h⟩
  · rw [List.append_nil, hs, hres]
    exact trodAll_mk1 (shut_bool htb _)
  · rw [List.append_nil, hs]
    exact trodAll_below hl hb _ hts _ _ _ hA
  · rw [hvars, List.append_nil, hs]; rfl

end Go.Kx
/- Own library, part M: what keys out of passphrases are, in plain Lean. -/
namespace Go.Kx
open Go

def xorW (a b : List UInt8) : List UInt8 := List.zipWith (· ^^^ ·) a b
theorem xorW_length {a b : List UInt8} (h : a.length = b.length) : (xorW a b).length = a.length := by simp [xorW, h]
def uW (pass salt : List UInt8) (i : UInt8) : Nat → List UInt8
  | 0 => hmacW pass (salt ++ [0, 0, 0, i])
  | n + 1 => hmacW pass (uW pass salt i n)
@[simp] theorem uW_length (pass salt : List UInt8) (i : UInt8) (n : Nat) : (uW pass salt i n).length = 32 := by cases n <;> simp [uW]
def oW (pass salt : List UInt8) (i : UInt8) : Nat → List UInt8
  | 0 => List.replicate 32 0
  | n + 1 => xorW (oW pass salt i n) (uW pass salt i n)
@[simp] theorem oW_length (pass salt : List UInt8) (i : UInt8) : ∀ n, (oW pass salt i n).length = 32
  | 0 => by simp [oW]
  | n + 1 => by rw [oW, xorW_length (by simp [oW_length pass salt i n]), oW_length pass salt i n]

def keyP (pass salt : List UInt8) (r : Nat) : Nat → List UInt8
  | 0 => []
  | j + 1 => keyP pass salt r j ++ oW pass salt (UInt8.ofNat (j + 1)) r
@[simp] theorem keyP_length (pass salt : List UInt8) (r : Nat) : ∀ j, (keyP pass salt r j).length = 32 * j
  | 0 => rfl
  | j + 1 => by simp [keyP, keyP_length pass salt r j]; omega
def keyW (pass salt : List UInt8) (r n : Nat) : List UInt8 := (keyP pass salt r ((n + 31) / 32)).take n
@[simp] theorem keyW_length (pass salt : List UInt8) (r n : Nat) : (keyW pass salt r n).length = n := by simp [keyW]; omega
/-- What passphrases' bytes are. -/
def phrW (s : List UInt8) : List UInt8 := UInt8.ofNat s.length :: s

theorem get_getD {l : List UInt8} {i : Nat} (h : i < l.length) : l[i]? = some (l.getD i 0) := by simp [List.getD, h]
end Go.Kx
/- Own library, part O: texts become bytes; what keys of labels are. -/
namespace Go.Kx
open Go
variable {P : Program} {ops : Array Oper} {D : Option (Nat → Prop)} {Q : Exit → Act → World → Prop} {w0 w w' : World} {M : List Nat} {H H' : List Ent}
  {a : Act} {n : Nat} {L : List (Nat × Value)} {rest : List (Bool × Oper)} {d : Nat} {ty : TypeId} {pos : String} {aft : Array Edge} {x y z : Operand} {u v r : Value}

theorem s_ofStr {src dst e : Nat} {s : ByteArray} {ud : TypeDesc} (hE : Env a n L) (hx : ev L x = some (.string s)) (hM : Mem w0 M w H) (hs : P.underlying src = some ud) (hd : P.underlying dst = some (.slice e)) (he : P.underlying e = some (.int .u8)) (hl : s.size ≤ maxLen)
    (hn : Nat.blt d n = true) (k : ∀ a' v' w', Env a' n ((d, v') :: L) → Mem w0 M w' (own v' 1 s.size (bv s.data.toList) :: H) → wpL P ops D Q rest a' w') :
    wpL P ops D Q ((false, ⟨some d, .convert src dst x, ty, pos, aft, none⟩) :: rest) a w := by
  have hr := Lib.run_convert_string_bytes (P := P) w src dst e s hs hd he
  have hge := grownCap_ge w s.size 0 e
  have hle := grownCap_le_maxLen w s.size 0 e hl
  refine b_val hE hn (v := .slice (some ⟨w.heap.size, 0, none⟩) s.size (grownCap w s.size 0 e)) (w' := Lib.bytesWorld w e s) ?_ ?_ (fun a' hE' => k a' _ _ hE' ?_)
  · simp only [execOp, hE.eval hx, hr, Sem.run_bind, Result.andThen_ok, Sem.run_pure]
  · cases D with
    | none => trivial
    | some X => exact ⟨by rw [Lib.bytesWorld_size]; omega, fun b hb _ => Lib.bytesWorld_at_old w e s b hb⟩
  · have hsz : (Lib.bytesCells w e s).size = grownCap w s.size 0 e := by
      have hds : s.data.size = s.size := rfl
      simp [Lib.bytesCells, hds]; omega
    refine Mem.act (es := []) (es' := [own _ 1 s.size (bv s.data.toList)]) hM ?_ ?_ ?_ (by rw [Lib.bytesWorld_size]; omega) (fun b hb _ => Lib.bytesWorld_at_old w e s b hb) ?_ ?_ ?_ ?_ (List.pairwise_singleton ..)
    · simp [Lib.bytesWorld, World.freeze, World.alloc, World.drew, -World.alloc_eq, -World.drew_eq]
    · simp [Lib.bytesWorld, World.freeze, World.alloc, World.drew, -World.alloc_eq, -World.drew_eq]
    · simp [Lib.bytesWorld, World.freeze, World.alloc, World.drew, -World.alloc_eq, -World.drew_eq]
    · intro f hf; rw [List.mem_singleton.1 hf]
      refine ⟨by rw [bv_length, Nat.mul_one]; rfl, .inr ⟨w.heap.size, _, Lib.bytesCells w e s, e, _, rfl, hge, hle, Lib.bytesWorld_at_new w e s, by rw [hsz, Nat.mul_one], ?_, .inr (Nat.le_refl _)⟩⟩
      have hds : s.data.toList.length = s.size := rfl
      simp only [Lib.bytesCells, Array.toList_append, Array.toList_map, Nat.mul_one]
      rw [List.take_append_of_le_length (by rw [List.length_map, hds]; exact Nat.le_refl _), List.take_of_length_le (by rw [List.length_map, hds]; exact Nat.le_refl _)]
      rfl
    · intro f hf b hb; rw [List.mem_singleton.1 hf] at hb; simp [own, valBlocks] at hb; right; omega
    · intro f hf b hb; rw [List.mem_singleton.1 hf] at hb; cases hb
    · intro f hf b hb; rw [List.mem_singleton.1 hf] at hb; cases hb

/-- The row of a label, and the key that is under it. -/
def rowL (l : List UInt8) : List UInt8 := (pRow 68 [l]).1
def subW (key l : List UInt8) : List UInt8 := hmacW key (rowL l)
@[simp] theorem subW_length (key l : List UInt8) : (subW key l).length = 32 := by simp [subW]
end Go.Kx
/- Own library, part Z: structs are stored whole; structs and arrays of whatever depth are compared. -/
namespace Go.Kx
open Go
variable {P : Program} {ops : Array Oper} {D : Option (Nat → Prop)} {Q : Exit → Act → World → Prop} {w0 w w' : World} {M : List Nat} {H H' : List Ent}
  {a : Act} {n : Nat} {L : List (Nat × Value)} {rest : List (Bool × Oper)} {d : Nat} {ty : TypeId} {pos : String} {aft : Array Edge} {x y z : Operand} {u v r : Value}

/-! ## Equality of structs -/

def litV : Value → Lit
  | .bool b => .bool b
  | .int k i => .int k i
  | .string s => .string s.data.toList
  | _ => .nil
def isKey : Value → Bool
  | .bool _ => true
  | .int _ _ => true
  | .string _ => true
  | _ => false

/-- Cells that a type of key reads, up to depth k. -/
def KL (P : Program) (k t : Nat) (cs : List Value) : Prop := (∀ D, P.keyLits (D + k) t cs = some (cs.map litV)) ∧ ∀ v, v ∈ cs → isKey v = true

theorem KL.int {k t : Nat} {q : IntKind} {i : Int} (hu : P.underlying t = some (.int q)) (hw : (Lit.int q i).wf = true) : KL P (k + 1) t [.int q i] :=
  ⟨fun D => by rw [← Nat.add_assoc]; simp [Program.keyLits, hu, hw, litV], fun v hv => by rw [List.mem_singleton.1 hv]; rfl⟩
theorem KL.bool {k t : Nat} {b : Bool} (hu : P.underlying t = some .bool) : KL P (k + 1) t [.bool b] :=
  ⟨fun D => by rw [← Nat.add_assoc]; simp [Program.keyLits, hu, litV], fun v hv => by rw [List.mem_singleton.1 hv]; rfl⟩

def KLs (P : Program) (k : Nat) : List TypeId → List (List Value) → Prop
  | [], [] => True
  | t :: ts, c :: cs => KL P k t c ∧ KLs P k ts cs
  | _, _ => False

theorem KLs.go {k : Nat} (D : Nat) : ∀ (fs : List Field) (ps : List (List Value)) (pre : List Value), KLs P k (fs.map (·.type)) ps → fs.map (fun f => (f.offset, P.cellsOf f.type)) = plc pre.length (ps.map List.length) → ∀ cs : List Value, cs = pre ++ ps.flatten →
    (fs.mapM fun f => P.keyLits (D + k) f.type ((cs.drop f.offset).take (P.cellsOf f.type))) = some (ps.map fun p => p.map litV)
  | [], [], _, _, _, _, _ => rfl
  | [], _ :: _, _, h, _, _, _ => h.elim
  | _ :: _, [], _, h, _, _, _ => h.elim
  | f :: fs, p :: ps, pre, h, ho, cs, hc => by
    simp only [List.map_cons, plc, List.cons.injEq, Prod.mk.injEq] at ho
    have e1 : (cs.drop f.offset).take (P.cellsOf f.type) = p := by
      rw [ho.1.1, ho.1.2, hc, List.drop_left, List.flatten_cons, List.take_left]
    have ih := KLs.go D fs ps (pre ++ p) h.2 (by rw [List.length_append]; exact ho.2) cs (by rw [hc]; simp)
    rw [List.mapM_cons, e1, h.1.1 D, ih]
    rfl

theorem KLs.keys {k : Nat} : ∀ {ts : List TypeId} {ps : List (List Value)}, KLs P k ts ps → ∀ v, v ∈ ps.flatten → isKey v = true
  | [], [], _, v, hv => by cases hv
  | [], _ :: _, h, _, _ => h.elim
  | _ :: _, [], h, _, _ => h.elim
  | t :: ts, p :: ps, h, v, hv => by
    rw [List.flatten_cons] at hv
    rcases List.mem_append.1 hv with hv | hv
    · exact h.1.2 v hv
    · exact KLs.keys h.2 v hv

theorem KL.struct {k t : Nat} {fs : Array Field} {ps : List (List Value)} (ns : List Nat) (hu : P.underlying t = some (.struct fs)) (hn : (fs.all (·.name != "_")) = true) (hc : P.cellsOf t = ns.sum) (ho : fs.toList.map (fun f => (f.offset, P.cellsOf f.type)) = plc 0 ns)
    (hl : ps.map List.length = ns) (ts : List TypeId) (hts : fs.toList.map (·.type) = ts) (h : KLs P k ts ps) : KL P (k + 1) t ps.flatten := by
  refine ⟨fun D => ?_, h.keys⟩
  have hlen : ps.flatten.length = P.cellsOf t := by rw [List.length_flatten, hl, hc]
  have := KLs.go (P := P) (k := k) D fs.toList ps [] (hts ▸ h) (by rw [hl]; exact ho) ps.flatten rfl
  rw [← Nat.add_assoc]
  simp only [Program.keyLits, hu]
  rw [if_pos ⟨hlen, hn⟩, this]
  simp [List.map_flatten]

theorem KLs.rep {k e m : Nat} (D : Nat) : ∀ (n i : Nat) (ps : List (List Value)) (pre : List Value), (∀ p, p ∈ ps → KL P k e p ∧ p.length = m) → ps.length = n → pre.length = i * m → ∀ cs : List Value, cs = pre ++ ps.flatten →
    ((List.range' i n).mapM fun i => P.keyLits (D + k) e ((cs.drop (i * m)).take m)) = some (ps.map fun p => p.map litV)
  | 0, _, [], _, _, _, _, _, _ => rfl
  | 0, _, _ :: _, _, _, h, _, _, _ => by cases h
  | n + 1, _, [], _, _, h, _, _, _ => by cases h
  | n + 1, i, p :: ps, pre, h, hn, hp, cs, hc => by
    obtain ⟨h1, h2⟩ := h p (.head _)
    have e1 : (cs.drop (i * m)).take m = p := by
      rw [← hp, ← h2, hc, List.drop_left, List.flatten_cons, List.take_left]
    have ih := KLs.rep D n (i + 1) ps (pre ++ p) (fun q hq => h q (.tail _ hq)) (by simpa using hn) (by rw [List.length_append, hp, h2, Nat.succ_mul]) cs (by rw [hc]; simp)
    rw [List.range'_succ, List.mapM_cons, e1, h1.1 D, ih]
    rfl

theorem KL.array {k t e m n : Nat} {ps : List (List Value)} (hu : P.underlying t = some (.array n e)) (hc : P.cellsOf t = n * m) (he : P.cellsOf e = m) (hn : ps.length = n) (h : ∀ p, p ∈ ps → KL P k e p ∧ p.length = m) : KL P (k + 1) t ps.flatten := by
  refine ⟨fun D => ?_, fun v hv => ?_⟩
  · have hlen : ps.flatten.length = P.cellsOf t := by
      rw [List.length_flatten, hc, ← hn, show ps.map List.length = List.replicate ps.length m from List.eq_replicate_iff.2 ⟨by simp, fun b hb => by obtain ⟨q, hq, rfl⟩ := List.mem_map.1 hb; exact (h q hq).2⟩]
      simp
    have := KLs.rep (P := P) (k := k) (e := e) (m := m) D n 0 ps [] h hn (by simp) ps.flatten rfl
    rw [← Nat.add_assoc]
    simp only [Program.keyLits, hu]
    rw [if_pos hlen, he, List.range_eq_range', this]
    simp [List.map_flatten]
  · obtain ⟨p, hp, hv⟩ := List.mem_flatten.1 hv
    exact (h p hp).1.2 v hv

/-- A text of these bytes. -/
def tx (l : List UInt8) : ByteArray := ⟨l.toArray⟩
@[simp] theorem tx_list (l : List UInt8) : (tx l).data.toList = l := rfl

end Go.Kx
/- Own library, part Ta: parts of arrays are copied to and read; what the kit's contracts leave of memory; messages of tags. -/
namespace Go.Kx
open Go Go.RowKit
variable {P : Program} {ops : Array Oper} {D : Option (Nat → Prop)} {Q : Exit → Act → World → Prop} {w0 w w' : World} {M : List Nat} {H H' : List Ent}
  {a : Act} {n : Nat} {L : List (Nat × Value)} {rest : List (Bool × Oper)} {d : Nat} {ty : TypeId} {pos : String} {aft : Array Edge} {x y z : Operand} {u v r : Value}

/-! ## Messages of tags -/

def plT (dm : UInt8) (b : List UInt8) : List UInt8 := (pRow dm [b]).1
/-! ## What a struct's cells are, part by part -/

end Go.Kx
/- Own library, part B3: a region that draws its order, of which some operations that do not float have no order: a tree of the orders that may be. -/
namespace Go.Kx
open Go
variable {P : Program} {ops : Array Oper} {D : Option (Nat → Prop)} {Q : Exit → Act → World → Prop} {X2 : Nat → Prop}

inductive Pl
  | leaf (k : Nat)
  | fl (m : Nat) (p : Pl)
  | or (x : Nat) (s p : Pl)
  | re (c : List (Nat × Bool)) (p : Pl)
  | cut (p : Pl)
  | weak (p : Pl)
  | stop

def dropId (x : Nat) (c : List (Nat × Bool)) : List (Nat × Bool) := c.filter fun q => !(Nat.beq q.1 x)

structure St (ops : Array Oper) (listed : Array Bool) (c : List (Nat × Bool)) : Prop where
  un : ∀ p ∈ c, p.1 < ops.size ∧ listed.getD p.1 true = false ∧ waits ops p.1 p.1 = false
  all : ∀ i, i < ops.size → listed.getD i false = true ∨ ∃ p ∈ c, p.1 = i
  ord : c.Pairwise (fun p q => waits ops p.1 q.1 = false ∧ p.1 ≠ q.1)
  closed : ∀ j e, listed.getD j false = true → waits ops j e = true → listed.getD e false = true

theorem mem_dropId {x : Nat} {c : List (Nat × Bool)} {p : Nat × Bool} : p ∈ dropId x c ↔ p ∈ c ∧ p.1 ≠ x := by
  unfold dropId
  rw [List.mem_filter, Bool.not_eq_true', Bool.eq_false_iff]
  exact ⟨fun h => ⟨h.1, fun e => h.2 (by rw [e]; exact Nat.beq_refl _)⟩, fun h => ⟨h.1, fun e => h.2 (Nat.eq_of_beq_eq_true e)⟩⟩

theorem St.mem {listed : Array Bool} {c : List (Nat × Bool)} (hR : St ops listed c) {i : Nat} (hi : i ∈ Region.ready .any ops listed) : ∃ p ∈ c, p.1 = i := by
  obtain ⟨h0, hlt, hw⟩ := ready_waits hi
  exact (hR.all i hlt).resolve_left (by rw [getD_false_of_true h0]; simp)

theorem St.some_ready (hops : opsOk ops) {listed : Array Bool} {p : Nat × Bool} {c : List (Nat × Bool)} (hR : St ops listed (p :: c)) : Region.ready .any ops listed ≠ [] := by
  intro hr
  have hp := hR.un p (List.mem_cons_self ..)
  have : p.1 ∈ Region.ready .any ops listed := by
    rw [mem_ready]
    refine ⟨hp.2.1, ops.getD p.1 default, by simp [hp.1], fun e he hb => ?_⟩
    have hwt : waits ops p.1 e.on = true := waits_spec.2 ⟨_, by simp [hp.1], e, he, rfl, hb⟩
    have hlt := (hops (ops.getD p.1 default) (by simp [hp.1])).2 e he hb
    rcases hR.all e.on hlt with h1 | ⟨q, hq, hqe⟩
    · exact h1
    · exfalso
      rcases List.mem_cons.1 hq with rfl | hq
      · rw [← hqe, hp.2.2] at hwt
        cases hwt
      · have hpw := (List.pairwise_cons.1 hR.ord).1 q hq
        rw [hqe, hwt] at hpw
        cases hpw.1
  rw [hr] at this
  cases this

theorem St.step {listed : Array Bool} {c : List (Nat × Bool)} {i : Nat} (hR : St ops listed c) (hsz : listed.size = ops.size) (hi : i ∈ Region.ready .any ops listed) : St ops (listed.setIfInBounds i true) (dropId i c) := by
  obtain ⟨h0, hlt, hw⟩ := ready_waits hi
  refine ⟨fun p hp => ?_, fun j hj => ?_, hR.ord.sublist (List.filter_sublist ..), fun j e hj he => ?_⟩
  · obtain ⟨hp, hne⟩ := mem_dropId.1 hp
    refine ⟨(hR.un p hp).1, ?_, (hR.un p hp).2.2⟩
    rw [getD_set_ne true (Ne.symm hne)]
    exact (hR.un p hp).2.1
  · by_cases e : i = j
    · subst e; left; simp [hsz, hlt]
    · rcases hR.all j hj with h1 | ⟨p, hp, hpj⟩
      · left; exact getD_set_true h1
      · exact .inr ⟨p, mem_dropId.2 ⟨hp, by rw [hpj]; exact Ne.symm e⟩, hpj⟩
  · by_cases e' : i = j
    · subst e'; exact getD_set_true (hw e he)
    · rw [getD_set_ne false e'] at hj
      exact getD_set_true (hR.closed j e hj he)

variable {X1 : Nat → Prop}
end Go.Kx
/- Own library, part Sw: what the second walk printer cites: entries of bytes in another text. -/
namespace Go.Kx
open Go
variable {P : Program} {ops : Array Oper} {D : Option (Nat → Prop)} {Q : Exit → Act → World → Prop} {w0 w w' : World} {M : List Nat} {H H' : List Ent}
  {a : Act} {n : Nat} {L : List (Nat × Value)} {rest : List (Bool × Oper)} {d : Nat} {ty : TypeId} {pos : String} {aft : Array Edge} {x y z : Operand} {u v r : Value}

theorem Mem.ownApp {p q : List UInt8} {m : Nat} (hM : Mem w0 M w (own v 1 (p.length + m) (bv p ++ bv q) :: H)) (hm : m = q.length) : Mem w0 M w (own v 1 (p ++ q).length (bv (p ++ q)) :: H) :=
  hM.ownEq (by rw [List.length_append, hm]) (bv_append p q).symm
theorem Mem.ownNil {p q : List UInt8} {m : Nat} (hM : Mem w0 M w (own v 1 (p.length + m) (bv p ++ bv q) :: H)) (hp : p = []) (hm : m = q.length) : Mem w0 M w (own v 1 q.length (bv q) :: H) := by
  subst hp
  exact hM.ownEq (by simp [hm]) rfl
/-! ## A slice that is written to and not appended to: what lies behind it in its block is whatever -/

/-- A slice's first elements, and no room behind them. -/
def cutV : Value → Nat → Value
  | .slice p _ _, l => .slice p l l
  | v, _ => v
@[simp] theorem cutV_blocks (v : Value) (l : Nat) : valBlocks (cutV v l) = valBlocks v := by cases v with
  | slice p m c => cases p <;> rfl
  | _ => rfl
end Go.Kx
/- Own library, part Sx: plain laws that the second walk printer's loops need. -/
namespace Go.Kx
open Go

theorem laid_cons (k m : Nat) : laid (k + 1) m = UInt8.ofNat (m / 256 ^ k) :: laid k m := by
  unfold laid
  rw [List.range_succ_eq_map, List.map_cons, List.map_map]
  congr 1
  · rw [two8]; simp
  · apply List.map_congr_left
    intro i hi
    have hi := List.mem_range.1 hi
    show UInt8.ofNat (m / 2 ^ (8 * (k + 1 - 1 - (i + 1)))) = _
    rw [show k + 1 - 1 - (i + 1) = k - 1 - i by omega]
theorem take_all {l : List UInt8} {n : Nat} (h : l.length = n) : l.take n = l := List.take_of_length_le (Nat.le_of_eq h)

/-! ## Loops that are gone through step by step; parts of blocks as slices; tapes in another text -/
theorem c_rounds {P : Program} {c : Code} {Q : Exit → Act → World → Prop} {n : Nat} {a : Act} {w : World} (h : c.wp P (Exit.then (Code.rounds P c Q n) Q) a w) : Code.rounds P c Q (n + 1) a w := h
theorem rd_seg8 {b o N T : Nat} {ss : List (List Value)} {ns : List Nat} {x : List UInt8} {w : World} (h : (blk b ss ns T).holds w) (hs : rdSeg o N ss ns = some (bv x)) (hx : x.length = N) : (rd (.slice (some ⟨b, o, none⟩) N N) 1 x.length N (bv x)).holds w := by
  subst hx
  exact rd_of_blk h hs (by omega) (Nat.le_refl _)
/-! ## Cells in parts are compared; strings -/
end Go.Kx
/- Own library, part Y: counts with labels (33 cells), and lists of them. -/
namespace Go.Kx
open Go
variable {P : Program} {w : World}

abbrev Cl := Nat × List UInt8
def cl (c : Cl) : List Value := .int .u64 (c.1 : Int) :: bv c.2
def cl0 : Cl := (0, List.replicate 32 0)
def OkCl (c : Cl) : Prop := c.2.length = 32 ∧ c.1 < 2 ^ 64

end Go.Kx
/- Own library, part Y2: lists of rows of one size; slices that are owned or full; cells with histories. -/
namespace Go.Kx
open Go
variable {P : Program} {ops : Array Oper} {D : Option (Nat → Prop)} {Q : Exit → Act → World → Prop} {w0 w w' : World} {M : List Nat} {H H' : List Ent}
  {a : Act} {n : Nat} {L : List (Nat × Value)} {rest : List (Bool × Oper)} {d : Nat} {ty : TypeId} {pos : String} {aft : Array Edge} {x y z : Operand} {u v r : Value}

/-! ## Lists of rows of one size -/

variable {W : World} {K : Type} {enc : TypeId × Value → K}
/-! ## Two entries are turned by a call -/

/-! ## Slices that are owned, or full -/

/-- Owned (b), or read alone and as long as they may be. -/
def hv (b : Bool) (v : Value) (es m : Nat) (cs : List Value) : Ent := cond b (own v es m cs) (rd v es m m cs)

/-! ## Cells -/

def lst (hs : List Cl) : Cl := hs.getD (hs.length - 1) cl0
@[simp] theorem lst_snoc (hs : List Cl) (c : Cl) : lst (hs ++ [c]) = c := by simp [lst, List.getD]
theorem lst_mem {hs : List Cl} (h : 0 < hs.length) : lst hs ∈ hs := by
  have e : lst hs = hs[hs.length - 1] := by simp only [lst, List.getD]; rw [List.getElem?_eq_getElem (by omega)]; rfl
  rw [e]; exact List.getElem_mem _
def mostC : Nat := 4611686018427387904
structure OkH (c0 : Cl) (hs : List Cl) : Prop where
  ok : ∀ x, x ∈ hs → OkCl x
  pos : 0 < hs.length
  top : (lst hs).1 ≤ mostC
  first : hs.getD 0 cl0 = c0
  step : ∀ k, 1 ≤ k → k < hs.length → (hs.getD k cl0).1 = (hs.getD (k - 1) cl0).1 + 1

theorem OkH.one {c0 : Cl} (h : OkCl c0) (hm : c0.1 ≤ mostC) : OkH c0 [c0] :=
  ⟨fun x hx => by rw [List.mem_singleton.1 hx]; exact h, by simp, hm, rfl, fun k h1 h2 => by simp at h2; omega⟩

theorem OkH.get {c0 : Cl} {hs : List Cl} (k : OkH c0 hs) {i : Nat} (h : i < hs.length) : OkCl (hs.getD i cl0) := by
  have e : hs.getD i cl0 = hs[i] := by simp [List.getD, h]
  rw [e]; exact k.ok _ (List.getElem_mem _)
theorem OkH.last {c0 : Cl} {hs : List Cl} (k : OkH c0 hs) : OkCl (lst hs) := k.ok _ (lst_mem k.pos)
/-- What is done to a cell: a number, and a label. -/
def act (x : Int × List UInt8) : List Value := .int .i64 x.1 :: bv x.2
end Go.Kx
/- Own library, part Rc: root records and writes as bytes, in plain Lean. -/
namespace Go.Kx
open Go
/-! ## Root records and writes -/
/-! What bytes are as a root record. -/
def py (b : List UInt8) : Nat := val ((b.drop 116).take 4)
end Go.Kx
/- Own library, part Wr: lists of rows that are read and appended to; writes as bytes. -/
namespace Go.Kx
open Go
variable {P : Program} {ops : Array Oper} {D : Option (Nat → Prop)} {Q : Exit → Act → World → Prop} {w0 w w' : World} {M : List Nat} {H H' : List Ent}
  {a : Act} {n : Nat} {L : List (Nat × Value)} {rest : List (Bool × Oper)} {d : Nat} {ty : TypeId} {pos : String} {aft : Array Edge} {x y z : Operand} {u v r : Value}

/-! ## Writes -/
abbrev Wr := Int × Int × List UInt8
def In64 (z : Int) : Prop := -9223372036854775808 ≤ z ∧ z ≤ 9223372036854775807
end Go.Kx
/- Own library, part Wx: a write that comes in. -/
namespace Go.Kx
open Go
variable {P : Program} {W : World}
end Go.Kx
/- Own library, part Wg: bytes as writes; a byte inside a part of a block. -/
namespace Go.Kx
open Go
variable {P : Program} {ops : Array Oper} {D : Option (Nat → Prop)} {Q : Exit → Act → World → Prop} {w0 w w' : World} {M : List Nat} {H H' : List Ent}
  {a : Act} {n : Nat} {L : List (Nat × Value)} {rest : List (Bool × Oper)} {d : Nat} {ty : TypeId} {pos : String} {aft : Array Edge} {x y z : Operand} {u v r : Value}
/-! ## Writes, read -/
def wAt (bs : List UInt8) (i : Nat) : Wr := (((val ((bs.drop (69 * i)).take 1) : Nat) : Int), ((val ((bs.drop (69 * i + 1)).take 4) : Nat) : Int), (bs.drop (69 * i + 5)).take 64)
def wAts (bs : List UInt8) (n : Nat) : List Wr := (List.range n).map (wAt bs)
@[simp] theorem wAts_len (bs : List UInt8) (i : Nat) : (wAts bs i).length = i := by simp [wAts]
/-! ## Root records -/
end Go.Kx
/- Own library, part Wh: two slices of rows that come in. -/
namespace Go.Kx
open Go
variable {P : Program} {W : World}
end Go.Kx
/- Own library, part St: parts of strings; slices of rows that are made. -/
namespace Go.Kx
open Go
theorem str_extract {l : List UInt8} {i j : Nat} : (str l).extract i j = str ((l.take j).drop i) := by
  apply ByteArray.ext
  apply Array.toList_inj.1
  simp [str, List.drop_take]
theorem str_drop {l : List UInt8} {i : Nat} : (str l).extract i (str l).size = str (l.drop i) := by
  rw [str_extract, List.take_of_length_le (by simp [str_size])]
end Go.Kx
/- Own library, part Hd: headers as bytes, in plain Lean. -/
namespace Go.Kx
open Go
/-- A volume: used, number, data, tag. -/
abbrev Vo := Bool × Nat × List UInt8 × List UInt8
/-- A slot: used, iterations, salt, data, tag. -/
abbrev So := Bool × Int × List UInt8 × List UInt8 × List UInt8
structure Hd where
  m : Int
  r : Int
  v0 : Vo
  v1 : Vo
  s0 : So
  s1 : So
  s2 : So
  s3 : So
def OkV (v : Vo) : Prop := v.2.1 < 18446744073709551616 ∧ v.2.2.1.length = 32 ∧ v.2.2.2.length = 32
def OkS (s : So) : Prop := In64 s.2.1 ∧ s.2.2.1.length = 16 ∧ s.2.2.2.1.length = 32 ∧ s.2.2.2.2.length = 32
structure OkHd (h : Hd) : Prop where
  m : In64 h.m
  r : In64 h.r
  v0 : OkV h.v0
  v1 : OkV h.v1
  s0 : OkS h.s0
  s1 : OkS h.s1
  s2 : OkS h.s2
  s3 : OkS h.s3
/-- What stands in bytes as a header. -/
def seg (b : List UInt8) (i n : Nat) : List UInt8 := (b.drop i).take n
/-- The sectors. -/
def padH (b : List UInt8) : List UInt8 := b ++ List.replicate 16 0
def cutH (b : List UInt8) : List (List UInt8) := (List.range 8).map fun i => seg (padH b) (64 * i) 64
end Go.Kx
/- Own library, part Hl: parts of rows of rows; a copy into a row of an owned slice. -/
set_option linter.unusedSimpArgs false
namespace Go.Kx
open Go
variable {P : Program} {ops : Array Oper} {D : Option (Nat → Prop)} {Q : Exit → Act → World → Prop} {w0 w w' : World} {M : List Nat} {H H' : List Ent}
  {a : Act} {n : Nat} {L : List (Nat × Value)} {rest : List (Bool × Oper)} {d : Nat} {ty : TypeId} {pos : String} {aft : Array Edge} {x y z : Operand} {u v r : Value}
/-! ## Lists of sectors -/
@[simp] theorem cutH_len (b : List UInt8) : (cutH b).length = 8 := by simp [cutH]
end Go.Kx
/- Own library, part Hm: a copy of whatever length into a part of a block; headers of what is short. -/
set_option linter.unusedSimpArgs false
namespace Go.Kx
open Go
variable {P : Program} {ops : Array Oper} {D : Option (Nat → Prop)} {Q : Exit → Act → World → Prop} {w0 w w' : World} {M : List Nat} {H H' : List Ent}
  {a : Act} {n : Nat} {L : List (Nat × Value)} {rest : List (Bool × Oper)} {d : Nat} {ty : TypeId} {pos : String} {aft : Array Edge} {x y z : Operand} {u v r : Value}
/-! ## Parts of slices of rows -/
/-! ## The reference's headers -/
def cut8 (b : List UInt8) : List (List UInt8) := (List.range 8).map fun i => seg b (64 * i) 64
@[simp] theorem cut8_len (b : List UInt8) : (cut8 b).length = 8 := by simp [cut8]
/-! ## What is got of sectors -/
/-! ## Bytes that are turned -/
end Go.Kx
/- Own library, part Fm: numbers as decimal texts. -/
set_option linter.unusedSimpArgs false
namespace Go.Kx
open Go
variable {P : Program} {w w' : World}
abbrev decW (u : Nat) : List UInt8 := Lib.decDigits u
theorem decW_zero : decW 0 = [48] := by rw [decW, Lib.decDigits_one (by decide)]; rfl
/-! ## Boxes -/
def padT : List UInt8 := [112, 97, 100]
def sealT : List UInt8 := [115, 101, 97, 108]
def boxL (l q : List UInt8) (n : Nat) : List UInt8 := (((l ++ [32]) ++ q) ++ [32]) ++ decW n
def maskB (k l : List UInt8) (n : Nat) : List UInt8 := subW k (boxL l padT n)
def sealB (k l : List UInt8) (n : Nat) : List UInt8 := subW k (boxL l sealT n)
@[simp] theorem maskB_len (k l : List UInt8) (n : Nat) : (maskB k l n).length = 32 := subW_length ..
@[simp] theorem sealB_len (k l : List UInt8) (n : Nat) : (sealB k l n).length = 32 := subW_length ..
def tagB (k l : List UInt8) (n : Nat) (d : List UInt8) : List UInt8 := hmacW (sealB k l n) (plT 66 d)
@[simp] theorem tagB_len (k l : List UInt8) (n : Nat) (d : List UInt8) : (tagB k l n d).length = 32 := hmacW_length ..
def wrapD (k l : List UInt8) (n : Nat) (x : List UInt8) : List UInt8 := xorW x (maskB k l n)
def unwB (k l : List UInt8) (n : Nat) (d t : List UInt8) : Bool := decide (tagB k l n d = t)
/-! ## The last digits of a number -/
def tailD (n : Nat) : Nat → List UInt8
  | 0 => []
  | i + 1 => UInt8.ofNat (48 + n / 10 ^ i % 10) :: tailD n i
@[simp] theorem tailD_len (n i : Nat) : (tailD n i).length = i := by
  induction i with
  | zero => rfl
  | succ i ih => simp [tailD, ih]
/-! ## Boxes, read -/
theorem mask_slot (k : List UInt8) : subW k [115, 108, 111, 116, 32, 112, 97, 100, 32, 48] = maskB k [115, 108, 111, 116] 0 := congrArg (subW k) (by simp [boxL, padT, decW_zero])
theorem seal_slot (k : List UInt8) : subW k [115, 108, 111, 116, 32, 115, 101, 97, 108, 32, 48] = sealB k [115, 108, 111, 116] 0 := congrArg (subW k) (by simp [boxL, sealT, decW_zero])
theorem laidMet_tail {name : String} {d : DataW Unit} {rest : List (String × DataW Unit)} {W : World} (h : laidMet P ((name, d) :: rest) W) : laidMet P rest W := by
  obtain ⟨ps, ⟨g, t, cs, fuel, p, q, h1, h2, h3, h4, h5, h6⟩, hn, hc⟩ := h
  subst h6
  exact ⟨q, h5, (List.nodup_append.1 hn).2.1, fun b off hp => hc b off (List.mem_append.2 (.inr hp))⟩
end Go.Kx
/- Own library, part Sp: digests spelt: bits of numbers, interfaces, tables, builders. -/
set_option linter.unusedSimpArgs false
namespace Go.Kx
open Go Go.RowKit
variable {P : Program} {ops : Array Oper} {D : Option (Nat → Prop)} {Q : Exit → Act → World → Prop} {w0 w w' : World} {M : List Nat} {H H' : List Ent}
  {a : Act} {n : Nat} {L : List (Nat × Value)} {rest : List (Bool × Oper)} {d : Nat} {ty : TypeId} {pos : String} {aft : Array Edge} {x y z : Operand} {u v r : Value}

/-! ## Bits of numbers -/
theorem bin_and_u64 {t : TypeId} {m s : Nat} (hm : m < 18446744073709551616) (hs : s < 18446744073709551616) : Bin P .and t (.int .u64 m) (.int .u64 s) (.int .u64 ((m &&& s : Nat) : Int)) := bin_of rfl fun w => by
  have h : m &&& s ≤ m := Nat.and_le_left
  have e : (BitVec.ofInt IntKind.u64.bits (m : Int) &&& BitVec.ofInt IntKind.u64.bits (s : Int)).toNat = m &&& s := by
    show (BitVec.ofInt 64 (m : Int) &&& BitVec.ofInt 64 (s : Int)).toNat = m &&& s
    simp [BitVec.toNat_and, Nat.mod_eq_of_lt (show m < 2 ^ 64 by omega), Nat.mod_eq_of_lt (show s < 2 ^ 64 by omega)]
  simp only [binOp, Op.intBits]
  rw [if_neg (by simp), e]
  have := wrap_u64 (q := ((m &&& s : Nat) : Int)) (by omega) (by omega)
  rw [this]; rfl
theorem bin_and_i64 {t : TypeId} {m s : Nat} (hm : m < 9223372036854775808) (hs : s < 9223372036854775808) : Bin P .and t (.int .i64 m) (.int .i64 s) (.int .i64 ((m &&& s : Nat) : Int)) := bin_of rfl fun w => by
  have h : m &&& s ≤ m := Nat.and_le_left
  have e : (BitVec.ofInt IntKind.i64.bits (m : Int) &&& BitVec.ofInt IntKind.i64.bits (s : Int)).toNat = m &&& s := by
    show (BitVec.ofInt 64 (m : Int) &&& BitVec.ofInt 64 (s : Int)).toNat = m &&& s
    simp [BitVec.toNat_and, Nat.mod_eq_of_lt (show m < 2 ^ 64 by omega), Nat.mod_eq_of_lt (show s < 2 ^ 64 by omega)]
  simp only [binOp, Op.intBits]
  rw [if_neg (by simp), e]
  have := wrap_i64 (q := ((m &&& s : Nat) : Int)) (by omega) (by omega)
  rw [this]; rfl
theorem bin_mask {t : TypeId} {m s : Nat} (k : Nat) (hm : m < 18446744073709551616) (hk : s + 1 = 2 ^ k) (hs : s < 18446744073709551616) : Bin P .and t (.int .u64 m) (.int .u64 s) (.int .u64 ((m % 2 ^ k : Nat) : Int)) := by
  have h := bin_and_u64 (P := P) (t := t) hm hs
  have e : m &&& s = m % 2 ^ k := by rw [show s = 2 ^ k - 1 by omega, Nat.and_two_pow_sub_one_eq_mod]
  rw [e] at h; exact h
theorem s_neg {k : IntKind} {i q : Int} {t : TypeId} (hE : Env a n L) (hx : ev L x = some (.int k i)) (hw : k.wrap (-i) = q) (hn : Nat.blt d n = true) (c : ∀ a', Env a' n ((d, .int k q) :: L) → wpL P ops D Q rest a' w) :
    wpL P ops D Q ((true, ⟨some d, .unOp .neg t x, ty, pos, aft, none⟩) :: rest) a w :=
  s_val hE hn (Flo.of_all (fun w => by simp [execOp, hE.eval hx, Op.unary, Op.intArith, hw]) w) c
/-! ## Interfaces -/
/-! ## Tables -/
theorem cells_of_laid {name : String} {k : IntKind} {zs : List Int} {rest : List (String × DataW Unit)} {g : Nat} {t e : TypeId} {n : Nat} {d : DataW Unit} {W : World}
    (hg : P.globalNamed name = some g) (hty : (P.globals[g]?).map (·.type) = some t) (ht : P.underlying t = some (.array n e)) (he : P.underlying e = some (.int k)) (hce : P.cellsOf e = 1) (hct : P.cellsOf t = n) (hd : d = Lib.tabData k zs)
    (h : laidMet P ((name, d) :: rest) W) : (cellsAt (.pointer (some ⟨g, 0, none⟩)) (zs.map fun z => Value.int k z)).holds W := by
  subst hd
  have hT := Lib.tabIs_of_head hg hty ht he hce hct h
  have h' := hT
  unfold Lib.TabIs World.var? at h'
  simp only [hg, Option.bind_some] at h'
  have h1 : g < W.heap.size := by
    rcases Nat.lt_or_ge g W.heap.size with h1 | h1
    · exact h1
    · rw [Array.getElem?_eq_none h1] at h'; simp at h'
  refine ⟨g, 0, rfl, h1, fun i x hx => ?_⟩
  have hi : i < zs.length := by
    have := (List.getElem?_eq_some_iff.1 hx).1
    simpa using this
  have hc := hT.cell hg i hi
  rw [Nat.zero_add, hc, ← hx]
  simp [List.getD, hi]

/-! ## Builders -/
theorem bld_mem {T e B b : Nat} {bs : List Value} (h : Lib.IsBuilderF T e B b bs w) (hM : Mem w [] w' H) : Lib.IsBuilderF T e B b bs w' := by
  have key : ∀ p, Lib.BuilderAtF T e B b p bs w → Lib.BuilderAtF T e B b p bs w' := by
    rintro p ⟨hB, v, hb, ⟨hl, ho⟩, hne⟩
    have hf : ∀ g, g < w.heap.size → w'.heap[g]? = w.heap[g]? := fun g hg => hM.frame g hg (by simp)
    refine ⟨hB, v, by rw [hf b (Array.getElem?_eq_some_iff.1 hb).1]; exact hb, ⟨hl, ?_⟩, hne⟩
    rcases ho with ho | ⟨g, cap, cur, fz, h1, h2, h3, h4⟩
    · exact .inl ho
    · exact .inr ⟨g, cap, cur, fz, h1, h2, by rw [hf g (Array.getElem?_eq_some_iff.1 h3).1]; exact h3, h4⟩
  exact h.elim (fun x => .inl (key _ x)) (fun x => .inr (key _ x))
theorem Mem.onBelow {B : Nat} (hM : Mem w0 [] w []) (hB : w0.heap.size ≤ B) (h : Below B w w') : Mem w0 [] w' [] :=
  ⟨h.os.trans hM.os, h.tape.trans hM.tape, h.output.trans hM.output, Nat.le_trans hM.size h.size, fun b hb hm => (h.block b (by omega)).trans (hM.frame b hb hm), fun _ he => (by cases he), fun _ he => (by cases he), fun _ he => (by cases he), .nil⟩
/-- A builder is made. -/
theorem s_allocB {t e : Nat} (hE : Env a n L) (hM : Mem w0 M w H) (hz : Zero P t [[.pointer none], [.slice none 0 0]]) (hn : Nat.blt d n = true)
    (k : ∀ a' b w', Env a' n ((d, .pointer (some ⟨b, 0, none⟩)) :: L) → Mem w0 M w' H → w0.heap.size ≤ b → b ≤ w'.heap.size → Lib.IsBuilderF t e b b [] w' → wpL P ops D Q rest a' w') : wpL P ops D Q ((false, ⟨some d, .alloc t, ty, pos, aft, none⟩) :: rest) a w := by
  obtain ⟨z, hz, hc⟩ := run_zero hz
  refine b_val hE hn (v := .pointer (some ⟨w.heap.size, 0, none⟩)) (w' := w.alloc (.cells #[.pointer none, .slice none 0 0] t)) ?_ (Sta.alloc D w _) (fun a' hE' => k a' _ _ hE' (((hM.alloc [[.pointer none], [.slice none 0 0]] [1, 1] t rfl)).sub (List.sublist_cons_self _ _)) hM.size (by simp) (Lib.IsBuilderF.of (Lib.fresh_isBuilder t e w)))
  simp [execOp, Instr.alloc, hz, newVar, newRow, hc]
end Go.Kx
