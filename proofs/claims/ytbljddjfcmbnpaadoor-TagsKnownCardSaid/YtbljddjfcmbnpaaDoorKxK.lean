/- Own library, part K: what the document's SHA-256 computes is what the given one computes; append of new memory. -/
import Derived.Test.YtbljddjfcmbnpaaDoorKxJ2
namespace Go.Kx
open Go
variable {P : Program} {ops : Array Oper} {D : Option (Nat → Prop)} {Q : Exit → Act → World → Prop} {w0 w w' : World} {M : List Nat} {H H' : List Ent}
  {a : Act} {n : Nat} {L : List (Nat × Value)} {rest : List (Bool × Oper)} {d : Nat} {ty : TypeId} {pos : String} {aft : Array Edge} {x y z : Operand} {u v r : Value}

/-! ## Words, more -/

theorem wd_elem {l : List UInt32} {j : Nat} (h : j < l.length) : ((wd l).drop (j * 1)).take 1 = [wV (l.getD j 0)] := by
  apply List.ext_getElem?
  intro i
  cases i with
  | zero => simp [wd, List.getD, h]
  | succ i => simp; omega

theorem bin_rem32 {t : TypeId} {x y : UInt32} (h : y.toNat ≠ 0) : Bin P .rem t (wV x) (wV y) (wV (x % y)) := by
  have := bin_rem_nat (P := P) (t := t) (k := .u32) (m := x.toNat) h
  unfold wV; rw [UInt32.toNat_mod]; exact this
theorem bin_quo32 {t : TypeId} {x y : UInt32} (h : y.toNat ≠ 0) : Bin P .quo t (wV x) (wV y) (wV (x / y)) := by
  have := bin_quo_nat (P := P) (t := t) (k := .u32) (m := x.toNat) h (wrap_u32_lt (Nat.lt_of_le_of_lt (Nat.div_le_self _ _) x.toNat_lt))
  unfold wV; rw [UInt32.toNat_div]; exact this

theorem shrW_toNat (x : UInt32) (k : Nat) : (shrW x k).toNat = x.toNat / 2 ^ k := UInt32.toNat_ofNat_of_lt' (Nat.lt_of_le_of_lt (Nat.div_le_self _ _) x.toNat_lt)
theorem shlW_toNat (x : UInt32) (k : Nat) : (shlW x k).toNat = x.toNat * 2 ^ k % 2 ^ 32 := by simp [shlW]

theorem one_shl {k : Nat} (h : k < 32) : (shlW 1 k).toNat = 2 ^ k := by
  rw [shlW_toNat]
  have : 2 ^ k < 2 ^ 32 := Nat.pow_lt_pow_right (by omega) h
  simp only [UInt32.toNat_one, Nat.one_mul]
  exact Nat.mod_eq_of_lt this

theorem cut_eq {x : UInt32} {k : Nat} (h : k < 32) : x / shlW 1 k = shrW x k := by
  apply UInt32.toNat_inj.1
  rw [UInt32.toNat_div, one_shl h, shrW_toNat]

theorem rot_eq {x : UInt32} {k : Nat} (h0 : 0 < k) (h : k < 32) : shrW x k + shlW (x % shlW 1 k) (32 - k) = rotW x k := by
  have hx := x.toNat_lt
  have e32 : 2 ^ 32 = 2 ^ k * 2 ^ (32 - k) := by rw [← Nat.pow_add]; congr 1; omega
  have hlow : x.toNat % 2 ^ k * 2 ^ (32 - k) < 2 ^ 32 := by
    rw [e32]; exact Nat.mul_lt_mul_of_pos_right (Nat.mod_lt _ (Nat.two_pow_pos k)) (Nat.two_pow_pos _)
  have hhi : x.toNat / 2 ^ k < 2 ^ (32 - k) := by
    apply Nat.div_lt_of_lt_mul; rw [← e32]; exact hx
  have hm : x.toNat * 2 ^ (32 - k) % 2 ^ 32 = x.toNat % 2 ^ k * 2 ^ (32 - k) := by
    rw [e32, Nat.mul_comm (2 ^ k), Nat.mul_comm x.toNat, Nat.mul_mod_mul_left, Nat.mul_comm]
  have hs1 : (shlW (x % shlW 1 k) (32 - k)).toNat = x.toNat % 2 ^ k * 2 ^ (32 - k) := by
    rw [shlW_toNat, UInt32.toNat_mod, one_shl h, Nat.mod_eq_of_lt hlow]
  have hor : x.toNat / 2 ^ k ||| x.toNat % 2 ^ k * 2 ^ (32 - k) = x.toNat / 2 ^ k + x.toNat % 2 ^ k * 2 ^ (32 - k) := by
    have := Nat.two_pow_add_eq_or_of_lt hhi (x.toNat % 2 ^ k)
    rw [Nat.or_comm, Nat.mul_comm (x.toNat % 2 ^ k), ← this]
    omega
  have hlt : x.toNat / 2 ^ k + x.toNat % 2 ^ k * 2 ^ (32 - k) < 2 ^ 32 := by
    rw [← hor]; exact Nat.or_lt_two_pow (Nat.lt_of_le_of_lt (Nat.div_le_self _ _) hx) hlow
  apply UInt32.toNat_inj.1
  rw [UInt32.toNat_add, hs1, shrW_toNat, rotW, UInt32.toNat_or, shrW_toNat, shlW_toNat, hm, hor]
  exact Nat.mod_eq_of_lt hlt

def bitW (x : UInt32) (i : Nat) : UInt32 := shrW x i % 2
theorem bitW_eq (x : UInt32) (i : Nat) : bitW x i = if x.toNat.testBit i then 1 else 0 := by
  apply UInt32.toNat_inj.1
  rw [bitW, UInt32.toNat_mod, shrW_toNat, Nat.testBit_eq_decide_div_mod_eq]
  have h2 : (2 : UInt32).toNat = 2 := rfl
  rw [h2]
  by_cases h : x.toNat / 2 ^ i % 2 = 1
  · simp [h]
  · have : x.toNat / 2 ^ i % 2 = 0 := by omega
    simp [this]

/-- Bits from the top on, one behind the other. -/
def accW (f : Nat → UInt32) : Nat → UInt32
  | 0 => 0
  | j + 1 => 2 * accW f j + f (31 - j)
theorem accW_bits (x : UInt32) : ∀ j, j ≤ 32 → accW (bitW x) j = shrW x (32 - j)
  | 0, _ => by
    apply UInt32.toNat_inj.1
    rw [shrW_toNat]
    have := x.toNat_lt
    simp [accW]; omega
  | j + 1, h => by
    apply UInt32.toNat_inj.1
    have hx := x.toNat_lt
    have ih := accW_bits x j (by omega)
    have h2 : (2 : UInt32).toNat = 2 := rfl
    rw [accW, ih, UInt32.toNat_add, UInt32.toNat_mul, shrW_toNat, shrW_toNat, bitW, UInt32.toNat_mod, shrW_toNat, h2]
    have e1 : 32 - j = (31 - j) + 1 := by omega
    have e2 : 32 - (j + 1) = 31 - j := by omega
    rw [e1, e2, Nat.pow_succ, ← Nat.div_div_eq_div_mul]
    have hlt : x.toNat / 2 ^ (31 - j) < 2 ^ 32 := Nat.lt_of_le_of_lt (Nat.div_le_self _ _) hx
    omega
theorem accW_all (x : UInt32) : accW (bitW x) 32 = x := by
  rw [accW_bits x 32 (Nat.le_refl _)]
  apply UInt32.toNat_inj.1
  rw [shrW_toNat]; simp
theorem accW_congr {f g : Nat → UInt32} (h : ∀ i, f i = g i) : ∀ j, accW f j = accW g j
  | 0 => rfl
  | j + 1 => by rw [accW, accW, accW_congr h j, h]

def chB (e f g : UInt32) (i : Nat) : UInt32 := if bitW e i = 1 then bitW f i else bitW g i
def majB (a b c : UInt32) (i : Nat) : UInt32 := (bitW a i + bitW b i + bitW c i) / 2

theorem ch_eq (e f g : UInt32) : accW (chB e f g) 32 = g ^^^ (e &&& (f ^^^ g)) := by
  rw [← accW_all (g ^^^ (e &&& (f ^^^ g)))]
  refine accW_congr (fun i => ?_) 32
  simp only [chB, bitW_eq, UInt32.toNat_xor, UInt32.toNat_and, Nat.testBit_xor, Nat.testBit_and]
  cases e.toNat.testBit i <;> cases f.toNat.testBit i <;> cases g.toNat.testBit i <;> decide
theorem maj_eq (a b c : UInt32) : accW (majB a b c) 32 = ((a &&& b) ||| (a &&& c)) ||| (b &&& c) := by
  rw [← accW_all (((a &&& b) ||| (a &&& c)) ||| (b &&& c))]
  refine accW_congr (fun i => ?_) 32
  simp only [majB, bitW_eq, UInt32.toNat_or, UInt32.toNat_and, Nat.testBit_or, Nat.testBit_and]
  cases a.toNat.testBit i <;> cases b.toNat.testBit i <;> cases c.toNat.testBit i <;> decide

theorem be4_eq (a b c e : UInt8) : beW [a, b, c, e] = UInt32.ofNat a.toNat * 16777216 + UInt32.ofNat b.toNat * 65536 + UInt32.ofNat c.toNat * 256 + UInt32.ofNat e.toNat := by
  apply UInt32.toNat_inj.1
  have h1 := a.toNat_lt
  have h2 := b.toNat_lt
  have h3 := c.toNat_lt
  have h4 := e.toNat_lt
  have k1 : (16777216 : UInt32).toNat = 16777216 := rfl
  have k2 : (65536 : UInt32).toNat = 65536 := rfl
  have k3 : (256 : UInt32).toNat = 256 := rfl
  simp only [beW, List.foldl, UInt32.toNat_add, UInt32.toNat_mul, UInt32.toNat_ofNat', k1, k2, k3, UInt32.toNat_zero]
  omega

/-! ## The reference's numbers go round -/

def refW (n : List UInt32) (i : Nat) : List UInt32 := [gW n 0 i, gW n 1 i, gW n 2 i, gW n 3 i, gW n 4 i, gW n 5 i, gW n 6 i, gW n 7 i]

theorem gW_set_ne {n : List UInt32} {k i j : Nat} {x : UInt32} (h : whoI k i ≠ j) : gW (n.set j x) k i = gW n k i := by
  simp [gW, List.getD, List.getElem?_set_ne (Ne.symm h)]
theorem gW_set_eq {n : List UInt32} {k i j : Nat} {x : UInt32} (h : whoI k i = j) (hn : n.length = 8) : gW (n.set j x) k i = x := by
  have : j < n.length := by have := whoI_lt k i; omega
  simp [gW, List.getD, h, this]
theorem gW_next {n : List UInt32} {k i : Nat} (h : i < 64) : gW n (k + 1) (i + 1) = gW n k i := by
  have : whoI (k + 1) (i + 1) = whoI k i := by unfold whoI; congr 1; omega
  unfold gW; rw [this]

theorem ref_step {n : List UInt32} {s m : UInt32} {i : Nat} (hi : i < 64) (hn : n.length = 8) :
    refW (stepW n s m i) (i + 1) = [pW n s m i + (((rotW (gW n 0 i) 2 ^^^ rotW (gW n 0 i) 13) ^^^ rotW (gW n 0 i) 22) + mostW n i), gW n 0 i, gW n 1 i, gW n 2 i, gW n 3 i + pW n s m i, gW n 4 i, gW n 5 i, gW n 6 i] := by
  have ne : ∀ k l : Nat, k < 8 → l < 8 → k ≠ l → whoI k i ≠ whoI l i := by
    intro k l hk hl hkl; unfold whoI; omega
  have h0 : whoI 0 (i + 1) = whoI 7 i := by unfold whoI; omega
  have g0 : gW (stepW n s m i) 0 (i + 1) = pW n s m i + ((rotW (gW n 0 i) 2 ^^^ rotW (gW n 0 i) 13) ^^^ rotW (gW n 0 i) 22) + mostW n i := by
    unfold stepW
    exact gW_set_eq h0 (by simpa using hn)
  have g4 : gW (stepW n s m i) 4 (i + 1) = gW n 3 i + pW n s m i := by
    rw [gW_next hi]; unfold stepW
    rw [gW_set_ne (ne 3 7 (by omega) (by omega) (by omega)), gW_set_eq rfl hn]
  have gk : ∀ k, k < 7 → k ≠ 3 → gW (stepW n s m i) (k + 1) (i + 1) = gW n k i := by
    intro k hk h3
    rw [gW_next hi]; unfold stepW
    rw [gW_set_ne (ne k 7 (by omega) (by omega) (by omega)), gW_set_ne (ne k 3 (by omega) (by omega) h3)]
  unfold refW
  rw [g0, g4, gk 0 (by omega) (by omega), gk 1 (by omega) (by omega), gk 2 (by omega) (by omega), gk 4 (by omega) (by omega), gk 5 (by omega) (by omega), gk 6 (by omega) (by omega), UInt32.add_assoc]

theorem ref_start {n : List UInt32} (hn : n.length = 8) : refW n 0 = n := by
  match n, hn with
  | [a, b, c, d, e, f, g, h], _ => rfl
theorem ref_end {n : List UInt32} (hn : n.length = 8) : refW n 64 = n := by
  match n, hn with
  | [a, b, c, d, e, f, g, h], _ => rfl

/-- The first k sums. -/
def sumT (was n : List UInt32) : Nat → List UInt32
  | 0 => []
  | k + 1 => sumT was n k ++ [n.getD k 0 + was.getD k 0]
@[simp] theorem sumT_length (was n : List UInt32) : ∀ k, (sumT was n k).length = k
  | 0 => rfl
  | k + 1 => by simp [sumT, sumT_length was n k]
theorem sumT_all {was n : List UInt32} (hn : n.length = 8) : sumT was n 8 = sumW was n 8 := by
  match n, hn with
  | [a, b, c, d, e, f, g, h], _ => rfl

/-! ## Bytes of numbers -/

theorem bytes4 {n : List UInt32} {i : Nat} : bytesW n (4 * i + 4) = bytesW n (4 * i) ++ [UInt8.ofNat (n.getD i 0 / 16777216).toNat, UInt8.ofNat (n.getD i 0 / 65536).toNat, UInt8.ofNat (n.getD i 0 / 256).toNat, UInt8.ofNat (n.getD i 0).toNat] := by
  have e : bytesW n (4 * i + 4) = bytesW n (4 * i) ++ [UInt8.ofNat (shrW (n.getD (4 * i / 4) 0) (24 - 4 * i % 4 * 8)).toNat] ++ [UInt8.ofNat (shrW (n.getD ((4 * i + 1) / 4) 0) (24 - (4 * i + 1) % 4 * 8)).toNat] ++
      [UInt8.ofNat (shrW (n.getD ((4 * i + 2) / 4) 0) (24 - (4 * i + 2) % 4 * 8)).toNat] ++ [UInt8.ofNat (shrW (n.getD ((4 * i + 3) / 4) 0) (24 - (4 * i + 3) % 4 * 8)).toNat] := rfl
  rw [e]
  have a1 : 4 * i / 4 = i := by omega
  have a2 : (4 * i + 1) / 4 = i := by omega
  have a3 : (4 * i + 2) / 4 = i := by omega
  have a4 : (4 * i + 3) / 4 = i := by omega
  have b1 : 24 - 4 * i % 4 * 8 = 24 := by omega
  have b2 : 24 - (4 * i + 1) % 4 * 8 = 16 := by omega
  have b3 : 24 - (4 * i + 2) % 4 * 8 = 8 := by omega
  have b4 : 24 - (4 * i + 3) % 4 * 8 = 0 := by omega
  rw [a1, a2, a3, a4, b1, b2, b3, b4]
  simp only [shrW_toNat, UInt32.toNat_div, List.append_assoc, List.cons_append, List.nil_append]
  have k1 : (16777216 : UInt32).toNat = 16777216 := rfl
  have k2 : (65536 : UInt32).toNat = 65536 := rfl
  have k3 : (256 : UInt32).toNat = 256 := rfl
  rw [k1, k2, k3]
  simp

theorem set4 {b : List UInt8} {i : Nat} {p q r s : UInt8} (hb : b.length = 4 * i) (hi : i < 8) :
    ((((b ++ List.replicate (32 - 4 * i) 0).set (4 * i) p).set (4 * i + 1) q).set (4 * i + 2) r).set (4 * i + 3) s = b ++ [p, q, r, s] ++ List.replicate (32 - (4 * i + 4)) 0 := by
  obtain ⟨k, hk⟩ : ∃ k, 32 - 4 * i = k + 4 := ⟨32 - 4 * i - 4, by omega⟩
  rw [hk, show 32 - (4 * i + 4) = k by omega]
  have e : List.replicate (k + 4) (0 : UInt8) = 0 :: 0 :: 0 :: 0 :: List.replicate k 0 := rfl
  rw [e, List.set_append_right _ _ (by omega), hb, List.set_append_right _ _ (by omega), hb, List.set_append_right _ _ (by omega), hb, List.set_append_right _ _ (by omega), hb]
  simp

/-! ## append(s, make([]byte, n)...) -/

theorem run_appendZ {t xt ts e m m' c : Nat} {p : Option Addr} {ie : TypeInfo} (hu : P.underlying t = some (.slice e)) (hie : P.info? e = some ie) (hs : ie.size = 1) (hb : ie.bytes = 1) (hz : ie.zero = some (.int .u8 0)) (hxt : P.underlying xt = some (.int .i64)) (hts : P.underlying ts = some .string)
    (h63 : m + m' ≤ 1000000) (hmc : m ≤ c) (w : World) :
    (Builtin.append_ #[t, xt] ty #[.slice p m c, .int .i64 (m' : Int)]).run P w = (Builtin.append_ #[t, ts] ty #[.slice p m c, .string ⟨Array.replicate m' 0⟩]).run P w := by
  have hw : IntKind.i64.wrap (m' : Int) = (m' : Int) := wrap_i64 (by omega) (by omega)
  have hneg : ¬ ((m' : Int) < 0) := by omega
  have h48 : ¬ ((281474976710656 : Int) < (m' : Int)) := by omega
  have h63' : ¬ (9223372036854775807 < ((m : Int) + (m' : Int))) := by omega
  have hsz : (⟨Array.replicate m' 0⟩ : ByteArray).size = m' := by simp [ByteArray.size]
  have hzc : Builtin.zeroCells (Value.cells (.int .u8 0)) m' = (List.replicate m' (Value.int .u8 0)).toArray := by
    apply Array.ext'
    simp only [Builtin.zeroCells, Value.cells]
    apply List.ext_getElem?
    intro i
    by_cases hi : i < m'
    · simp [hi, Nat.mod_one]
    · simp [hi]
  have hfc : ∀ w, (Builtin.firstCells 1 m' (.string ⟨Array.replicate m' 0⟩)).run P w = .ok (List.replicate m' (Value.int .u8 0)).toArray w := by
    intro w
    have e : (ByteArray.extract ⟨Array.replicate m' 0⟩ 0 m').data.map (fun b => Value.int .u8 b.toNat) = (List.replicate m' (Value.int .u8 0)).toArray := by
      apply Array.ext'
      simp [ByteArray.data_extract]
    simp only [Builtin.firstCells, e, Sem.run_pure]
  have hap : ∀ w, (if m' * 1 = 0 then (pure #[] : Sem (Array Value)) else do pure (Builtin.zeroCells (← zeroValue e).cells m')).run P w = .ok (List.replicate m' (Value.int .u8 0)).toArray w := by
    intro w
    by_cases h0 : m' = 0
    · subst h0; simp
    · have : ¬ (m' * 1 = 0) := by omega
      simp [this, zeroValue, typeInfo, hie, hz, hzc, Sem.run_bind]
  by_cases h0 : m' = 0
  · subst h0
    have hs0 : (⟨#[]⟩ : ByteArray).size = 0 := rfl
    have hf0 : ∀ w, (Builtin.firstCells 1 0 (.string ⟨#[]⟩)).run P w = .ok #[] w := fun w => by simpa using hfc w
    simp [Builtin.append_, run_underlying hu, run_underlying hxt, run_underlying hts, sizeOf, typeInfo, zeroValue, hie, hs, hb, hz, asInt, asIntOf, (show IntKind.i64.wrap 0 = 0 by decide), hmc, hs0, Builtin.lenOf, hf0]
  · have hpos : ¬ ((m' : Int) ≤ 0) := by omega
    have hpos' : ¬ (m' ≤ 0) := by omega
    by_cases hroom : m + m' ≤ c
    · simp [Builtin.append_, run_underlying hu, run_underlying hxt, run_underlying hts, sizeOf, typeInfo, zeroValue, hie, hs, hb, hz, asInt, asIntOf, hw, hneg, h48, hroom, hsz, Builtin.lenOf, hfc, hpos, hpos', h0, hzc]
      skip
    · have hfit : ¬ (281474976710656 < Builtin.nextslicecap (m + m') c * 1) := by have := growslice_fits (need := m + m') (old := c) (bytes := 1) (by omega) (by omega); omega
      simp only [Nat.mul_one] at hfit
      simp [Builtin.append_, run_underlying hu, run_underlying hxt, run_underlying hts, sizeOf, typeInfo, zeroValue, hie, hs, hb, hz, asInt, asIntOf, hw, hneg, h48, hroom, hsz, Builtin.lenOf, hfc, h63', hfit, hpos, hpos', h0, hzc]
      skip

theorem s_appendZ {t xt ts e m m' : Nat} {bs : List UInt8} (hE : Env a n L) (hx : ev L x = some v) (hy : ev L y = some (.int .i64 (m' : Int))) (hM : Mem w0 M w (own v 1 m (bv bs) :: H)) (ht : SlT P t e 1 1)
    (hz : (P.info? e).bind (·.zero) = some (.int .u8 0)) (hxt : P.underlying xt = some (.int .i64)) (hts : P.underlying ts = some .string) (hD : D = none) (h63 : m + m' ≤ 1000000) (hn : Nat.blt d n = true)
    (k : ∀ a' v' w', Env a' n ((d, v') :: L) → Mem w0 M w' (own v' 1 (m + m') (bv (bs ++ List.replicate m' 0)) :: H) → wpL P ops D Q rest a' w') :
    wpL P ops D Q ((false, ⟨some d, .call { callee := .builtin .append, args := #[x, y], argTypes := #[t, xt] }, ty, pos, aft, none⟩) :: rest) a w := by
  subst hD
  have hA : ∃ v' w', (Builtin.append_ #[t, xt] ty #[v, .int .i64 (m' : Int)]).run P w = .ok v' w' ∧ Appended w w' v v' 1 (m + m') (bv bs ++ bv (List.replicate m' 0)) := by
    have ht' := ht
    obtain ⟨hu, hs, hb, _⟩ := ht
    obtain ⟨ie, hie⟩ : ∃ ie, P.info? e = some ie := by cases h : P.info? e with | none => simp [h] at hs | some i => exact ⟨i, rfl⟩
    simp only [hie, Option.map_some, Option.some.injEq, Option.bind_some] at hs hb hz
    have hown := hM.get 0 rfl
    obtain ⟨p, c, hv⟩ : ∃ p c, v = .slice p m c := own_slice hown
    obtain ⟨c', hrd⟩ := own_rd hown
    have hmc : m ≤ c := by
      have := rd_len hrd
      rcases hrd.2 with ⟨q, h1, h2, h3⟩ | ⟨b, o, h1, h2, _⟩
      · omega
      · rw [hv] at h1; cases h1; exact h2
    have hsrc : Src P 1 ts (.string ⟨Array.replicate m' 0⟩) m' (bv (List.replicate m' 0)) w := by
      have := Src.str (P := P) (w := w) hts ⟨Array.replicate m' 0⟩
      simpa [ByteArray.size] using this
    obtain ⟨v', w', hr, hA⟩ := run_append (ty := ty) ht' hown hsrc (by rw [maxLen_eq]; omega) (by omega)
    refine ⟨v', w', ?_, hA⟩
    rw [hv, run_appendZ hu hie hs hb hz hxt hts h63 hmc]
    rw [hv] at hr; exact hr
  obtain ⟨v', w', hr, hA⟩ := hA
  refine b_val hE hn (v := v') (w' := w') ?_ trivial (fun a' hE' => k a' v' w' hE' ?_)
  · simp [execOp, resolve, invoke, builtin, hE.eval hx, hE.eval hy, hr]
  · have := hM.append hA
    rw [← bv_append] at this
    exact this

end Go.Kx
