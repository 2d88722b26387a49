/- Own library: parts KxH, KxI, KxJ, KxJ2, KxZ, KxN, KxM, KxTa. -/
import Derived.Test.YtacebdngbalkmaaDoorKc2
import Derived.DeepKeys
import Derived.LaidMore
import Derived.MakeChecks
import Derived.Lay
import Derived.Lib.LaidTab
import Derived.Stop.Joined
import Derived.Lib.Repeat
set_option linter.unusedSimpArgs false
set_option linter.unusedVariables false
/- Own library, part H: words of 32 bits, arrays that are indexed by what is not known, closures' cells, drawn regions in two phases over memory. -/
namespace Go.Kx
open Go
variable {P : Program} {Q : Exit → Act → World → Prop} {D : Option (Nat → Prop)} {ops : Array Oper} {rest : List (Bool × Oper)} {a : Act} {w w0 w' : World} {n d : Nat} {L : List (Nat × Value)} {x y : Operand} {v u : Value} {M : List Nat} {H : List Ent} {ty : TypeId} {pos : String} {aft : Array Edge}

theorem wp_drawnM2 {id : Nat} {ops : Array Oper} (hM : Mem w0 M w H) (hm : P.follows .mixedOrders = true) (X1 X2 : Nat → Prop) (c1 c2 : List (Nat × Bool)) (T : List (Nat × List (Nat × Nat)))
    (hc : canonOk ops (c1 ++ c2) T = true) (hx : crossOk ops c1 c2 T = true) {l1 l2 : List (Bool × Oper)} (hl1 : theOps ops c1 = l1) (hl2 : theOps ops c2 = l2)
    (h : ∀ w', Mem w0 M w' H → w'.heap = w.heap → wpL P ops (some X1) (ph P ops (some X2) Q l2) l1 a w') : (Code.region id ops true).wp P Q a w :=
  wp_drawn2 hm X1 X2 c1 c2 T hc hx hl1 hl2 (h _ hM.drew rfl)

theorem wp_forkM {id : Nat} {ops : Array Oper} (hM : Mem w0 M w H) (hm : P.follows .mixedOrders = true) (X1 X2 : Nat → Prop) (pre : List (Nat × Bool)) (x y : Nat × Bool) (post c2 : List (Nat × Bool)) (T : List (Nat × List (Nat × Nat)))
    (hc : forkOk ops pre x y post c2 T = true) (hx : crossOk ops (pre ++ x :: y :: post) c2 T = true) {l1 l1' l2 : List (Bool × Oper)} (hl1 : theOps ops (pre ++ x :: y :: post) = l1) (hl1' : theOps ops (pre ++ y :: x :: post) = l1') (hl2 : theOps ops c2 = l2)
    (h : ∀ w', Mem w0 M w' H → w'.heap = w.heap → wpL P ops (some X1) (ph P ops (some X2) Q l2) l1 a w') (h' : ∀ w', Mem w0 M w' H → w'.heap = w.heap → wpL P ops (some X1) (ph P ops (some X2) Q l2) l1' a w') :
    (Code.region id ops true).wp P Q a w :=
  wp_fork hm X1 X2 pre x y post c2 T hc hx hl1 hl1' hl2 (h _ hM.drew rfl) (h' _ hM.drew rfl)

theorem q_ph {l : List (Bool × Oper)} (h : wpL P ops D Q l a w) : ph P ops D Q l .normal a w := h

/-! ## Words -/

def wV (x : UInt32) : Value := .int .u32 (x.toNat : Int)
def wd (l : List UInt32) : List Value := l.map wV
@[simp] theorem wd_length (l : List UInt32) : (wd l).length = l.length := by simp [wd]
theorem wd_one (l : List UInt32) : One (wd l) := fun v hv => by
  obtain ⟨x, _, rfl⟩ := List.mem_map.1 hv; rfl
theorem wd_get {l : List UInt32} {j : Nat} (h : j < l.length) : (wd l)[j]? = some (wV (l.getD j 0)) := by simp [wd, h]
theorem wd_set {l : List UInt32} {j : Nat} {x : UInt32} : (wd l).set j (wV x) = wd (l.set j x) := by simp [wd, List.map_set]
theorem bv_get {l : List UInt8} {j : Nat} (h : j < l.length) : (bv l)[j]? = some (bV (l.getD j 0)) := by simp [bv, h]
theorem bv_set' {l : List UInt8} {j : Nat} {x : UInt8} : (bv l).set j (bV x) = bv (l.set j x) := by simp [bv, List.map_set]

theorem bv_setI {l : List UInt8} {j : Nat} {x : UInt8} : (bv l).set j (.int .u8 (x.toNat : Int)) = bv (l.set j x) := bv_set'

theorem wrap_u32_ofNat (m : Nat) : IntKind.u32.wrap (m : Int) = ((UInt32.ofNat m).toNat : Int) := by
  rw [IntKind.wrap_u32]; simp

theorem bin_add32 {t : TypeId} {x y : UInt32} : Bin P .add t (wV x) (wV y) (wV (x + y)) :=
  bin_add (by
    have := wrap_u32_ofNat (x.toNat + y.toNat)
    rw [Int.natCast_add] at this
    rw [this, UInt32.ofNat_add]; simp)
theorem bin_mul32 {t : TypeId} {x y : UInt32} : Bin P .mul t (wV x) (wV y) (wV (x * y)) :=
  bin_mul (by
    have := wrap_u32_ofNat (x.toNat * y.toNat)
    rw [Int.natCast_mul] at this
    rw [this, UInt32.ofNat_mul]; simp)

theorem wrap_u32_lt {m : Nat} (h : m < 2 ^ 32) : IntKind.u32.wrap (m : Int) = (m : Int) := by
  rw [wrap_u32_ofNat, UInt32.toNat_ofNat_of_lt' h]

theorem bin_xor32 {t : TypeId} {x y : UInt32} : Bin P .xor t (wV x) (wV y) (wV (x ^^^ y)) := bin_of rfl fun w => by
  have e : (BitVec.ofInt IntKind.u32.bits (x.toNat : Int) ^^^ BitVec.ofInt IntKind.u32.bits (y.toNat : Int)).toNat = (x ^^^ y).toNat := by
    show (BitVec.ofInt 32 (x.toNat : Int) ^^^ BitVec.ofInt 32 (y.toNat : Int)).toNat = _
    simp [BitVec.toNat_xor]
  simp only [wV, binOp, Op.intBits]
  rw [if_neg (by simp), e, wrap_u32_lt (UInt32.toNat_lt _)]; rfl
theorem bin_and32 {t : TypeId} {x y : UInt32} : Bin P .and t (wV x) (wV y) (wV (x &&& y)) := bin_of rfl fun w => by
  have e : (BitVec.ofInt IntKind.u32.bits (x.toNat : Int) &&& BitVec.ofInt IntKind.u32.bits (y.toNat : Int)).toNat = (x &&& y).toNat := by
    show (BitVec.ofInt 32 (x.toNat : Int) &&& BitVec.ofInt 32 (y.toNat : Int)).toNat = _
    simp [BitVec.toNat_and]
  simp only [wV, binOp, Op.intBits]
  rw [if_neg (by simp), e, wrap_u32_lt (UInt32.toNat_lt _)]; rfl
theorem bin_or32 {t : TypeId} {x y : UInt32} : Bin P .or t (wV x) (wV y) (wV (x ||| y)) := bin_of rfl fun w => by
  have e : (BitVec.ofInt IntKind.u32.bits (x.toNat : Int) ||| BitVec.ofInt IntKind.u32.bits (y.toNat : Int)).toNat = (x ||| y).toNat := by
    show (BitVec.ofInt 32 (x.toNat : Int) ||| BitVec.ofInt 32 (y.toNat : Int)).toNat = _
    simp [BitVec.toNat_or]
  simp only [wV, binOp, Op.intBits]
  rw [if_neg (by simp), e, wrap_u32_lt (UInt32.toNat_lt _)]; rfl

def shrW (x : UInt32) (k : Nat) : UInt32 := UInt32.ofNat (x.toNat / 2 ^ k)
def shlW (x : UInt32) (k : Nat) : UInt32 := UInt32.ofNat (x.toNat * 2 ^ k)

theorem bin_shr32 {t : TypeId} {x : UInt32} {k' : IntKind} {s : Nat} {j : Int} (hj : j = (s : Int)) (hs : s ≤ 32) : Bin P .shr t (wV x) (.int k' j) (wV (shrW x s)) := by
  have h := bin_shr_nat (P := P) (t := t) (k := .u32) (k' := k') (m := x.toNat) hj hs
  have e : (shrW x s).toNat = x.toNat / 2 ^ s := UInt32.toNat_ofNat_of_lt' (Nat.lt_of_le_of_lt (Nat.div_le_self _ _) x.toNat_lt)
  unfold wV; rw [e]; exact h
theorem bin_shl32 {t : TypeId} {x : UInt32} {k' : IntKind} {s : Nat} {j : Int} (hj : j = (s : Int)) (hs : s ≤ 32) : Bin P .shl t (wV x) (.int k' j) (wV (shlW x s)) := bin_of rfl fun w => by
  subst hj
  have h1 : ¬ ((s : Int) < 0) := by omega
  have h2 : min (s : Int).toNat IntKind.u32.bits = s := by show min s 32 = s; omega
  simp only [wV, binOp, Op.shift, h1, if_false, h2]
  have e : (x.toNat : Int) * 2 ^ s = ((x.toNat * 2 ^ s : Nat) : Int) := by simp
  rw [e, wrap_u32_ofNat]; rfl

/-! ## Arrays -/

theorem cellsAt_elem {b m T j : Nat} {cs : List Value} (h : (blk b [cs] [m] T).holds w) (hj : cs[j]? = some v) : (cellsAt (.pointer (some ⟨b, j, none⟩)) [v]).holds w := by
  obtain ⟨hm, fr, hh, hf⟩ := h
  refine ⟨b, j, rfl, (Array.getElem?_eq_some_iff.1 hh).1, fun i x hx => ?_⟩
  cases i with
  | zero =>
    simp only [List.getElem?_cons_zero, Option.some.injEq] at hx
    subst hx
    rw [Nat.add_zero, cell_of_row w b j _ T fr hh]
    simpa using hj
  | succ i => simp at hx

theorem s_loadIdx {t b o m T j : Nat} {cs : List Value} (hE : Env a n L) (hx : ev L x = some (.pointer (some ⟨b, o, none⟩))) (ho : o = j) (hB : (blk b [cs] [m] T).holds w) (hj : cs[j]? = some v) (ht : OneT P t)
    (hX : ∀ X, D = some X → ¬ X b) (hn : Nat.blt d n = true) (k : ∀ a', Env a' n ((d, v) :: L) → wpL P ops D Q rest a' w) : wpL P ops D Q ((true, ⟨some d, .load t x, ty, pos, aft, none⟩) :: rest) a w := by
  subst ho
  exact s_loadAt1 hE hx (cellsAt_elem hB hj) ht (fun X hD b' hb => by simp [valBlocks] at hb; subst hb; exact hX X hD) hn k

theorem cellsAt_part {b j : Nat} {cs : List Value} (h : (cellsAt (.pointer (some ⟨b, 0, none⟩)) cs).holds w) (hj : cs[j]? = some v) : (cellsAt (.pointer (some ⟨b, j, none⟩)) [v]).holds w := by
  obtain ⟨b', o', e, h2, h3⟩ := h
  cases e
  refine ⟨b, j, rfl, h2, fun i x hx => ?_⟩
  cases i with
  | zero =>
    simp only [List.getElem?_cons_zero, Option.some.injEq] at hx
    subst hx
    have := h3 j v hj
    rwa [Nat.zero_add] at this
  | succ i => simp at hx

theorem s_loadCells {t b o j : Nat} {cs : List Value} (hE : Env a n L) (hx : ev L x = some (.pointer (some ⟨b, o, none⟩))) (ho : o = j) (hB : (cellsAt (.pointer (some ⟨b, 0, none⟩)) cs).holds w) (hj : cs[j]? = some v) (ht : OneT P t)
    (hX : ∀ X, D = some X → ¬ X b) (hn : Nat.blt d n = true) (k : ∀ a', Env a' n ((d, v) :: L) → wpL P ops D Q rest a' w) : wpL P ops D Q ((true, ⟨some d, .load t x, ty, pos, aft, none⟩) :: rest) a w := by
  subst ho
  exact s_loadAt1 hE hx (cellsAt_part hB hj) ht (fun X hD b' hb => by simp [valBlocks] at hb; subst hb; exact hX X hD) hn k

theorem s_storeIdx {t b o j m T : Nat} {cs : List Value} (hE : Env a n L) (hx : ev L x = some (.pointer (some ⟨b, o, none⟩))) (ho : o = j) (hy : ev L y = some u) (hM : Mem w0 M w (blk b [cs] [m] T :: H))
    (hv : u.cells = #[u]) (h1 : u.oneCell' = true) (ht : (P.info? t).map (·.size) = some 1) (hj : j < cs.length)
    (hX : ∀ X, D = some X → X b) (kk : ∀ w', Mem w0 M w' (blk b [cs.set j u] [m] T :: H) → wpL P ops D Q rest a w') : wpL P ops D Q ((false, ⟨none, .store t x y, ty, pos, aft, none⟩) :: rest) a w := by
  subst ho
  exact s_store (j := o) 0 (vs := [u]) (g := cs) hE hx hy hM hv ht rfl (one1 h1) rfl (by simp only [List.length_singleton]; omega) (by simp) (show [wr o [u] cs] = _ by rw [wr_set hj]) hX kk

theorem s_index1 {t l e j : Nat} {i : Int} {k' : IntKind} {cs : List Value} (hE : Env a n L) (hx : ev L x = some (.agg cs.toArray)) (hy : ev L y = some (.int k' i)) (hu : P.underlying t = some (.array l e)) (ho : OneT P e)
    (hi : i = (j : Int)) (hj : j < l) (hv : cs[j]? = some v) (hn : Nat.blt d n = true)
    (k : ∀ a', Env a' n ((d, v) :: L) → wpL P ops D Q rest a' w) : wpL P ops D Q ((true, ⟨some d, .index t x y, ty, pos, aft, none⟩) :: rest) a w := by
  subst hi
  refine s_val hE hn (Flo.of_all (fun w => ?_) w) k
  have h1 : (0 : Int) ≤ j ∧ (j : Int) < l := ⟨by omega, by omega⟩
  obtain ⟨⟨td, h2, h3⟩, h4⟩ := ho
  simp only [execOp, hE.eval hx, hE.eval hy, Instr.index, asIntOf, Sem.run_bind, Sem.run_pure, Result.andThen_ok, run_underlying hu, h1, and_self, if_true, run_sizeOf h4, part, run_isAgg h2, h3, Bool.false_eq_true, if_false, Int.toNat_natCast, Nat.mul_one, List.getElem?_toArray, hv]

theorem s_makeFn {fn : Fn} {xs : List Operand} {vs : List Value} (hE : Env a n L) (hv : evL L xs = some vs) (hn : Nat.blt d n = true) (k : ∀ a', Env a' n ((d, .func fn #[] vs.toArray) :: L) → wpL P ops D Q rest a' w) :
    wpL P ops D Q ((true, ⟨some d, .makeFunc fn #[] xs.toArray, ty, pos, aft, none⟩) :: rest) a w :=
  s_makeFunc hE hn (fun a' h => k a' (by
    have e : (xs.toArray.map a.eval) = vs.toArray := by rw [← hE.evals hv]; simp
    rw [e] at h
    simpa using h))

theorem s_calldynL {f : FuncId} {xs : List Operand} {ts : Array TypeId} {vs capl : List Value} {R : Ending → World → Prop} (hE : Env a n L) (hx : ev L x = some (.func (.func f) #[] capl.toArray)) (hv : evL L xs = some vs) (hf : ∀ args w, (callFunc f args).run P w = .ok (.enter f args) w)
    (hc : Calls P f (vs ++ capl).toArray w R) (hn : Nat.blt d n = true)
    (k : ∀ e w', R e w' → ∃ v, e = .returned v ∧ Sta D w w' ∧ ∀ a', Env a' n ((d, v) :: L) → wpL P ops D Q rest a' w') :
    wpL P ops D Q ((false, ⟨some d, .call { callee := .value x, args := xs.toArray, argTypes := ts }, ty, pos, aft, none⟩) :: rest) a w :=
  s_calldyn hE hx hv hf (by simpa using hc) hn k
end Go.Kx
/- Own library, part I: what SHA-256 of the given program computes, in plain Lean. -/
namespace Go.Kx
open Go

def rotW (x : UInt32) (k : Nat) : UInt32 := shrW x k ||| shlW x (32 - k)
def halfW (x : UInt32) (a b c : Nat) : UInt32 := (rotW x a ^^^ rotW x b) ^^^ shrW x c

def beW (l : List UInt8) : UInt32 := l.foldl (fun m c => m * 256 + UInt32.ofNat c.toNat) 0

def wordW (b : List UInt8) (m : List UInt32) (n : Nat) : UInt32 :=
  if n < 16 then beW ((b.drop (4 * n)).take 4)
  else m.getD (n - 16) 0 + halfW (m.getD (n - 15) 0) 7 18 3 + m.getD (n - 7) 0 + halfW (m.getD (n - 2) 0) 17 19 10

def msgW (b : List UInt8) : Nat → List UInt32
  | 0 => []
  | n + 1 => msgW b n ++ [wordW b (msgW b n) n]

@[simp] theorem msgW_length (b : List UInt8) : ∀ n, (msgW b n).length = n
  | 0 => rfl
  | n + 1 => by simp [msgW, msgW_length b n]

def saltsW : List UInt32 := [
  0x428a2f98, 0x71374491, 0xb5c0fbcf, 0xe9b5dba5, 0x3956c25b, 0x59f111f1, 0x923f82a4, 0xab1c5ed5,
  0xd807aa98, 0x12835b01, 0x243185be, 0x550c7dc3, 0x72be5d74, 0x80deb1fe, 0x9bdc06a7, 0xc19bf174,
  0xe49b69c1, 0xefbe4786, 0x0fc19dc6, 0x240ca1cc, 0x2de92c6f, 0x4a7484aa, 0x5cb0a9dc, 0x76f988da,
  0x983e5152, 0xa831c66d, 0xb00327c8, 0xbf597fc7, 0xc6e00bf3, 0xd5a79147, 0x06ca6351, 0x14292967,
  0x27b70a85, 0x2e1b2138, 0x4d2c6dfc, 0x53380d13, 0x650a7354, 0x766a0abb, 0x81c2c92e, 0x92722c85,
  0xa2bfe8a1, 0xa81a664b, 0xc24b8b70, 0xc76c51a3, 0xd192e819, 0xd6990624, 0xf40e3585, 0x106aa070,
  0x19a4c116, 0x1e376c08, 0x2748774c, 0x34b0bcb5, 0x391c0cb3, 0x4ed8aa4a, 0x5b9cca4f, 0x682e6ff3,
  0x748f82ee, 0x78a5636f, 0x84c87814, 0x8cc70208, 0x90befffa, 0xa4506ceb, 0xbef9a3f7, 0xc67178f2]

/-- The salts, where the package keeps them. -/
def glb (g : Nat) : Ent := cellsAt (.pointer (some ⟨g, 0, none⟩)) (wd saltsW)

def seedsW : List UInt32 := [0x6a09e667, 0xbb67ae85, 0x3c6ef372, 0xa54ff53a, 0x510e527f, 0x9b05688c, 0x1f83d9ab, 0x5be0cd19]

def whoI (k i : Nat) : Nat := (k + 64 - i) % 8
theorem whoI_lt (k i : Nat) : whoI k i < 8 := Nat.mod_lt _ (by decide)

def gW (n : List UInt32) (k i : Nat) : UInt32 := n.getD (whoI k i) 0
def choiceW (n : List UInt32) (i : Nat) : UInt32 := gW n 6 i ^^^ (gW n 4 i &&& (gW n 5 i ^^^ gW n 6 i))
def mostW (n : List UInt32) (i : Nat) : UInt32 := ((gW n 0 i &&& gW n 1 i) ||| (gW n 0 i &&& gW n 2 i)) ||| (gW n 1 i &&& gW n 2 i)
def pW (n : List UInt32) (s m : UInt32) (i : Nat) : UInt32 := gW n 7 i + ((rotW (gW n 4 i) 6 ^^^ rotW (gW n 4 i) 11) ^^^ rotW (gW n 4 i) 25) + choiceW n i + s + m
def stepW (n : List UInt32) (s m : UInt32) (i : Nat) : List UInt32 :=
  (n.set (whoI 3 i) (gW n 3 i + pW n s m i)).set (whoI 7 i) (pW n s m i + ((rotW (gW n 0 i) 2 ^^^ rotW (gW n 0 i) 13) ^^^ rotW (gW n 0 i) 22) + mostW n i)
@[simp] theorem stepW_length (n : List UInt32) (s m : UInt32) (i : Nat) : (stepW n s m i).length = n.length := by simp [stepW]

def runW (msg : List UInt32) : Nat → List UInt32 → List UInt32
  | 0, n => n
  | i + 1, n => stepW (runW msg i n) (saltsW.getD i 0) (msg.getD i 0) i
@[simp] theorem runW_length (msg n : List UInt32) : ∀ i, (runW msg i n).length = n.length
  | 0 => rfl
  | i + 1 => by simp [runW, runW_length msg n i]

def sumW (was n : List UInt32) : Nat → List UInt32
  | 0 => n
  | k + 1 => (sumW was n k).set k ((sumW was n k).getD k 0 + was.getD k 0)
@[simp] theorem sumW_length (was n : List UInt32) : ∀ k, (sumW was n k).length = n.length
  | 0 => rfl
  | k + 1 => by simp [sumW, sumW_length was n k]

def passW (was : List UInt32) (b : List UInt8) : List UInt32 := sumW was (runW (msgW b 64) 64 was) 8
@[simp] theorem passW_length (was : List UInt32) (b : List UInt8) : (passW was b).length = was.length := by simp [passW]

def overW : Nat → List UInt32 → List UInt8 → List UInt32
  | 0, n, _ => n
  | k + 1, n, b => overW k (passW n (b.take 64)) (b.drop 64)
@[simp] theorem overW_length : ∀ (k : Nat) (n : List UInt32) (b : List UInt8), (overW k n b).length = n.length
  | 0, _, _ => rfl
  | k + 1, n, b => by simp [overW, overW_length k]

def zerosW (n : Nat) : Nat := (119 - n % 64) % 64
def tailW (n : Nat) : List UInt8 := 128 :: List.replicate (zerosW n) 0 ++ laid 8 (n * 8)

def bytesW (n : List UInt32) : Nat → List UInt8
  | 0 => []
  | i + 1 => bytesW n i ++ [UInt8.ofNat (shrW (n.getD (i / 4) 0) (24 - i % 4 * 8)).toNat]
@[simp] theorem bytesW_length (n : List UInt32) : ∀ i, (bytesW n i).length = i
  | 0 => rfl
  | i + 1 => by simp [bytesW, bytesW_length n i]

/-- The digest of bytes behind a prefix: its numbers and size. -/
def endW (n : List UInt32) (size : Nat) (bs : List UInt8) : List UInt8 :=
  let q := bs.length / 64
  let l := bs.drop (64 * q) ++ tailW (size + bs.length)
  bytesW (overW (l.length / 64) (overW q n (bs.take (64 * q))) l) 32
@[simp] theorem endW_length (n : List UInt32) (size : Nat) (bs : List UInt8) : (endW n size bs).length = 32 := by simp [endW]

def shaW (bs : List UInt8) : List UInt8 := endW seedsW 0 bs
@[simp] theorem shaW_length (bs : List UInt8) : (shaW bs).length = 32 := by simp [shaW]

theorem tailW_length (n : Nat) : (n + (tailW n).length) % 64 = 0 := by
  simp [tailW, zerosW]; omega

theorem beW_take_succ {ps : List UInt8} {k : Nat} (h : k < ps.length) : beW (ps.take (k + 1)) = beW (ps.take k) * 256 + UInt32.ofNat (ps.getD k 0).toNat := by
  have e : ps.take (k + 1) = ps.take k ++ [ps.getD k 0] := by
    rw [List.take_succ_eq_append_getElem h]; simp [h]
  rw [e]; simp [beW]

theorem msg_set {bs : List UInt8} {i : Nat} (hi : i < 64) : (msgW bs i ++ List.replicate (64 - i) 0).set i (wordW bs (msgW bs i) i) = msgW bs (i + 1) ++ List.replicate (64 - (i + 1)) 0 := by
  obtain ⟨k, hk⟩ : ∃ k, 64 - i = k + 1 := ⟨64 - i - 1, by omega⟩
  rw [hk, show 64 - (i + 1) = k by omega, List.replicate_succ, List.set_append_right _ _ (by simp)]
  simp [msgW]

theorem msg_zero {bs : List UInt8} {i : Nat} (hi : i < 64) : (msgW bs i ++ List.replicate (64 - i) 0).set i 0 = msgW bs i ++ List.replicate (64 - i) 0 := by
  obtain ⟨k, hk⟩ : ∃ k, 64 - i = k + 1 := ⟨64 - i - 1, by omega⟩
  rw [hk, List.replicate_succ, List.set_append_right _ _ (by simp)]
  simp

theorem msg_low {bs : List UInt8} {i : Nat} (h : i < 16) : wordW bs (msgW bs i) i = beW ((bs.drop (4 * i)).take 4) := by simp [wordW, h]

theorem msg_get {bs : List UInt8} {i j : Nat} (h : j < i) : (msgW bs i ++ List.replicate (64 - i) 0).getD j 0 = (msgW bs i).getD j 0 := by
  simp [List.getD, List.getElem?_append_left (show j < (msgW bs i).length by simpa using h)]

theorem msg_high {bs : List UInt8} {i : Nat} (h : ¬ i < 16) : wordW bs (msgW bs i) i =
    (msgW bs i ++ List.replicate (64 - i) 0).getD (i - 16) 0 + halfW ((msgW bs i ++ List.replicate (64 - i) 0).getD (i - 15) 0) 7 18 3 + (msgW bs i ++ List.replicate (64 - i) 0).getD (i - 7) 0 + halfW ((msgW bs i ++ List.replicate (64 - i) 0).getD (i - 2) 0) 17 19 10 := by
  rw [msg_get (by omega), msg_get (by omega), msg_get (by omega), msg_get (by omega)]
  simp [wordW, h]

theorem set_getD {l : List UInt32} {i : Nat} {x : UInt32} (h : i < l.length) : (l.set i x).getD i 0 = x := by simp [h]
theorem overW_succ : ∀ (j : Nat) (n : List UInt32) (b : List UInt8), overW (j + 1) n b = passW (overW j n b) ((b.drop (64 * j)).take 64)
  | 0, n, b => by simp [overW]
  | j + 1, n, b => by
    rw [overW, overW_succ j, overW]
    simp [List.drop_drop, Nat.mul_add, Nat.add_comm]

theorem bytes_set {n : List UInt32} {i : Nat} (hi : i < 32) : (bytesW n i ++ List.replicate (32 - i) 0).set i (UInt8.ofNat (shrW (n.getD (i / 4) 0) (24 - i % 4 * 8)).toNat) = bytesW n (i + 1) ++ List.replicate (32 - (i + 1)) 0 := by
  obtain ⟨k, hk⟩ : ∃ k, 32 - i = k + 1 := ⟨32 - i - 1, by omega⟩
  rw [hk, show 32 - (i + 1) = k by omega, List.replicate_succ, List.set_append_right _ _ (by simp)]
  simp [bytesW]

def prefL (ns : List UInt32) (size : Nat) : List Value := wd ns ++ [.int .i64 (size : Int), .bool true]
theorem prefL_one (ns : List UInt32) (size : Nat) : One (prefL ns size) := fun v hv => by
  simp only [prefL, List.mem_append, List.mem_cons, List.not_mem_nil, or_false] at hv
  rcases hv with h | rfl | rfl
  · exact wd_one _ v h
  · rfl
  · rfl

theorem tailW_eq (n : Nat) : tailW n = (128 :: List.replicate (zerosW n) 0) ++ (laid 8 (n * 8)).take 8 := by
  rw [List.take_of_length_le (by simp)]; rfl
theorem tailW_len (n : Nat) : (tailW n).length = 1 + zerosW n + 8 := by simp [tailW]; omega
end Go.Kx
/- Own library, part J: arrays as slices, copy into an array; what HMAC of the given program computes. -/
namespace Go.Kx
open Go
variable {P : Program} {ops : Array Oper} {D : Option (Nat → Prop)} {Q : Exit → Act → World → Prop} {w0 w w' : World} {M : List Nat} {H H' : List Ent}
  {a : Act} {n : Nat} {L : List (Nat × Value)} {rest : List (Bool × Oper)} {d : Nat} {ty : TypeId} {pos : String} {aft : Array Edge} {x y z : Operand} {u v r : Value}

/-- A block that is one array becomes a slice that is owned. -/
theorem Mem.blkOwn {b T es m k : Nat} {cs : List Value} (hM : Mem w0 M w (blk b [cs] [m] T :: H)) (hk : m = k * es) (hm : k ≤ maxLen) : Mem w0 M w (own (.slice (some ⟨b, 0, none⟩) k k) es k cs :: H) := by
  obtain ⟨hl, fr, h1, h2⟩ := hM.get 0 rfl
  have hcl : cs.length = k * es := by simp at hl; omega
  simp only [List.flatten_cons, List.flatten_nil, List.append_nil] at h1 h2
  refine Mem.act (es := [blk b [cs] [m] T]) (es' := [own (.slice (some ⟨b, 0, none⟩) k k) es k cs]) hM rfl rfl rfl (Nat.le_refl _) (fun _ _ _ => rfl) ?_ ?_ ?_ ?_ (List.pairwise_singleton ..)
  · intro e he; rw [List.mem_singleton.1 he]
    exact ⟨hcl, .inr ⟨b, k, cs.toArray, T, fr, rfl, Nat.le_refl _, hm, h1, by simpa using hcl, by rw [← hcl]; simp, by simpa using h2⟩⟩
  · intro e he b' hb; rw [List.mem_singleton.1 he] at hb; exact .inl ⟨_, .head _, hb⟩
  · intro e he b' hb; rw [List.mem_singleton.1 he] at hb; cases hb
  · intro e he b' hb; rw [List.mem_singleton.1 he] at hb; cases hb

/-- An array of bytes, read as a slice. -/
theorem rd_of_arr {b m T : Nat} {bs : List UInt8} (h : (blk b [bv bs] [m] T).holds w) (hm : bs.length = m) : (rd (.slice (some ⟨b, 0, none⟩) m m) 1 bs.length m (bv bs)).holds w := by
  subst hm
  exact rd_of_blk (s := bs.length) h (by simp [rdSeg]) (by omega) (Nat.le_refl _)

theorem bin_xor8 {t : TypeId} {x y : UInt8} : Bin P .xor t (bV x) (bV y) (bV (x ^^^ y)) := bin_of rfl fun w => by
  have e : (BitVec.ofInt IntKind.u8.bits (x.toNat : Int) ^^^ BitVec.ofInt IntKind.u8.bits (y.toNat : Int)).toNat = (x ^^^ y).toNat := by
    show (BitVec.ofInt 8 (x.toNat : Int) ^^^ BitVec.ofInt 8 (y.toNat : Int)).toNat = _
    simp [BitVec.toNat_xor]
  simp only [bV, binOp, Op.intBits]
  rw [if_neg (by simp), e, wrap_u8_ofNat]; simp
/-- copy into an array's slice. -/
theorem s_copyArr {t t2 e by_ b m c T l l' : Nat} {old cs : List Value} (hE : Env a n L) (hx : ev L x = some (.slice (some ⟨b, 0, none⟩) l l')) (hy : ev L y = some u) (hM : Mem w0 M w (blk b [old] [l] T :: H))
    (hr : (rd u 1 m c cs).holds w) (h1 : One cs) (ht : SlT P t e 1 by_) (hX : ∀ X, D = some X → X b) (hn : Nat.blt d n = true)
    (k : ∀ a' w', Env a' n ((d, .int .i64 ((min m l : Nat) : Int)) :: L) → Mem w0 M w' (blk b [cs.take (min m l) ++ old.drop (min m l)] [l] T :: H) → wpL P ops D Q rest a' w') :
    wpL P ops D Q ((false, ⟨some d, .call { callee := .builtin .copy, args := #[x, y], argTypes := #[t, t2] }, ty, pos, aft, none⟩) :: rest) a w := by
  have hol : old.length = l := by have := (hM.get 0 rfl).1; simpa using this
  have hcl : cs.length = m := by have := hr.1; omega
  have htl : (cs.take (min m l)).length = min m l := by rw [List.length_take]; omega
  obtain ⟨fr, hh, hf, hle, hM'⟩ := blk_store (k := 0) (j := 0) (vs := cs.take (min m l)) (g := old) (o := 0) hM rfl (by omega) (by simp)
  have hone : One (cs.take (min m l)) := fun v hv => h1 v (List.mem_of_mem_take hv)
  have hst := run_storeCells (P := P) (o := 0) (cs.take (min m l)) 0 _ w hh (by simpa using hf) (by simpa using hle) hone
  have hfc := firstCells_rd (P := P) hr (Nat.min_le_left m l)
  have hlen := lenOf_rd (P := P) hr
  have e : wrSeg 0 0 (cs.take (min m l)) [old] = [cs.take (min m l) ++ old.drop (min m l)] := by
    show [wr 0 _ old] = _
    simp [wr, htl]
  rw [e] at hM'
  refine b_val hE hn (v := .int .i64 ((min m l : Nat) : Int)) ?_ (sta_of_setBlk hX) (fun a' hE' => k a' _ hE' hM')
  obtain ⟨hu, hs, _, _⟩ := ht
  simp only [Nat.add_zero] at hst
  simp only [Nat.mul_one] at hfc
  have hmin : Nat.min m l = min m l := rfl
  simp [execOp, resolve, invoke, builtin, hE.eval hx, hE.eval hy, Builtin.copy_, run_underlying hu, run_sizeOf hs, Sem.run_bind, hlen, hmin, hfc, hst]
  rfl

/-! ## HMAC -/

def blockW (key : List UInt8) : List UInt8 :=
  let k := if 64 < key.length then shaW key else key
  k ++ List.replicate (64 - k.length) 0
theorem blockW_length (key : List UInt8) : (blockW key).length = 64 := by
  unfold blockW
  by_cases h : 64 < key.length
  · simp [h]
  · simp [h]; omega

def padI (B : List UInt8) (x : UInt8) (i : Nat) : List UInt8 := (B.take i).map (· ^^^ x) ++ B.drop i
theorem padI_length (B : List UInt8) (x : UInt8) (i : Nat) : (padI B x i).length = B.length := by simp [padI]; omega
theorem padI_get {B : List UInt8} {x : UInt8} {i : Nat} (h : i < B.length) : (padI B x i).getD i 0 = B.getD i 0 := by
  have : ((B.take i).map (· ^^^ x)).length = i := by simp; omega
  rw [padI, List.getD, List.getElem?_append_right (Nat.le_of_eq this), this, List.getElem?_drop]
  simp
theorem padI_set {B : List UInt8} {x : UInt8} {i : Nat} (h : i < B.length) : (padI B x i).set i (B.getD i 0 ^^^ x) = padI B x (i + 1) := by
  have h1 : ((B.take i).map (· ^^^ x)).length = i := by simp; omega
  have h2 : B.drop i = B.getD i 0 :: B.drop (i + 1) := by
    rw [List.drop_eq_getElem_cons h]; simp [h]
  have h3 : B.take (i + 1) = B.take i ++ [B.getD i 0] := by
    rw [List.take_succ_eq_append_getElem h]; simp [h]
  rw [padI, List.set_append_right _ _ (by omega), h1, h2, Nat.sub_self, List.set_cons_zero, padI, h3]
  simp

def padW (key : List UInt8) (x : UInt8) : List UInt8 := (blockW key).map (· ^^^ x)
@[simp] theorem padW_length (key : List UInt8) (x : UInt8) : (padW key x).length = 64 := by simp [padW, blockW_length]
theorem padI_all (key : List UInt8) (x : UInt8) : padI (blockW key) x 64 = padW key x := by
  have := blockW_length key
  simp [padI, padW, List.take_of_length_le (Nat.le_of_eq this), List.drop_of_length_le (Nat.le_of_eq this)]

def hmacW (key msg : List UInt8) : List UInt8 := shaW (padW key 92 ++ shaW (padW key 54 ++ msg))
@[simp] theorem hmacW_length (key msg : List UInt8) : (hmacW key msg).length = 32 := by simp [hmacW]

/-- What stretching lays, one tag behind the other. -/
def strT (key b : List UInt8) : Nat → List UInt8
  | 0 => []
  | i + 1 => hmacW key (strT key b i ++ b ++ [UInt8.ofNat (i + 1)])
def strO (key b : List UInt8) : Nat → List UInt8
  | 0 => []
  | i + 1 => strO key b i ++ strT key b (i + 1)
@[simp] theorem strO_length (key b : List UInt8) : ∀ i, (strO key b i).length = 32 * i
  | 0 => rfl
  | i + 1 => by simp [strO, strO_length key b i, strT]; omega

theorem flat_succ {ps : List (List UInt8)} {i : Nat} (h : i < ps.length) : (ps.take (i + 1)).flatten = (ps.take i).flatten ++ ps.getD i [] := by
  rw [List.take_succ_eq_append_getElem h, List.flatten_append, List.flatten_singleton]; simp [List.getD, h]
theorem flat_le (ps : List (List UInt8)) (i : Nat) : (ps.take i).flatten.length ≤ ps.flatten.length := by
  have : ps.flatten = (ps.take i).flatten ++ (ps.drop i).flatten := by rw [← List.flatten_append, List.take_append_drop]
  rw [this]; simp

end Go.Kx
/- Own library, part J2: aggregates are compared; plain laws of HMAC. -/
namespace Go.Kx
open Go
variable {P : Program} {w : World}

theorem bins_aggs {t : TypeId} {cs ds : Array Value} {b : Bool} (hg : P.eqGuardType P.depth t = false) (h : ∀ d w, (Op.equalIn (d + 2) t (.agg cs) (.agg ds)).run P w = .ok b w) :
    Bin P .eql t (.agg cs) (.agg ds) (.bool b) ∧ Bin P .neq t (.agg cs) (.agg ds) (.bool (!b)) := by
  have h' : ∀ w, (Op.equal t (.agg cs) (.agg ds)).run P w = .ok b w := fun w => h 9998 w
  have hgd : ∀ (op : BinOp) x y (w : World), op = .eql ∨ op = .neq → (eqGuard op t x y (.agg cs) (.agg ds)).run P w = .ok () w := by
    intro op x y w ho
    rcases ho with rfl | rfl <;> simp [eqGuard, Sem.run_bind, run_program, Result.andThen_ok, hg]
  constructor
  · intro x y w
    have e : (binOp .eql t (.agg cs) (.agg ds)).run P w = .ok (.bool b) w := by
      show (do pure (Value.bool (← Op.equal t (.agg cs) (.agg ds))) : Sem Value).run P w = _
      rw [Sem.run_bind, h']; rfl
    rw [Sem.run_bind, hgd _ _ _ _ (.inl rfl)]; exact e
  · intro x y w
    have e : (binOp .neq t (.agg cs) (.agg ds)).run P w = .ok (.bool (!b)) w := by
      show (do pure (Value.bool (!(← Op.equal t (.agg cs) (.agg ds)))) : Sem Value).run P w = _
      rw [Sem.run_bind, h']; rfl
    rw [Sem.run_bind, hgd _ _ _ _ (.inr rfl)]; exact e

theorem bins_arr8 {t e n : Nat} {a b : List UInt8} (ht : P.underlying t = some (.array n e)) (hie : (P.info? e).isSome = true) (he : P.underlying e = some (.int .u8)) (hc : P.cellsOf e = 1) (hg : P.eqGuardType P.depth t = false) (ha : a.length = n) (hb : b.length = n) :
    Bin P .eql t (.agg (bv a).toArray) (.agg (bv b).toArray) (.bool (decide (a = b))) ∧ Bin P .neq t (.agg (bv a).toArray) (.agg (bv b).toArray) (.bool (!decide (a = b))) := by
  obtain ⟨ie, hie⟩ := Option.isSome_iff_exists.1 hie
  exact bins_aggs hg fun d w => equal_u8s ht hie he hc ha hb d

def hexD : List UInt8 := [48, 49, 50, 51, 52, 53, 54, 55, 56, 57, 97, 98, 99, 100, 101, 102]
def hexL (bs : List UInt8) : List UInt8 := bs.flatMap fun c => [hexD.getD (c.toNat / 16) 0, hexD.getD (c.toNat % 16) 0]
@[simp] theorem hexL_length (bs : List UInt8) : (hexL bs).length = 2 * bs.length := by
  induction bs with
  | nil => rfl
  | cons c r ih => simp [hexL] at ih ⊢; omega

section
variable {ops : Array Oper} {D : Option (Nat → Prop)} {Q : Exit → Act → World → Prop} {a : Act} {n : Nat} {L : List (Nat × Value)} {rest : List (Bool × Oper)} {d : Nat} {ty : TypeId} {pos : String} {aft : Array Edge} {x y : Operand}
end

end Go.Kx
/- Own library, part Z: structs are stored whole; structs and arrays of whatever depth are compared. -/
namespace Go.Kx
open Go
variable {P : Program} {ops : Array Oper} {D : Option (Nat → Prop)} {Q : Exit → Act → World → Prop} {w0 w w' : World} {M : List Nat} {H H' : List Ent}
  {a : Act} {n : Nat} {L : List (Nat × Value)} {rest : List (Bool × Oper)} {d : Nat} {ty : TypeId} {pos : String} {aft : Array Edge} {x y z : Operand} {u v r : Value}

/-! ## Equality of structs -/

def litV : Value → Lit
  | .bool b => .bool b
  | .int k i => .int k i
  | .string s => .string s.data.toList
  | _ => .nil
def isKey : Value → Bool
  | .bool _ => true
  | .int _ _ => true
  | .string _ => true
  | _ => false

/-- Cells that a type of key reads, up to depth k. -/
def KL (P : Program) (k t : Nat) (cs : List Value) : Prop := (∀ D, P.keyLits (D + k) t cs = some (cs.map litV)) ∧ ∀ v, v ∈ cs → isKey v = true

theorem KL.int {k t : Nat} {q : IntKind} {i : Int} (hu : P.underlying t = some (.int q)) (hw : (Lit.int q i).wf = true) : KL P (k + 1) t [.int q i] :=
  ⟨fun D => by rw [← Nat.add_assoc]; simp [Program.keyLits, hu, hw, litV], fun v hv => by rw [List.mem_singleton.1 hv]; rfl⟩
theorem KL.bool {k t : Nat} {b : Bool} (hu : P.underlying t = some .bool) : KL P (k + 1) t [.bool b] :=
  ⟨fun D => by rw [← Nat.add_assoc]; simp [Program.keyLits, hu, litV], fun v hv => by rw [List.mem_singleton.1 hv]; rfl⟩

def KLs (P : Program) (k : Nat) : List TypeId → List (List Value) → Prop
  | [], [] => True
  | t :: ts, c :: cs => KL P k t c ∧ KLs P k ts cs
  | _, _ => False

theorem KLs.go {k : Nat} (D : Nat) : ∀ (fs : List Field) (ps : List (List Value)) (pre : List Value), KLs P k (fs.map (·.type)) ps → fs.map (fun f => (f.offset, P.cellsOf f.type)) = plc pre.length (ps.map List.length) → ∀ cs : List Value, cs = pre ++ ps.flatten →
    (fs.mapM fun f => P.keyLits (D + k) f.type ((cs.drop f.offset).take (P.cellsOf f.type))) = some (ps.map fun p => p.map litV)
  | [], [], _, _, _, _, _ => rfl
  | [], _ :: _, _, h, _, _, _ => h.elim
  | _ :: _, [], _, h, _, _, _ => h.elim
  | f :: fs, p :: ps, pre, h, ho, cs, hc => by
    simp only [List.map_cons, plc, List.cons.injEq, Prod.mk.injEq] at ho
    have e1 : (cs.drop f.offset).take (P.cellsOf f.type) = p := by
      rw [ho.1.1, ho.1.2, hc, List.drop_left, List.flatten_cons, List.take_left]
    have ih := KLs.go D fs ps (pre ++ p) h.2 (by rw [List.length_append]; exact ho.2) cs (by rw [hc]; simp)
    rw [List.mapM_cons, e1, h.1.1 D, ih]
    rfl

theorem KLs.keys {k : Nat} : ∀ {ts : List TypeId} {ps : List (List Value)}, KLs P k ts ps → ∀ v, v ∈ ps.flatten → isKey v = true
  | [], [], _, v, hv => by cases hv
  | [], _ :: _, h, _, _ => h.elim
  | _ :: _, [], h, _, _ => h.elim
  | t :: ts, p :: ps, h, v, hv => by
    rw [List.flatten_cons] at hv
    rcases List.mem_append.1 hv with hv | hv
    · exact h.1.2 v hv
    · exact KLs.keys h.2 v hv

theorem KL.struct {k t : Nat} {fs : Array Field} {ps : List (List Value)} (ns : List Nat) (hu : P.underlying t = some (.struct fs)) (hn : (fs.all (·.name != "_")) = true) (hc : P.cellsOf t = ns.sum) (ho : fs.toList.map (fun f => (f.offset, P.cellsOf f.type)) = plc 0 ns)
    (hl : ps.map List.length = ns) (ts : List TypeId) (hts : fs.toList.map (·.type) = ts) (h : KLs P k ts ps) : KL P (k + 1) t ps.flatten := by
  refine ⟨fun D => ?_, h.keys⟩
  have hlen : ps.flatten.length = P.cellsOf t := by rw [List.length_flatten, hl, hc]
  have := KLs.go (P := P) (k := k) D fs.toList ps [] (hts ▸ h) (by rw [hl]; exact ho) ps.flatten rfl
  rw [← Nat.add_assoc]
  simp only [Program.keyLits, hu]
  rw [if_pos ⟨hlen, hn⟩, this]
  simp [List.map_flatten]

theorem KLs.rep {k e m : Nat} (D : Nat) : ∀ (n i : Nat) (ps : List (List Value)) (pre : List Value), (∀ p, p ∈ ps → KL P k e p ∧ p.length = m) → ps.length = n → pre.length = i * m → ∀ cs : List Value, cs = pre ++ ps.flatten →
    ((List.range' i n).mapM fun i => P.keyLits (D + k) e ((cs.drop (i * m)).take m)) = some (ps.map fun p => p.map litV)
  | 0, _, [], _, _, _, _, _, _ => rfl
  | 0, _, _ :: _, _, _, h, _, _, _ => by cases h
  | n + 1, _, [], _, _, h, _, _, _ => by cases h
  | n + 1, i, p :: ps, pre, h, hn, hp, cs, hc => by
    obtain ⟨h1, h2⟩ := h p (.head _)
    have e1 : (cs.drop (i * m)).take m = p := by
      rw [← hp, ← h2, hc, List.drop_left, List.flatten_cons, List.take_left]
    have ih := KLs.rep D n (i + 1) ps (pre ++ p) (fun q hq => h q (.tail _ hq)) (by simpa using hn) (by rw [List.length_append, hp, h2, Nat.succ_mul]) cs (by rw [hc]; simp)
    rw [List.range'_succ, List.mapM_cons, e1, h1.1 D, ih]
    rfl

theorem KL.array {k t e m n : Nat} {ps : List (List Value)} (hu : P.underlying t = some (.array n e)) (hc : P.cellsOf t = n * m) (he : P.cellsOf e = m) (hn : ps.length = n) (h : ∀ p, p ∈ ps → KL P k e p ∧ p.length = m) : KL P (k + 1) t ps.flatten := by
  refine ⟨fun D => ?_, fun v hv => ?_⟩
  · have hlen : ps.flatten.length = P.cellsOf t := by
      rw [List.length_flatten, hc, ← hn, show ps.map List.length = List.replicate ps.length m from List.eq_replicate_iff.2 ⟨by simp, fun b hb => by obtain ⟨q, hq, rfl⟩ := List.mem_map.1 hb; exact (h q hq).2⟩]
      simp
    have := KLs.rep (P := P) (k := k) (e := e) (m := m) D n 0 ps [] h hn (by simp) ps.flatten rfl
    rw [← Nat.add_assoc]
    simp only [Program.keyLits, hu]
    rw [if_pos hlen, he, List.range_eq_range', this]
    simp [List.map_flatten]
  · obtain ⟨p, hp, hv⟩ := List.mem_flatten.1 hv
    exact (h p hp).1.2 v hv

/-- A text of these bytes. -/
def tx (l : List UInt8) : ByteArray := ⟨l.toArray⟩
@[simp] theorem tx_list (l : List UInt8) : (tx l).data.toList = l := rfl

end Go.Kx
/- Own library, part N: rows that list a table of words. -/
namespace Go.Kx
open Go
open Go.ChangeShapes Go.WideShapes Go.ChangeAt Go.RowKit
variable {P : Program} {W : World}

def saltsZ : List Int := saltsW.map fun x => (x.toNat : Int)

theorem glb_of_laid {name : String} {d : DataW Unit} {rest : List (String × DataW Unit)} {g t e : Nat} (hg : P.globalNamed name = some g) (hty : (P.globals[g]?).map (·.type) = some t) (ht : P.underlying t = some (.array 64 e)) (he : P.underlying e = some (.int .u32))
    (hce : P.cellsOf e = 1) (hct : P.cellsOf t = 64) (hd : d = Lib.tabData .u32 saltsZ) (h : laidMet P ((name, d) :: rest) W) : (glb g).holds W := by
  subst hd
  have hT := Lib.tabIs_of_head hg hty ht he hce hct h
  have h0 := hT.cell hg 0 (by decide)
  refine ⟨g, 0, rfl, World.block_lt_of_cell? W _ h0, fun i x hx => ?_⟩
  have hi : i < saltsW.length := by
    have := (List.getElem?_eq_some_iff.1 hx).1
    simpa using this
  have hc := hT.cell hg i (by simpa [saltsZ] using hi)
  rw [Nat.zero_add, hc]
  rw [wd_get hi] at hx
  rw [← hx]
  simp [saltsZ, wV, List.getD, hi]

/-- A law that lists variables, whose walk returns true, and turns nothing that was there. -/
theorem law_liftedL {C : Checked} {os : Os} {f : FuncId} {fn : Func} {s : ChangeSpec} {tb : TypeId} {H : Type} {enc : TypeId × Value → H} {l : List (String × DataW Unit)}
    (own : ownKnob C.prog.godebug = none) (started : os.Started) (noInit : C.prog.inits.idxOf? f = none) (hfn : C.prog.funcs[f]? = some fn) (hvars : s.vars = [])
    (hspec : ∀ ds : List (DataW H), ds.length = fn.params.toList.length → s.fn H ds = { results := [.lit (.bool true)], args := ds }) (hres : fn.resultTypes = #[tb]) (htb : C.prog.underlying tb = some .bool)
    (hl : laidOutB C.prog = true) (hts : ∀ t, t ∈ fn.params.toList → C.prog.readableRec t = true ∧ t < C.prog.types.size)
    (hplain : (l.all fun x => x.2.handleName?.isNone) = true)
    (witness : ∃ (w : World) (tape : Tape) (i : Input), w.os = os ∧ (w.forCall tape i).Shaped C.prog ∧ i.vars = [] ∧ Input.okWide C.prog (w.forCall tape i) .any w.heap.size f i ∧
      ((s.pre enc C.prog fn [] false (w.forCall tape i).memory i.args ∧ laidMetH C.prog l (w.forCall tape i).memory) ∧ sizedMet enc C.prog fn (OpenSpec.ofChange s) false (w.forCall tape i).memory i.args) ∧ Assume.holds {} C.prog (lone (Frame.enter C.prog f i.args .normal) [] (w.forCall tape i)))
    (walk : ∀ (W : World) (base : Nat) (args : Array Value) (ds : List (DataW H)) (ps : List MemPlace), (∀ (j : Nat) t v, fn.params[j]? = some t → args[j]? = some v → Value.okWide C.prog W .any base t v) →
      DataW.TrodAll enc C.prog W 0 (fun _ => true) true fn.params.toList args.toList ds ps → (∀ m, m ∈ DataW.weightsEach C.prog fn.params.toList ds → m ≤ reachBytes) → laidMet C.prog l W →
      Calls C.prog f args W fun e W' => e = .returned (.bool true) ∧ Mem W [] W' []) :
    ReturnsInHanded {} C os f .any (fun w args => (s.pre enc C.prog fn [] false w args ∧ laidMetH C.prog l w) ∧ sizedMet enc C.prog fn (OpenSpec.ofChange s) false w args) (s.post enc C.prog fn false true false false) := by
  refine returnsInHanded_of_change_and (C := C) (X := fun w _ => laidMetH C.prog l w) (fun _ _ _ hh h => h.of_heap hh) own started noInit hfn witness ?_
  intro W base args ds gs before hval hW _ hsz hL _
  rw [MakeChecks.laidMetH_plain _ _ _ hplain] at hL
  have hW' := hW
  obtain ⟨p, q, hA, hV, rfl, hfz, hnd⟩ := hW
  rw [hvars] at hV
  obtain ⟨rfl, rfl⟩ := trodVars_none hV
  have hvt : s.plain.varTypes C.prog = [] := by simp [ChangeSpec.plain, DataSpec.varTypes, hvars]
  rw [hvt, List.append_nil, List.append_nil, List.all_eq_true] at hsz
  refine (walk W base args ds p hval hA (fun m hm => by simpa using hsz m hm) hL).mono ?_
  rintro e W' ⟨rfl, hM⟩
  have hb := hM.below
  have hs := hspec ds (trodAll_len hA)
  refine ⟨_, rfl, ds, [], _, [], p, [], hW', ?_, ?_, ?_, hb.frame _, fun h => by cases h⟩
  · rw [List.append_nil, hs, hres]
    exact trodAll_mk1 (shut_bool htb _)
  · rw [List.append_nil, hs]
    exact trodAll_below hl hb _ hts _ _ _ hA
  · rw [hvars, List.append_nil, hs]; rfl

theorem okWide_arr {r : _} {base n e : Nat} {t : TypeId} {v : Value} (ht : P.underlying t = some (.array n e)) (h : Value.okWide P W r base t v) : ∃ cs, v = .agg cs := by
  simp only [Value.okWide, ht] at h
  obtain ⟨cs, h1, h2, _⟩ := h
  exact ⟨cs, h1⟩

/-- An array of bytes that comes in. -/
theorem arg_arr8 {H : Type} {enc : TypeId × Value → H} {t e n base : Nat} {v : Value} {d : DataW H} {ps : List MemPlace} (hu : P.underlying t = some (.array n e)) (hue : P.underlying e = some (.int .u8)) (hes : P.cellsOf e = 1) (hts : P.cellsOf t = n * 1)
    (hval : Value.okWide P W .any base t v) (h : DataW.Trod enc P W 0 (fun _ => true) true t v d ps) (hw : ∀ m, m ∈ d.weights P t → m ≤ reachBytes) : ∃ bs : List UInt8, v = .agg (bv bs).toArray ∧ bs.length = n := by
  obtain ⟨cs, rfl⟩ := okWide_arr hu hval
  obtain ⟨hl, hR⟩ := trod_of (dec_array hu hes hts (dec_int hue)) h hw
  obtain ⟨bs, hb, hn⟩ := bytes_of hl hR
  exact ⟨bs, by rw [agg_of hb], hn⟩


end Go.Kx
/- Own library, part M: what keys out of passphrases are, in plain Lean. -/
namespace Go.Kx
open Go

def xorW (a b : List UInt8) : List UInt8 := List.zipWith (· ^^^ ·) a b
theorem xorW_length {a b : List UInt8} (h : a.length = b.length) : (xorW a b).length = a.length := by simp [xorW, h]
def uW (pass salt : List UInt8) (i : UInt8) : Nat → List UInt8
  | 0 => hmacW pass (salt ++ [0, 0, 0, i])
  | n + 1 => hmacW pass (uW pass salt i n)
@[simp] theorem uW_length (pass salt : List UInt8) (i : UInt8) (n : Nat) : (uW pass salt i n).length = 32 := by cases n <;> simp [uW]
def oW (pass salt : List UInt8) (i : UInt8) : Nat → List UInt8
  | 0 => List.replicate 32 0
  | n + 1 => xorW (oW pass salt i n) (uW pass salt i n)
@[simp] theorem oW_length (pass salt : List UInt8) (i : UInt8) : ∀ n, (oW pass salt i n).length = 32
  | 0 => by simp [oW]
  | n + 1 => by rw [oW, xorW_length (by simp [oW_length pass salt i n]), oW_length pass salt i n]

def keyP (pass salt : List UInt8) (r : Nat) : Nat → List UInt8
  | 0 => []
  | j + 1 => keyP pass salt r j ++ oW pass salt (UInt8.ofNat (j + 1)) r
@[simp] theorem keyP_length (pass salt : List UInt8) (r : Nat) : ∀ j, (keyP pass salt r j).length = 32 * j
  | 0 => rfl
  | j + 1 => by simp [keyP, keyP_length pass salt r j]; omega
def keyW (pass salt : List UInt8) (r n : Nat) : List UInt8 := (keyP pass salt r ((n + 31) / 32)).take n
@[simp] theorem keyW_length (pass salt : List UInt8) (r n : Nat) : (keyW pass salt r n).length = n := by simp [keyW]; omega
/-- What passphrases' bytes are. -/
def phrW (s : List UInt8) : List UInt8 := UInt8.ofNat s.length :: s

end Go.Kx
/- Own library, part Ta: parts of arrays are copied to and read; what the kit's contracts leave of memory; messages of tags. -/
namespace Go.Kx
open Go Go.RowKit
variable {P : Program} {ops : Array Oper} {D : Option (Nat → Prop)} {Q : Exit → Act → World → Prop} {w0 w w' : World} {M : List Nat} {H H' : List Ent}
  {a : Act} {n : Nat} {L : List (Nat × Value)} {rest : List (Bool × Oper)} {d : Nat} {ty : TypeId} {pos : String} {aft : Array Edge} {x y z : Operand} {u v r : Value}

/-- copy into a part of a block. -/
theorem s_copySeg {t t2 e by_ b o m c T l l' : Nat} (k : Nat) {ss : List (List Value)} {ns : List Nat} {old cs : List Value} (hE : Env a n L) (hx : ev L x = some (.slice (some ⟨b, o, none⟩) l l')) (hy : ev L y = some u) (hM : Mem w0 M w (blk b ss ns T :: H))
    (hr : (rd u 1 m c cs).holds w) (hml : m = l) (h1 : One cs) (ht : SlT P t e 1 by_) (hg : ss[k]? = some old) (hol : old.length = l) (ho : (ns.take k).sum = o) (hX : ∀ X, D = some X → X b) (hn : Nat.blt d n = true)
    (kk : ∀ a' w', Env a' n ((d, .int .i64 (l : Int)) :: L) → Mem w0 M w' (blk b (ss.set k cs) ns T :: H) → wpL P ops D Q rest a' w') :
    wpL P ops D Q ((false, ⟨some d, .call { callee := .builtin .copy, args := #[x, y], argTypes := #[t, t2] }, ty, pos, aft, none⟩) :: rest) a w := by
  subst hml
  have hcl : cs.length = m := by have := hr.1; omega
  obtain ⟨fr, hh, hf, hle, hM'⟩ := blk_store (k := k) (j := 0) (vs := cs) (g := old) (o := o) hM hg (by omega) (by simpa using ho)
  have hst := run_storeCells (P := P) (o := o) cs 0 _ w hh (by simpa using hf) (by simpa using hle) h1
  have hfc := firstCells_rd (P := P) hr (Nat.le_refl m)
  have hlen := lenOf_rd (P := P) hr
  rw [wrSeg_set hg (by omega)] at hM'
  refine b_val hE hn (v := .int .i64 (m : Int)) ?_ (sta_of_setBlk hX) (fun a' hE' => kk a' _ hE' hM')
  obtain ⟨hu, hs, _, _⟩ := ht
  simp only [Nat.add_zero] at hst
  simp only [Nat.mul_one] at hfc
  rw [List.take_of_length_le (by omega)] at hfc
  have hmin : Nat.min m m = m := Nat.min_self m
  simp [execOp, resolve, invoke, builtin, hE.eval hx, hE.eval hy, Builtin.copy_, run_underlying hu, run_sizeOf hs, Sem.run_bind, hlen, hmin, hfc, hst]
  rfl

/-- A slice as a pointer to an array. -/
theorem s_toArrP {t e b o l c N : Nat} (hE : Env a n L) (hx : ev L x = some (.slice (some ⟨b, o, none⟩) l c)) (ht : P.underlying t = some (.array N e)) (hl : N ≤ l) (hn : Nat.blt d n = true)
    (k : ∀ a', Env a' n ((d, .pointer (some ⟨b, o, none⟩)) :: L) → wpL P ops D Q rest a' w) : wpL P ops D Q ((true, ⟨some d, .sliceToArrayPointer t x, ty, pos, aft, none⟩) :: rest) a w := by
  refine s_val hE hn (Flo.of_all (fun w => ?_) w) k
  have h1 : ¬ l < N := by omega
  simp [execOp, hE.eval hx, Instr.arrayAt, run_underlying ht, h1]

/-- A number's 64 bits. -/
def numW (z : Int) : Nat := (z % 18446744073709551616).toNat
theorem wrap_u64_any (z : Int) : IntKind.u64.wrap z = ((numW z : Nat) : Int) := by
  have h1 : (0 : Int) ≤ z % 18446744073709551616 := Int.emod_nonneg _ (by decide)
  rw [numW, Int.toNat_of_nonneg h1]
  rfl
/-! ## Messages of tags -/

def numT (dm : UInt8) (z : Int) (s : List UInt8) : List UInt8 := (pRow dm [laid 8 (numW z), s]).1
def plT (dm : UInt8) (b : List UInt8) : List UInt8 := (pRow dm [b]).1
theorem numT_ok (dm : UInt8) (z : Int) (s : List UInt8) : pRow dm [laid 8 (numW z), s] = (numT dm z s, 0) := by simp [numT, pRow]
theorem numT_eq (dm : UInt8) (z : Int) (s : List UInt8) : numT dm z s = dm :: 2 :: (laid 4 8 ++ (laid 8 (numW z) ++ (laid 4 s.length ++ s))) := by
  simp [numT, pRow, rowBs, rowPart]
theorem numT_len (dm : UInt8) (z : Int) (s : List UInt8) : (numT dm z s).length = 18 + s.length := by rw [numT_eq]; simp; omega
/-! ## What a struct's cells are, part by part -/

end Go.Kx
