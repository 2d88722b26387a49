/- Own library: parts KxI, KxJ, KxJ2, KxZ, KxN, KxM, KxTa, KxB3, KxO, KxSw, KxSx, KxY. -/
import Derived.Test.YtacebdngbalkmaaDoorKc2
import Derived.DeepKeys
import Derived.LaidMore
import Derived.MakeChecks
import Derived.Lay
import Derived.Lib.LaidTab
import Derived.Stop.Joined
import Derived.Lib.Repeat
import Derived.Lib.ConvBytes
import Derived.LoopN
set_option linter.unusedSimpArgs false
set_option linter.unusedVariables false
/- Own library, part I: what SHA-256 of the given program computes, in plain Lean. -/
namespace Go.Kx
open Go

def rotW (x : UInt32) (k : Nat) : UInt32 := shrW x k ||| shlW x (32 - k)
def halfW (x : UInt32) (a b c : Nat) : UInt32 := (rotW x a ^^^ rotW x b) ^^^ shrW x c

def beW (l : List UInt8) : UInt32 := l.foldl (fun m c => m * 256 + UInt32.ofNat c.toNat) 0

def wordW (b : List UInt8) (m : List UInt32) (n : Nat) : UInt32 :=
  if n < 16 then beW ((b.drop (4 * n)).take 4)
  else m.getD (n - 16) 0 + halfW (m.getD (n - 15) 0) 7 18 3 + m.getD (n - 7) 0 + halfW (m.getD (n - 2) 0) 17 19 10

def msgW (b : List UInt8) : Nat → List UInt32
  | 0 => []
  | n + 1 => msgW b n ++ [wordW b (msgW b n) n]

@[simp] theorem msgW_length (b : List UInt8) : ∀ n, (msgW b n).length = n
  | 0 => rfl
  | n + 1 => by simp [msgW, msgW_length b n]

def saltsW : List UInt32 := [
  0x428a2f98, 0x71374491, 0xb5c0fbcf, 0xe9b5dba5, 0x3956c25b, 0x59f111f1, 0x923f82a4, 0xab1c5ed5,
  0xd807aa98, 0x12835b01, 0x243185be, 0x550c7dc3, 0x72be5d74, 0x80deb1fe, 0x9bdc06a7, 0xc19bf174,
  0xe49b69c1, 0xefbe4786, 0x0fc19dc6, 0x240ca1cc, 0x2de92c6f, 0x4a7484aa, 0x5cb0a9dc, 0x76f988da,
  0x983e5152, 0xa831c66d, 0xb00327c8, 0xbf597fc7, 0xc6e00bf3, 0xd5a79147, 0x06ca6351, 0x14292967,
  0x27b70a85, 0x2e1b2138, 0x4d2c6dfc, 0x53380d13, 0x650a7354, 0x766a0abb, 0x81c2c92e, 0x92722c85,
  0xa2bfe8a1, 0xa81a664b, 0xc24b8b70, 0xc76c51a3, 0xd192e819, 0xd6990624, 0xf40e3585, 0x106aa070,
  0x19a4c116, 0x1e376c08, 0x2748774c, 0x34b0bcb5, 0x391c0cb3, 0x4ed8aa4a, 0x5b9cca4f, 0x682e6ff3,
  0x748f82ee, 0x78a5636f, 0x84c87814, 0x8cc70208, 0x90befffa, 0xa4506ceb, 0xbef9a3f7, 0xc67178f2]

/-- The salts, where the package keeps them. -/
def glb (g : Nat) : Ent := cellsAt (.pointer (some ⟨g, 0, none⟩)) (wd saltsW)

def seedsW : List UInt32 := [0x6a09e667, 0xbb67ae85, 0x3c6ef372, 0xa54ff53a, 0x510e527f, 0x9b05688c, 0x1f83d9ab, 0x5be0cd19]

def whoI (k i : Nat) : Nat := (k + 64 - i) % 8
theorem whoI_lt (k i : Nat) : whoI k i < 8 := Nat.mod_lt _ (by decide)

def gW (n : List UInt32) (k i : Nat) : UInt32 := n.getD (whoI k i) 0
def choiceW (n : List UInt32) (i : Nat) : UInt32 := gW n 6 i ^^^ (gW n 4 i &&& (gW n 5 i ^^^ gW n 6 i))
def mostW (n : List UInt32) (i : Nat) : UInt32 := ((gW n 0 i &&& gW n 1 i) ||| (gW n 0 i &&& gW n 2 i)) ||| (gW n 1 i &&& gW n 2 i)
def pW (n : List UInt32) (s m : UInt32) (i : Nat) : UInt32 := gW n 7 i + ((rotW (gW n 4 i) 6 ^^^ rotW (gW n 4 i) 11) ^^^ rotW (gW n 4 i) 25) + choiceW n i + s + m
def stepW (n : List UInt32) (s m : UInt32) (i : Nat) : List UInt32 :=
  (n.set (whoI 3 i) (gW n 3 i + pW n s m i)).set (whoI 7 i) (pW n s m i + ((rotW (gW n 0 i) 2 ^^^ rotW (gW n 0 i) 13) ^^^ rotW (gW n 0 i) 22) + mostW n i)
@[simp] theorem stepW_length (n : List UInt32) (s m : UInt32) (i : Nat) : (stepW n s m i).length = n.length := by simp [stepW]

def runW (msg : List UInt32) : Nat → List UInt32 → List UInt32
  | 0, n => n
  | i + 1, n => stepW (runW msg i n) (saltsW.getD i 0) (msg.getD i 0) i
@[simp] theorem runW_length (msg n : List UInt32) : ∀ i, (runW msg i n).length = n.length
  | 0 => rfl
  | i + 1 => by simp [runW, runW_length msg n i]

def sumW (was n : List UInt32) : Nat → List UInt32
  | 0 => n
  | k + 1 => (sumW was n k).set k ((sumW was n k).getD k 0 + was.getD k 0)
@[simp] theorem sumW_length (was n : List UInt32) : ∀ k, (sumW was n k).length = n.length
  | 0 => rfl
  | k + 1 => by simp [sumW, sumW_length was n k]

def passW (was : List UInt32) (b : List UInt8) : List UInt32 := sumW was (runW (msgW b 64) 64 was) 8
@[simp] theorem passW_length (was : List UInt32) (b : List UInt8) : (passW was b).length = was.length := by simp [passW]

def overW : Nat → List UInt32 → List UInt8 → List UInt32
  | 0, n, _ => n
  | k + 1, n, b => overW k (passW n (b.take 64)) (b.drop 64)
@[simp] theorem overW_length : ∀ (k : Nat) (n : List UInt32) (b : List UInt8), (overW k n b).length = n.length
  | 0, _, _ => rfl
  | k + 1, n, b => by simp [overW, overW_length k]

def zerosW (n : Nat) : Nat := (119 - n % 64) % 64
def tailW (n : Nat) : List UInt8 := 128 :: List.replicate (zerosW n) 0 ++ laid 8 (n * 8)

def bytesW (n : List UInt32) : Nat → List UInt8
  | 0 => []
  | i + 1 => bytesW n i ++ [UInt8.ofNat (shrW (n.getD (i / 4) 0) (24 - i % 4 * 8)).toNat]
@[simp] theorem bytesW_length (n : List UInt32) : ∀ i, (bytesW n i).length = i
  | 0 => rfl
  | i + 1 => by simp [bytesW, bytesW_length n i]

/-- The digest of bytes behind a prefix: its numbers and size. -/
def endW (n : List UInt32) (size : Nat) (bs : List UInt8) : List UInt8 :=
  let q := bs.length / 64
  let l := bs.drop (64 * q) ++ tailW (size + bs.length)
  bytesW (overW (l.length / 64) (overW q n (bs.take (64 * q))) l) 32
@[simp] theorem endW_length (n : List UInt32) (size : Nat) (bs : List UInt8) : (endW n size bs).length = 32 := by simp [endW]

def shaW (bs : List UInt8) : List UInt8 := endW seedsW 0 bs
@[simp] theorem shaW_length (bs : List UInt8) : (shaW bs).length = 32 := by simp [shaW]

theorem tailW_length (n : Nat) : (n + (tailW n).length) % 64 = 0 := by
  simp [tailW, zerosW]; omega

theorem beW_take_succ {ps : List UInt8} {k : Nat} (h : k < ps.length) : beW (ps.take (k + 1)) = beW (ps.take k) * 256 + UInt32.ofNat (ps.getD k 0).toNat := by
  have e : ps.take (k + 1) = ps.take k ++ [ps.getD k 0] := by
    rw [List.take_succ_eq_append_getElem h]; simp [h]
  rw [e]; simp [beW]

theorem msg_set {bs : List UInt8} {i : Nat} (hi : i < 64) : (msgW bs i ++ List.replicate (64 - i) 0).set i (wordW bs (msgW bs i) i) = msgW bs (i + 1) ++ List.replicate (64 - (i + 1)) 0 := by
  obtain ⟨k, hk⟩ : ∃ k, 64 - i = k + 1 := ⟨64 - i - 1, by omega⟩
  rw [hk, show 64 - (i + 1) = k by omega, List.replicate_succ, List.set_append_right _ _ (by simp)]
  simp [msgW]

theorem msg_zero {bs : List UInt8} {i : Nat} (hi : i < 64) : (msgW bs i ++ List.replicate (64 - i) 0).set i 0 = msgW bs i ++ List.replicate (64 - i) 0 := by
  obtain ⟨k, hk⟩ : ∃ k, 64 - i = k + 1 := ⟨64 - i - 1, by omega⟩
  rw [hk, List.replicate_succ, List.set_append_right _ _ (by simp)]
  simp

theorem msg_low {bs : List UInt8} {i : Nat} (h : i < 16) : wordW bs (msgW bs i) i = beW ((bs.drop (4 * i)).take 4) := by simp [wordW, h]

theorem msg_get {bs : List UInt8} {i j : Nat} (h : j < i) : (msgW bs i ++ List.replicate (64 - i) 0).getD j 0 = (msgW bs i).getD j 0 := by
  simp [List.getD, List.getElem?_append_left (show j < (msgW bs i).length by simpa using h)]

theorem msg_high {bs : List UInt8} {i : Nat} (h : ¬ i < 16) : wordW bs (msgW bs i) i =
    (msgW bs i ++ List.replicate (64 - i) 0).getD (i - 16) 0 + halfW ((msgW bs i ++ List.replicate (64 - i) 0).getD (i - 15) 0) 7 18 3 + (msgW bs i ++ List.replicate (64 - i) 0).getD (i - 7) 0 + halfW ((msgW bs i ++ List.replicate (64 - i) 0).getD (i - 2) 0) 17 19 10 := by
  rw [msg_get (by omega), msg_get (by omega), msg_get (by omega), msg_get (by omega)]
  simp [wordW, h]

theorem set_getD {l : List UInt32} {i : Nat} {x : UInt32} (h : i < l.length) : (l.set i x).getD i 0 = x := by simp [h]
theorem overW_succ : ∀ (j : Nat) (n : List UInt32) (b : List UInt8), overW (j + 1) n b = passW (overW j n b) ((b.drop (64 * j)).take 64)
  | 0, n, b => by simp [overW]
  | j + 1, n, b => by
    rw [overW, overW_succ j, overW]
    simp [List.drop_drop, Nat.mul_add, Nat.add_comm]

theorem bytes_set {n : List UInt32} {i : Nat} (hi : i < 32) : (bytesW n i ++ List.replicate (32 - i) 0).set i (UInt8.ofNat (shrW (n.getD (i / 4) 0) (24 - i % 4 * 8)).toNat) = bytesW n (i + 1) ++ List.replicate (32 - (i + 1)) 0 := by
  obtain ⟨k, hk⟩ : ∃ k, 32 - i = k + 1 := ⟨32 - i - 1, by omega⟩
  rw [hk, show 32 - (i + 1) = k by omega, List.replicate_succ, List.set_append_right _ _ (by simp)]
  simp [bytesW]

def prefL (ns : List UInt32) (size : Nat) : List Value := wd ns ++ [.int .i64 (size : Int), .bool true]
theorem prefL_one (ns : List UInt32) (size : Nat) : One (prefL ns size) := fun v hv => by
  simp only [prefL, List.mem_append, List.mem_cons, List.not_mem_nil, or_false] at hv
  rcases hv with h | rfl | rfl
  · exact wd_one _ v h
  · rfl
  · rfl

theorem tailW_eq (n : Nat) : tailW n = (128 :: List.replicate (zerosW n) 0) ++ (laid 8 (n * 8)).take 8 := by
  rw [List.take_of_length_le (by simp)]; rfl
theorem tailW_len (n : Nat) : (tailW n).length = 1 + zerosW n + 8 := by simp [tailW]; omega
end Go.Kx
/- Own library, part J: arrays as slices, copy into an array; what HMAC of the given program computes. -/
namespace Go.Kx
open Go
variable {P : Program} {ops : Array Oper} {D : Option (Nat → Prop)} {Q : Exit → Act → World → Prop} {w0 w w' : World} {M : List Nat} {H H' : List Ent}
  {a : Act} {n : Nat} {L : List (Nat × Value)} {rest : List (Bool × Oper)} {d : Nat} {ty : TypeId} {pos : String} {aft : Array Edge} {x y z : Operand} {u v r : Value}

/-- A block that is one array becomes a slice that is owned. -/
theorem Mem.blkOwn {b T es m k : Nat} {cs : List Value} (hM : Mem w0 M w (blk b [cs] [m] T :: H)) (hk : m = k * es) (hm : k ≤ maxLen) : Mem w0 M w (own (.slice (some ⟨b, 0, none⟩) k k) es k cs :: H) := by
  obtain ⟨hl, fr, h1, h2⟩ := hM.get 0 rfl
  have hcl : cs.length = k * es := by simp at hl; omega
  simp only [List.flatten_cons, List.flatten_nil, List.append_nil] at h1 h2
  refine Mem.act (es := [blk b [cs] [m] T]) (es' := [own (.slice (some ⟨b, 0, none⟩) k k) es k cs]) hM rfl rfl rfl (Nat.le_refl _) (fun _ _ _ => rfl) ?_ ?_ ?_ ?_ (List.pairwise_singleton ..)
  · intro e he; rw [List.mem_singleton.1 he]
    exact ⟨hcl, .inr ⟨b, k, cs.toArray, T, fr, rfl, Nat.le_refl _, hm, h1, by simpa using hcl, by rw [← hcl]; simp, by simpa using h2⟩⟩
  · intro e he b' hb; rw [List.mem_singleton.1 he] at hb; exact .inl ⟨_, .head _, hb⟩
  · intro e he b' hb; rw [List.mem_singleton.1 he] at hb; cases hb
  · intro e he b' hb; rw [List.mem_singleton.1 he] at hb; cases hb

/-- An array of bytes, read as a slice. -/
theorem rd_of_arr {b m T : Nat} {bs : List UInt8} (h : (blk b [bv bs] [m] T).holds w) (hm : bs.length = m) : (rd (.slice (some ⟨b, 0, none⟩) m m) 1 bs.length m (bv bs)).holds w := by
  subst hm
  exact rd_of_blk (s := bs.length) h (by simp [rdSeg]) (by omega) (Nat.le_refl _)

theorem bin_xor8 {t : TypeId} {x y : UInt8} : Bin P .xor t (bV x) (bV y) (bV (x ^^^ y)) := bin_of rfl fun w => by
  have e : (BitVec.ofInt IntKind.u8.bits (x.toNat : Int) ^^^ BitVec.ofInt IntKind.u8.bits (y.toNat : Int)).toNat = (x ^^^ y).toNat := by
    show (BitVec.ofInt 8 (x.toNat : Int) ^^^ BitVec.ofInt 8 (y.toNat : Int)).toNat = _
    simp [BitVec.toNat_xor]
  simp only [bV, binOp, Op.intBits]
  rw [if_neg (by simp), e, wrap_u8_ofNat]; simp
/-- copy into an array's slice. -/
theorem s_copyArr {t t2 e by_ b m c T l l' : Nat} {old cs : List Value} (hE : Env a n L) (hx : ev L x = some (.slice (some ⟨b, 0, none⟩) l l')) (hy : ev L y = some u) (hM : Mem w0 M w (blk b [old] [l] T :: H))
    (hr : (rd u 1 m c cs).holds w) (h1 : One cs) (ht : SlT P t e 1 by_) (hX : ∀ X, D = some X → X b) (hn : Nat.blt d n = true)
    (k : ∀ a' w', Env a' n ((d, .int .i64 ((min m l : Nat) : Int)) :: L) → Mem w0 M w' (blk b [cs.take (min m l) ++ old.drop (min m l)] [l] T :: H) → wpL P ops D Q rest a' w') :
    wpL P ops D Q ((false, ⟨some d, .call { callee := .builtin .copy, args := #[x, y], argTypes := #[t, t2] }, ty, pos, aft, none⟩) :: rest) a w := by
  have hol : old.length = l := by have := (hM.get 0 rfl).1; simpa using this
  have hcl : cs.length = m := by have := hr.1; omega
  have htl : (cs.take (min m l)).length = min m l := by rw [List.length_take]; omega
  obtain ⟨fr, hh, hf, hle, hM'⟩ := blk_store (k := 0) (j := 0) (vs := cs.take (min m l)) (g := old) (o := 0) hM rfl (by omega) (by simp)
  have hone : One (cs.take (min m l)) := fun v hv => h1 v (List.mem_of_mem_take hv)
  have hst := run_storeCells (P := P) (o := 0) (cs.take (min m l)) 0 _ w hh (by simpa using hf) (by simpa using hle) hone
  have hfc := firstCells_rd (P := P) hr (Nat.min_le_left m l)
  have hlen := lenOf_rd (P := P) hr
  have e : wrSeg 0 0 (cs.take (min m l)) [old] = [cs.take (min m l) ++ old.drop (min m l)] := by
    show [wr 0 _ old] = _
    simp [wr, htl]
  rw [e] at hM'
  refine b_val hE hn (v := .int .i64 ((min m l : Nat) : Int)) ?_ (sta_of_setBlk hX) (fun a' hE' => k a' _ hE' hM')
  obtain ⟨hu, hs, _, _⟩ := ht
  simp only [Nat.add_zero] at hst
  simp only [Nat.mul_one] at hfc
  have hmin : Nat.min m l = min m l := rfl
  simp [execOp, resolve, invoke, builtin, hE.eval hx, hE.eval hy, Builtin.copy_, run_underlying hu, run_sizeOf hs, Sem.run_bind, hlen, hmin, hfc, hst]
  rfl

/-! ## HMAC -/

def blockW (key : List UInt8) : List UInt8 :=
  let k := if 64 < key.length then shaW key else key
  k ++ List.replicate (64 - k.length) 0
theorem blockW_length (key : List UInt8) : (blockW key).length = 64 := by
  unfold blockW
  by_cases h : 64 < key.length
  · simp [h]
  · simp [h]; omega

def padI (B : List UInt8) (x : UInt8) (i : Nat) : List UInt8 := (B.take i).map (· ^^^ x) ++ B.drop i
theorem padI_length (B : List UInt8) (x : UInt8) (i : Nat) : (padI B x i).length = B.length := by simp [padI]; omega
theorem padI_get {B : List UInt8} {x : UInt8} {i : Nat} (h : i < B.length) : (padI B x i).getD i 0 = B.getD i 0 := by
  have : ((B.take i).map (· ^^^ x)).length = i := by simp; omega
  rw [padI, List.getD, List.getElem?_append_right (Nat.le_of_eq this), this, List.getElem?_drop]
  simp
theorem padI_set {B : List UInt8} {x : UInt8} {i : Nat} (h : i < B.length) : (padI B x i).set i (B.getD i 0 ^^^ x) = padI B x (i + 1) := by
  have h1 : ((B.take i).map (· ^^^ x)).length = i := by simp; omega
  have h2 : B.drop i = B.getD i 0 :: B.drop (i + 1) := by
    rw [List.drop_eq_getElem_cons h]; simp [h]
  have h3 : B.take (i + 1) = B.take i ++ [B.getD i 0] := by
    rw [List.take_succ_eq_append_getElem h]; simp [h]
  rw [padI, List.set_append_right _ _ (by omega), h1, h2, Nat.sub_self, List.set_cons_zero, padI, h3]
  simp

def padW (key : List UInt8) (x : UInt8) : List UInt8 := (blockW key).map (· ^^^ x)
@[simp] theorem padW_length (key : List UInt8) (x : UInt8) : (padW key x).length = 64 := by simp [padW, blockW_length]
theorem padI_all (key : List UInt8) (x : UInt8) : padI (blockW key) x 64 = padW key x := by
  have := blockW_length key
  simp [padI, padW, List.take_of_length_le (Nat.le_of_eq this), List.drop_of_length_le (Nat.le_of_eq this)]

def hmacW (key msg : List UInt8) : List UInt8 := shaW (padW key 92 ++ shaW (padW key 54 ++ msg))
@[simp] theorem hmacW_length (key msg : List UInt8) : (hmacW key msg).length = 32 := by simp [hmacW]

/-- What stretching lays, one tag behind the other. -/
def strT (key b : List UInt8) : Nat → List UInt8
  | 0 => []
  | i + 1 => hmacW key (strT key b i ++ b ++ [UInt8.ofNat (i + 1)])
def strO (key b : List UInt8) : Nat → List UInt8
  | 0 => []
  | i + 1 => strO key b i ++ strT key b (i + 1)
@[simp] theorem strO_length (key b : List UInt8) : ∀ i, (strO key b i).length = 32 * i
  | 0 => rfl
  | i + 1 => by simp [strO, strO_length key b i, strT]; omega

theorem flat_succ {ps : List (List UInt8)} {i : Nat} (h : i < ps.length) : (ps.take (i + 1)).flatten = (ps.take i).flatten ++ ps.getD i [] := by
  rw [List.take_succ_eq_append_getElem h, List.flatten_append, List.flatten_singleton]; simp [List.getD, h]
theorem flat_le (ps : List (List UInt8)) (i : Nat) : (ps.take i).flatten.length ≤ ps.flatten.length := by
  have : ps.flatten = (ps.take i).flatten ++ (ps.drop i).flatten := by rw [← List.flatten_append, List.take_append_drop]
  rw [this]; simp

end Go.Kx
/- Own library, part J2: aggregates are compared; plain laws of HMAC. -/
namespace Go.Kx
open Go
variable {P : Program} {w : World}

theorem bins_aggs {t : TypeId} {cs ds : Array Value} {b : Bool} (hg : P.eqGuardType P.depth t = false) (h : ∀ d w, (Op.equalIn (d + 2) t (.agg cs) (.agg ds)).run P w = .ok b w) :
    Bin P .eql t (.agg cs) (.agg ds) (.bool b) ∧ Bin P .neq t (.agg cs) (.agg ds) (.bool (!b)) := by
  have h' : ∀ w, (Op.equal t (.agg cs) (.agg ds)).run P w = .ok b w := fun w => h 9998 w
  have hgd : ∀ (op : BinOp) x y (w : World), op = .eql ∨ op = .neq → (eqGuard op t x y (.agg cs) (.agg ds)).run P w = .ok () w := by
    intro op x y w ho
    rcases ho with rfl | rfl <;> simp [eqGuard, Sem.run_bind, run_program, Result.andThen_ok, hg]
  constructor
  · intro x y w
    have e : (binOp .eql t (.agg cs) (.agg ds)).run P w = .ok (.bool b) w := by
      show (do pure (Value.bool (← Op.equal t (.agg cs) (.agg ds))) : Sem Value).run P w = _
      rw [Sem.run_bind, h']; rfl
    rw [Sem.run_bind, hgd _ _ _ _ (.inl rfl)]; exact e
  · intro x y w
    have e : (binOp .neq t (.agg cs) (.agg ds)).run P w = .ok (.bool (!b)) w := by
      show (do pure (Value.bool (!(← Op.equal t (.agg cs) (.agg ds)))) : Sem Value).run P w = _
      rw [Sem.run_bind, h']; rfl
    rw [Sem.run_bind, hgd _ _ _ _ (.inr rfl)]; exact e

theorem bins_arr8 {t e n : Nat} {a b : List UInt8} (ht : P.underlying t = some (.array n e)) (hie : (P.info? e).isSome = true) (he : P.underlying e = some (.int .u8)) (hc : P.cellsOf e = 1) (hg : P.eqGuardType P.depth t = false) (ha : a.length = n) (hb : b.length = n) :
    Bin P .eql t (.agg (bv a).toArray) (.agg (bv b).toArray) (.bool (decide (a = b))) ∧ Bin P .neq t (.agg (bv a).toArray) (.agg (bv b).toArray) (.bool (!decide (a = b))) := by
  obtain ⟨ie, hie⟩ := Option.isSome_iff_exists.1 hie
  exact bins_aggs hg fun d w => equal_u8s ht hie he hc ha hb d

def hexD : List UInt8 := [48, 49, 50, 51, 52, 53, 54, 55, 56, 57, 97, 98, 99, 100, 101, 102]
def hexL (bs : List UInt8) : List UInt8 := bs.flatMap fun c => [hexD.getD (c.toNat / 16) 0, hexD.getD (c.toNat % 16) 0]
@[simp] theorem hexL_length (bs : List UInt8) : (hexL bs).length = 2 * bs.length := by
  induction bs with
  | nil => rfl
  | cons c r ih => simp [hexL] at ih ⊢; omega

section
variable {ops : Array Oper} {D : Option (Nat → Prop)} {Q : Exit → Act → World → Prop} {a : Act} {n : Nat} {L : List (Nat × Value)} {rest : List (Bool × Oper)} {d : Nat} {ty : TypeId} {pos : String} {aft : Array Edge} {x y : Operand}
end

end Go.Kx
/- Own library, part Z: structs are stored whole; structs and arrays of whatever depth are compared. -/
namespace Go.Kx
open Go
variable {P : Program} {ops : Array Oper} {D : Option (Nat → Prop)} {Q : Exit → Act → World → Prop} {w0 w w' : World} {M : List Nat} {H H' : List Ent}
  {a : Act} {n : Nat} {L : List (Nat × Value)} {rest : List (Bool × Oper)} {d : Nat} {ty : TypeId} {pos : String} {aft : Array Edge} {x y z : Operand} {u v r : Value}

/-! ## Equality of structs -/

def litV : Value → Lit
  | .bool b => .bool b
  | .int k i => .int k i
  | .string s => .string s.data.toList
  | _ => .nil
def isKey : Value → Bool
  | .bool _ => true
  | .int _ _ => true
  | .string _ => true
  | _ => false

/-- Cells that a type of key reads, up to depth k. -/
def KL (P : Program) (k t : Nat) (cs : List Value) : Prop := (∀ D, P.keyLits (D + k) t cs = some (cs.map litV)) ∧ ∀ v, v ∈ cs → isKey v = true

theorem KL.int {k t : Nat} {q : IntKind} {i : Int} (hu : P.underlying t = some (.int q)) (hw : (Lit.int q i).wf = true) : KL P (k + 1) t [.int q i] :=
  ⟨fun D => by rw [← Nat.add_assoc]; simp [Program.keyLits, hu, hw, litV], fun v hv => by rw [List.mem_singleton.1 hv]; rfl⟩
theorem KL.bool {k t : Nat} {b : Bool} (hu : P.underlying t = some .bool) : KL P (k + 1) t [.bool b] :=
  ⟨fun D => by rw [← Nat.add_assoc]; simp [Program.keyLits, hu, litV], fun v hv => by rw [List.mem_singleton.1 hv]; rfl⟩

def KLs (P : Program) (k : Nat) : List TypeId → List (List Value) → Prop
  | [], [] => True
  | t :: ts, c :: cs => KL P k t c ∧ KLs P k ts cs
  | _, _ => False

theorem KLs.go {k : Nat} (D : Nat) : ∀ (fs : List Field) (ps : List (List Value)) (pre : List Value), KLs P k (fs.map (·.type)) ps → fs.map (fun f => (f.offset, P.cellsOf f.type)) = plc pre.length (ps.map List.length) → ∀ cs : List Value, cs = pre ++ ps.flatten →
    (fs.mapM fun f => P.keyLits (D + k) f.type ((cs.drop f.offset).take (P.cellsOf f.type))) = some (ps.map fun p => p.map litV)
  | [], [], _, _, _, _, _ => rfl
  | [], _ :: _, _, h, _, _, _ => h.elim
  | _ :: _, [], _, h, _, _, _ => h.elim
  | f :: fs, p :: ps, pre, h, ho, cs, hc => by
    simp only [List.map_cons, plc, List.cons.injEq, Prod.mk.injEq] at ho
    have e1 : (cs.drop f.offset).take (P.cellsOf f.type) = p := by
      rw [ho.1.1, ho.1.2, hc, List.drop_left, List.flatten_cons, List.take_left]
    have ih := KLs.go D fs ps (pre ++ p) h.2 (by rw [List.length_append]; exact ho.2) cs (by rw [hc]; simp)
    rw [List.mapM_cons, e1, h.1.1 D, ih]
    rfl

theorem KLs.keys {k : Nat} : ∀ {ts : List TypeId} {ps : List (List Value)}, KLs P k ts ps → ∀ v, v ∈ ps.flatten → isKey v = true
  | [], [], _, v, hv => by cases hv
  | [], _ :: _, h, _, _ => h.elim
  | _ :: _, [], h, _, _ => h.elim
  | t :: ts, p :: ps, h, v, hv => by
    rw [List.flatten_cons] at hv
    rcases List.mem_append.1 hv with hv | hv
    · exact h.1.2 v hv
    · exact KLs.keys h.2 v hv

theorem KL.struct {k t : Nat} {fs : Array Field} {ps : List (List Value)} (ns : List Nat) (hu : P.underlying t = some (.struct fs)) (hn : (fs.all (·.name != "_")) = true) (hc : P.cellsOf t = ns.sum) (ho : fs.toList.map (fun f => (f.offset, P.cellsOf f.type)) = plc 0 ns)
    (hl : ps.map List.length = ns) (ts : List TypeId) (hts : fs.toList.map (·.type) = ts) (h : KLs P k ts ps) : KL P (k + 1) t ps.flatten := by
  refine ⟨fun D => ?_, h.keys⟩
  have hlen : ps.flatten.length = P.cellsOf t := by rw [List.length_flatten, hl, hc]
  have := KLs.go (P := P) (k := k) D fs.toList ps [] (hts ▸ h) (by rw [hl]; exact ho) ps.flatten rfl
  rw [← Nat.add_assoc]
  simp only [Program.keyLits, hu]
  rw [if_pos ⟨hlen, hn⟩, this]
  simp [List.map_flatten]

theorem KLs.rep {k e m : Nat} (D : Nat) : ∀ (n i : Nat) (ps : List (List Value)) (pre : List Value), (∀ p, p ∈ ps → KL P k e p ∧ p.length = m) → ps.length = n → pre.length = i * m → ∀ cs : List Value, cs = pre ++ ps.flatten →
    ((List.range' i n).mapM fun i => P.keyLits (D + k) e ((cs.drop (i * m)).take m)) = some (ps.map fun p => p.map litV)
  | 0, _, [], _, _, _, _, _, _ => rfl
  | 0, _, _ :: _, _, _, h, _, _, _ => by cases h
  | n + 1, _, [], _, _, h, _, _, _ => by cases h
  | n + 1, i, p :: ps, pre, h, hn, hp, cs, hc => by
    obtain ⟨h1, h2⟩ := h p (.head _)
    have e1 : (cs.drop (i * m)).take m = p := by
      rw [← hp, ← h2, hc, List.drop_left, List.flatten_cons, List.take_left]
    have ih := KLs.rep D n (i + 1) ps (pre ++ p) (fun q hq => h q (.tail _ hq)) (by simpa using hn) (by rw [List.length_append, hp, h2, Nat.succ_mul]) cs (by rw [hc]; simp)
    rw [List.range'_succ, List.mapM_cons, e1, h1.1 D, ih]
    rfl

theorem KL.array {k t e m n : Nat} {ps : List (List Value)} (hu : P.underlying t = some (.array n e)) (hc : P.cellsOf t = n * m) (he : P.cellsOf e = m) (hn : ps.length = n) (h : ∀ p, p ∈ ps → KL P k e p ∧ p.length = m) : KL P (k + 1) t ps.flatten := by
  refine ⟨fun D => ?_, fun v hv => ?_⟩
  · have hlen : ps.flatten.length = P.cellsOf t := by
      rw [List.length_flatten, hc, ← hn, show ps.map List.length = List.replicate ps.length m from List.eq_replicate_iff.2 ⟨by simp, fun b hb => by obtain ⟨q, hq, rfl⟩ := List.mem_map.1 hb; exact (h q hq).2⟩]
      simp
    have := KLs.rep (P := P) (k := k) (e := e) (m := m) D n 0 ps [] h hn (by simp) ps.flatten rfl
    rw [← Nat.add_assoc]
    simp only [Program.keyLits, hu]
    rw [if_pos hlen, he, List.range_eq_range', this]
    simp [List.map_flatten]
  · obtain ⟨p, hp, hv⟩ := List.mem_flatten.1 hv
    exact (h p hp).1.2 v hv

/-- A text of these bytes. -/
def tx (l : List UInt8) : ByteArray := ⟨l.toArray⟩
@[simp] theorem tx_list (l : List UInt8) : (tx l).data.toList = l := rfl

end Go.Kx
/- Own library, part N: rows that list a table of words. -/
namespace Go.Kx
open Go
open Go.ChangeShapes Go.WideShapes Go.ChangeAt Go.RowKit
variable {P : Program} {W : World}

def saltsZ : List Int := saltsW.map fun x => (x.toNat : Int)

theorem glb_of_laid {name : String} {d : DataW Unit} {rest : List (String × DataW Unit)} {g t e : Nat} (hg : P.globalNamed name = some g) (hty : (P.globals[g]?).map (·.type) = some t) (ht : P.underlying t = some (.array 64 e)) (he : P.underlying e = some (.int .u32))
    (hce : P.cellsOf e = 1) (hct : P.cellsOf t = 64) (hd : d = Lib.tabData .u32 saltsZ) (h : laidMet P ((name, d) :: rest) W) : (glb g).holds W := by
  subst hd
  have hT := Lib.tabIs_of_head hg hty ht he hce hct h
  have h0 := hT.cell hg 0 (by decide)
  refine ⟨g, 0, rfl, World.block_lt_of_cell? W _ h0, fun i x hx => ?_⟩
  have hi : i < saltsW.length := by
    have := (List.getElem?_eq_some_iff.1 hx).1
    simpa using this
  have hc := hT.cell hg i (by simpa [saltsZ] using hi)
  rw [Nat.zero_add, hc]
  rw [wd_get hi] at hx
  rw [← hx]
  simp [saltsZ, wV, List.getD, hi]

/-- A law that lists variables, whose walk returns true, and turns nothing that was there. -/
theorem law_liftedL {C : Checked} {os : Os} {f : FuncId} {fn : Func} {s : ChangeSpec} {tb : TypeId} {H : Type} {enc : TypeId × Value → H} {l : List (String × DataW Unit)}
    (own : ownKnob C.prog.godebug = none) (started : os.Started) (noInit : C.prog.inits.idxOf? f = none) (hfn : C.prog.funcs[f]? = some fn) (hvars : s.vars = [])
    (hspec : ∀ ds : List (DataW H), ds.length = fn.params.toList.length → s.fn H ds = { results := [.lit (.bool true)], args := ds }) (hres : fn.resultTypes = #[tb]) (htb : C.prog.underlying tb = some .bool)
    (hl : laidOutB C.prog = true) (hts : ∀ t, t ∈ fn.params.toList → C.prog.readableRec t = true ∧ t < C.prog.types.size)
    (hplain : (l.all fun x => x.2.handleName?.isNone) = true)
    (witness : ∃ (w : World) (tape : Tape) (i : Input), w.os = os ∧ (w.forCall tape i).Shaped C.prog ∧ i.vars = [] ∧ Input.okWide C.prog (w.forCall tape i) .any w.heap.size f i ∧
      ((s.pre enc C.prog fn [] false (w.forCall tape i).memory i.args ∧ laidMetH C.prog l (w.forCall tape i).memory) ∧ sizedMet enc C.prog fn (OpenSpec.ofChange s) false (w.forCall tape i).memory i.args) ∧ Assume.holds {} C.prog (lone (Frame.enter C.prog f i.args .normal) [] (w.forCall tape i)))
    (walk : ∀ (W : World) (base : Nat) (args : Array Value) (ds : List (DataW H)) (ps : List MemPlace), (∀ (j : Nat) t v, fn.params[j]? = some t → args[j]? = some v → Value.okWide C.prog W .any base t v) →
      DataW.TrodAll enc C.prog W 0 (fun _ => true) true fn.params.toList args.toList ds ps → (∀ m, m ∈ DataW.weightsEach C.prog fn.params.toList ds → m ≤ reachBytes) → laidMet C.prog l W →
      Calls C.prog f args W fun e W' => e = .returned (.bool true) ∧ Mem W [] W' []) :
    ReturnsInHanded {} C os f .any (fun w args => (s.pre enc C.prog fn [] false w args ∧ laidMetH C.prog l w) ∧ sizedMet enc C.prog fn (OpenSpec.ofChange s) false w args) (s.post enc C.prog fn false true false false) := by
  refine returnsInHanded_of_change_and (C := C) (X := fun w _ => laidMetH C.prog l w) (fun _ _ _ hh h => h.of_heap hh) own started noInit hfn witness ?_
  intro W base args ds gs before hval hW _ hsz hL _
  rw [MakeChecks.laidMetH_plain _ _ _ hplain] at hL
  have hW' := hW
  obtain ⟨p, q, hA, hV, rfl, hfz, hnd⟩ := hW
  rw [hvars] at hV
  obtain ⟨rfl, rfl⟩ := trodVars_none hV
  have hvt : s.plain.varTypes C.prog = [] := by simp [ChangeSpec.plain, DataSpec.varTypes, hvars]
  rw [hvt, List.append_nil, List.append_nil, List.all_eq_true] at hsz
  refine (walk W base args ds p hval hA (fun m hm => by simpa using hsz m hm) hL).mono ?_
  rintro e W' ⟨rfl, hM⟩
  have hb := hM.below
  have hs := hspec ds (trodAll_len hA)
  refine ⟨_, rfl, ds, [], _, [], p, [], hW', ?_, ?_, ?_, hb.frame _, fun h => by cases h⟩
  · rw [List.append_nil, hs, hres]
    exact trodAll_mk1 (shut_bool htb _)
  · rw [List.append_nil, hs]
    exact trodAll_below hl hb _ hts _ _ _ hA
  · rw [hvars, List.append_nil, hs]; rfl

end Go.Kx
/- Own library, part M: what keys out of passphrases are, in plain Lean. -/
namespace Go.Kx
open Go

def xorW (a b : List UInt8) : List UInt8 := List.zipWith (· ^^^ ·) a b
theorem xorW_length {a b : List UInt8} (h : a.length = b.length) : (xorW a b).length = a.length := by simp [xorW, h]
def uW (pass salt : List UInt8) (i : UInt8) : Nat → List UInt8
  | 0 => hmacW pass (salt ++ [0, 0, 0, i])
  | n + 1 => hmacW pass (uW pass salt i n)
@[simp] theorem uW_length (pass salt : List UInt8) (i : UInt8) (n : Nat) : (uW pass salt i n).length = 32 := by cases n <;> simp [uW]
def oW (pass salt : List UInt8) (i : UInt8) : Nat → List UInt8
  | 0 => List.replicate 32 0
  | n + 1 => xorW (oW pass salt i n) (uW pass salt i n)
@[simp] theorem oW_length (pass salt : List UInt8) (i : UInt8) : ∀ n, (oW pass salt i n).length = 32
  | 0 => by simp [oW]
  | n + 1 => by rw [oW, xorW_length (by simp [oW_length pass salt i n]), oW_length pass salt i n]

def keyP (pass salt : List UInt8) (r : Nat) : Nat → List UInt8
  | 0 => []
  | j + 1 => keyP pass salt r j ++ oW pass salt (UInt8.ofNat (j + 1)) r
@[simp] theorem keyP_length (pass salt : List UInt8) (r : Nat) : ∀ j, (keyP pass salt r j).length = 32 * j
  | 0 => rfl
  | j + 1 => by simp [keyP, keyP_length pass salt r j]; omega
def keyW (pass salt : List UInt8) (r n : Nat) : List UInt8 := (keyP pass salt r ((n + 31) / 32)).take n
@[simp] theorem keyW_length (pass salt : List UInt8) (r n : Nat) : (keyW pass salt r n).length = n := by simp [keyW]; omega
/-- What passphrases' bytes are. -/
def phrW (s : List UInt8) : List UInt8 := UInt8.ofNat s.length :: s

end Go.Kx
/- Own library, part Ta: parts of arrays are copied to and read; what the kit's contracts leave of memory; messages of tags. -/
namespace Go.Kx
open Go Go.RowKit
variable {P : Program} {ops : Array Oper} {D : Option (Nat → Prop)} {Q : Exit → Act → World → Prop} {w0 w w' : World} {M : List Nat} {H H' : List Ent}
  {a : Act} {n : Nat} {L : List (Nat × Value)} {rest : List (Bool × Oper)} {d : Nat} {ty : TypeId} {pos : String} {aft : Array Edge} {x y z : Operand} {u v r : Value}

/-- copy into a part of a block. -/
theorem s_copySeg {t t2 e by_ b o m c T l l' : Nat} (k : Nat) {ss : List (List Value)} {ns : List Nat} {old cs : List Value} (hE : Env a n L) (hx : ev L x = some (.slice (some ⟨b, o, none⟩) l l')) (hy : ev L y = some u) (hM : Mem w0 M w (blk b ss ns T :: H))
    (hr : (rd u 1 m c cs).holds w) (hml : m = l) (h1 : One cs) (ht : SlT P t e 1 by_) (hg : ss[k]? = some old) (hol : old.length = l) (ho : (ns.take k).sum = o) (hX : ∀ X, D = some X → X b) (hn : Nat.blt d n = true)
    (kk : ∀ a' w', Env a' n ((d, .int .i64 (l : Int)) :: L) → Mem w0 M w' (blk b (ss.set k cs) ns T :: H) → wpL P ops D Q rest a' w') :
    wpL P ops D Q ((false, ⟨some d, .call { callee := .builtin .copy, args := #[x, y], argTypes := #[t, t2] }, ty, pos, aft, none⟩) :: rest) a w := by
  subst hml
  have hcl : cs.length = m := by have := hr.1; omega
  obtain ⟨fr, hh, hf, hle, hM'⟩ := blk_store (k := k) (j := 0) (vs := cs) (g := old) (o := o) hM hg (by omega) (by simpa using ho)
  have hst := run_storeCells (P := P) (o := o) cs 0 _ w hh (by simpa using hf) (by simpa using hle) h1
  have hfc := firstCells_rd (P := P) hr (Nat.le_refl m)
  have hlen := lenOf_rd (P := P) hr
  rw [wrSeg_set hg (by omega)] at hM'
  refine b_val hE hn (v := .int .i64 (m : Int)) ?_ (sta_of_setBlk hX) (fun a' hE' => kk a' _ hE' hM')
  obtain ⟨hu, hs, _, _⟩ := ht
  simp only [Nat.add_zero] at hst
  simp only [Nat.mul_one] at hfc
  rw [List.take_of_length_le (by omega)] at hfc
  have hmin : Nat.min m m = m := Nat.min_self m
  simp [execOp, resolve, invoke, builtin, hE.eval hx, hE.eval hy, Builtin.copy_, run_underlying hu, run_sizeOf hs, Sem.run_bind, hlen, hmin, hfc, hst]
  rfl

/-- A slice as a pointer to an array. -/
theorem s_toArrP {t e b o l c N : Nat} (hE : Env a n L) (hx : ev L x = some (.slice (some ⟨b, o, none⟩) l c)) (ht : P.underlying t = some (.array N e)) (hl : N ≤ l) (hn : Nat.blt d n = true)
    (k : ∀ a', Env a' n ((d, .pointer (some ⟨b, o, none⟩)) :: L) → wpL P ops D Q rest a' w) : wpL P ops D Q ((true, ⟨some d, .sliceToArrayPointer t x, ty, pos, aft, none⟩) :: rest) a w := by
  refine s_val hE hn (Flo.of_all (fun w => ?_) w) k
  have h1 : ¬ l < N := by omega
  simp [execOp, hE.eval hx, Instr.arrayAt, run_underlying ht, h1]

/-- A number's 64 bits. -/
def numW (z : Int) : Nat := (z % 18446744073709551616).toNat
theorem wrap_u64_any (z : Int) : IntKind.u64.wrap z = ((numW z : Nat) : Int) := by
  have h1 : (0 : Int) ≤ z % 18446744073709551616 := Int.emod_nonneg _ (by decide)
  rw [numW, Int.toNat_of_nonneg h1]
  rfl
/-! ## Messages of tags -/

def numT (dm : UInt8) (z : Int) (s : List UInt8) : List UInt8 := (pRow dm [laid 8 (numW z), s]).1
def plT (dm : UInt8) (b : List UInt8) : List UInt8 := (pRow dm [b]).1
theorem numT_ok (dm : UInt8) (z : Int) (s : List UInt8) : pRow dm [laid 8 (numW z), s] = (numT dm z s, 0) := by simp [numT, pRow]
theorem numT_eq (dm : UInt8) (z : Int) (s : List UInt8) : numT dm z s = dm :: 2 :: (laid 4 8 ++ (laid 8 (numW z) ++ (laid 4 s.length ++ s))) := by
  simp [numT, pRow, rowBs, rowPart]
theorem numT_len (dm : UInt8) (z : Int) (s : List UInt8) : (numT dm z s).length = 18 + s.length := by rw [numT_eq]; simp; omega
/-! ## What a struct's cells are, part by part -/

end Go.Kx
/- Own library, part B3: a region that draws its order, of which some operations that do not float have no order: a tree of the orders that may be. -/
namespace Go.Kx
open Go
variable {P : Program} {ops : Array Oper} {D : Option (Nat → Prop)} {Q : Exit → Act → World → Prop} {X2 : Nat → Prop}

inductive Pl
  | leaf (k : Nat)
  | fl (m : Nat) (p : Pl)
  | or (x : Nat) (s p : Pl)
  | re (c : List (Nat × Bool)) (p : Pl)
  | cut (p : Pl)
  | weak (p : Pl)
  | stop

def nx (Q : Exit → Act → World → Prop) (K : Act → World → Prop) : Exit → Act → World → Prop
  | .normal, a, w => K a w
  | e, a, w => Q e a w

def dropId (x : Nat) (c : List (Nat × Bool)) : List (Nat × Bool) := c.filter fun q => !(Nat.beq q.1 x)

def obl (P : Program) (ops : Array Oper) (X2 : Nat → Prop) (Q : Exit → Act → World → Prop) : Pl → (Nat → Prop) → List (Nat × Bool) → Act → World → Prop
  | .leaf k, X1, c => wpL P ops (some X1) (ph P ops (some X2) Q (theOps ops (c.drop k))) (theOps ops (c.take k))
  | .fl m p, X1, c => wpL P ops (some X1) (nx Q (obl P ops X2 Q p X1 (c.drop m))) (theOps ops (c.take m))
  | .or x s p, X1, c => fun a w => wpL P ops (some X1) (nx Q (obl P ops X2 Q s X1 (dropId x c))) [(false, ops.getD x default)] a w ∧ obl P ops X2 Q p X1 c a w
  | .re c' p, X1, _ => obl P ops X2 Q p X1 c'
  | .cut p, _, c => fun a w => ∃ X, obl P ops X2 Q p X c a w
  | .weak p, X1, c => fun a w => ∃ X, (∀ b, X b → X1 b) ∧ obl P ops X2 Q p X c a w
  | .stop, _, _ => fun _ _ => True

def plOk (ops : Array Oper) (T : List (Nat × List (Nat × Nat))) : Pl → List (Nat × Bool) → List (Nat × Bool) → List Nat → Bool
  | .leaf k, F, c, seen => seen.isEmpty && pairsOk (pairOk ops T) (F ++ c) && (F ++ c.take k).all (fun p => (c.drop k).all fun q => moveAt ops p || tabHas T p.1 q.1)
  | .fl m p, F, c, seen => seen.isEmpty && (c.take m).all (fun q => q.2) && pairsOk (pairOk ops T) (F ++ c.take m) && plOk ops T p (F ++ c.take m) (c.drop m) []
  | .or x s p, F, c, seen => c.any (fun q => Nat.beq q.1 x && !q.2) && F.all (fun q => waits ops x q.1 || tabHas T q.1 x || apartAt ops q.1 x) && plOk ops T s F (dropId x c) [] && plOk ops T p F c (x :: seen)
  | .re c' p, F, c, seen => seen.isEmpty && Nat.beq c.length c'.length && c'.all (fun q => c.any fun r => Nat.beq q.1 r.1) && c.all (fun q => c'.any fun r => Nat.beq q.1 r.1) && pairsOk (fun p q => !(waits ops p.1 q.1)) (F ++ c') && plOk ops T p F c' []
  | .cut p, F, c, seen => seen.isEmpty && F.all (fun f => moveAt ops f || c.all fun q => tabHas T f.1 q.1) && plOk ops T p (F.filter (moveAt ops)) c []
  | .weak p, F, c, seen => seen.isEmpty && plOk ops T p F c []
  | .stop, _, c, seen => !seen.isEmpty && c.all (fun q => seen.any (Nat.beq q.1) || c.any fun b => tabHas T b.1 q.1)

structure St (ops : Array Oper) (listed : Array Bool) (c : List (Nat × Bool)) : Prop where
  un : ∀ p ∈ c, p.1 < ops.size ∧ listed.getD p.1 true = false ∧ waits ops p.1 p.1 = false
  all : ∀ i, i < ops.size → listed.getD i false = true ∨ ∃ p ∈ c, p.1 = i
  ord : c.Pairwise (fun p q => waits ops p.1 q.1 = false ∧ p.1 ≠ q.1)
  closed : ∀ j e, listed.getD j false = true → waits ops j e = true → listed.getD e false = true

theorem get_getDo {i : Nat} (h : i < ops.size) : ops[i]? = some (ops.getD i default) := by simp [h]

theorem dropId_self {x : Nat} {c : List (Nat × Bool)} (h : ∀ p ∈ c, p.1 ≠ x) : dropId x c = c := by
  unfold dropId
  rw [List.filter_eq_self]
  intro p hp
  have := h p hp
  rw [Bool.not_eq_true', Bool.eq_false_iff]
  exact fun e => this (Nat.eq_of_beq_eq_true e)

theorem dropId_append (x : Nat) (a b : List (Nat × Bool)) : dropId x (a ++ b) = dropId x a ++ dropId x b := by simp [dropId]

theorem mem_dropId {x : Nat} {c : List (Nat × Bool)} {p : Nat × Bool} : p ∈ dropId x c ↔ p ∈ c ∧ p.1 ≠ x := by
  unfold dropId
  rw [List.mem_filter, Bool.not_eq_true', Bool.eq_false_iff]
  exact ⟨fun h => ⟨h.1, fun e => h.2 (by rw [e]; exact Nat.beq_refl _)⟩, fun h => ⟨h.1, fun e => h.2 (Nat.eq_of_beq_eq_true e)⟩⟩

theorem St.mem {listed : Array Bool} {c : List (Nat × Bool)} (hR : St ops listed c) {i : Nat} (hi : i ∈ Region.ready .any ops listed) : ∃ p ∈ c, p.1 = i := by
  obtain ⟨h0, hlt, hw⟩ := ready_waits hi
  exact (hR.all i hlt).resolve_left (by rw [getD_false_of_true h0]; simp)

theorem St.some_ready (hops : opsOk ops) {listed : Array Bool} {p : Nat × Bool} {c : List (Nat × Bool)} (hR : St ops listed (p :: c)) : Region.ready .any ops listed ≠ [] := by
  intro hr
  have hp := hR.un p (List.mem_cons_self ..)
  have : p.1 ∈ Region.ready .any ops listed := by
    rw [mem_ready]
    refine ⟨hp.2.1, ops.getD p.1 default, by simp [hp.1], fun e he hb => ?_⟩
    have hwt : waits ops p.1 e.on = true := waits_spec.2 ⟨_, by simp [hp.1], e, he, rfl, hb⟩
    have hlt := (hops (ops.getD p.1 default) (by simp [hp.1])).2 e he hb
    rcases hR.all e.on hlt with h1 | ⟨q, hq, hqe⟩
    · exact h1
    · exfalso
      rcases List.mem_cons.1 hq with rfl | hq
      · rw [← hqe, hp.2.2] at hwt
        cases hwt
      · have hpw := (List.pairwise_cons.1 hR.ord).1 q hq
        rw [hqe, hwt] at hpw
        cases hpw.1
  rw [hr] at this
  cases this

theorem St.step {listed : Array Bool} {c : List (Nat × Bool)} {i : Nat} (hR : St ops listed c) (hsz : listed.size = ops.size) (hi : i ∈ Region.ready .any ops listed) : St ops (listed.setIfInBounds i true) (dropId i c) := by
  obtain ⟨h0, hlt, hw⟩ := ready_waits hi
  refine ⟨fun p hp => ?_, fun j hj => ?_, hR.ord.sublist (List.filter_sublist ..), fun j e hj he => ?_⟩
  · obtain ⟨hp, hne⟩ := mem_dropId.1 hp
    refine ⟨(hR.un p hp).1, ?_, (hR.un p hp).2.2⟩
    rw [getD_set_ne true (Ne.symm hne)]
    exact (hR.un p hp).2.1
  · by_cases e : i = j
    · subst e; left; simp [hsz, hlt]
    · rcases hR.all j hj with h1 | ⟨p, hp, hpj⟩
      · left; exact getD_set_true h1
      · exact .inr ⟨p, mem_dropId.2 ⟨hp, by rw [hpj]; exact Ne.symm e⟩, hpj⟩
  · by_cases e' : i = j
    · subst e'; exact getD_set_true (hw e he)
    · rw [getD_set_ne false e'] at hj
      exact getD_set_true (hR.closed j e hj he)

theorem wpL_app {Q1 Q2 : Exit → Act → World → Prop} {l2 : List (Bool × Oper)} (hq : ∀ e a w, e ≠ .normal → Q1 e a w → Q2 e a w) (hn : ∀ a w, Q1 .normal a w → wpL P ops D Q2 l2 a w) :
    ∀ (l1 : List (Bool × Oper)) (a : Act) (w : World), wpL P ops D Q1 l1 a w → wpL P ops D Q2 (l1 ++ l2) a w
  | [], _, _, h => hn _ _ h
  | (f, o) :: rest, a, w, h => by
    have ih := wpL_app hq hn rest
    simp only [List.cons_append, wpL] at h ⊢
    split
    · rename_i hw
      simp only [hw, if_true] at h
      cases f with
      | true => obtain ⟨v, hf, hr⟩ := h; exact ⟨v, hf, ih _ _ hr⟩
      | false =>
        refine h.imp (Oper.wp_monoQ (fun _ _ h => ⟨h.1, ih _ _ h.2⟩) ?_) (fun ⟨h1, a, w, h2⟩ => ⟨h1, a, w, hq _ _ _ (by intro e; cases e) h2⟩)
        intro e a w he
        cases e <;> first | exact hq _ _ _ (by intro e; cases e) he | exact he
    · rename_i hw
      simp only [hw] at h
      exact ih _ _ h

theorem not_tab {T : List (Nat × List (Nat × Nat))} (hT : ∀ x ∈ T, chainOk ops x.1 x.2 [] = true) {listed : Array Bool} {c : List (Nat × Bool)} (hR : St ops listed c) {i : Nat} (hi : i ∈ Region.ready .any ops listed) {q : Nat × Bool} (hq : q ∈ c) : ¬ tabHas T q.1 i = true := fun h => by
  have := tabHas_listed hT hR.closed hi h
  rw [getD_false_of_true (hR.un q hq).2.1] at this; cases this

theorem apart_of_ready {T : List (Nat × List (Nat × Nat))} (hT : ∀ x ∈ T, chainOk ops x.1 x.2 [] = true) {listed : Array Bool} {c : List (Nat × Bool)} (hR : St ops listed c) {i : Nat} (hi : i ∈ Region.ready .any ops listed) {q : Nat × Bool} (hq : q ∈ c)
    (h : (waits ops i q.1 || tabHas T q.1 i || apartAt ops q.1 i) = true) : apartAt ops q.1 i = true := by
  simp only [Bool.or_eq_true] at h
  rcases h with (h | h) | h
  · have := (ready_waits hi).2.2 _ h
    rw [getD_false_of_true (hR.un q hq).2.1] at this; cases this
  · exact absurd h (not_tab hT hR hi hq)
  · exact h

/-- A ready operation of the rest is one of the choices. -/
theorem choose {X1 : Nat → Prop} {T : List (Nat × List (Nat × Nat))} {F c : List (Nat × Bool)} {i : Nat} (hic : ∃ p ∈ c, p.1 = i) (hno : ∀ q ∈ c, ¬ tabHas T q.1 i = true) :
    ∀ (pl : Pl) (seen : List Nat), plOk ops T pl F c seen = true → (¬ seen.any (Nat.beq i) = true) → (seen ≠ [] ∨ ∃ x s p, pl = .or x s p) →
      ∃ s, plOk ops T s F (dropId i c) [] = true ∧ (∀ q ∈ F, (waits ops i q.1 || tabHas T q.1 i || apartAt ops q.1 i) = true) ∧ ∀ a w, obl P ops X2 Q pl X1 c a w → wpL P ops (some X1) (nx Q (obl P ops X2 Q s X1 (dropId i c))) [(false, ops.getD i default)] a w
  | .leaf k, seen, h, _, hs => by
    exfalso
    simp only [plOk, Bool.and_eq_true] at h
    have := h.1.1
    rcases hs with hs | ⟨_, _, _, hs⟩
    · cases seen with
      | nil => exact hs rfl
      | cons => simp at this
    · cases hs
  | .fl m p, seen, h, _, hs => by
    exfalso
    simp only [plOk, Bool.and_eq_true] at h
    have := h.1.1.1
    rcases hs with hs | ⟨_, _, _, hs⟩
    · cases seen with
      | nil => exact hs rfl
      | cons => simp at this
    · cases hs
  | .weak p, seen, h, _, hs => by
    exfalso
    simp only [plOk, Bool.and_eq_true] at h
    have := h.1
    rcases hs with hs | ⟨_, _, _, hs⟩
    · cases seen with
      | nil => exact hs rfl
      | cons => simp at this
    · cases hs
  | .cut p, seen, h, _, hs => by
    exfalso
    simp only [plOk, Bool.and_eq_true] at h
    have := h.1.1
    rcases hs with hs | ⟨_, _, _, hs⟩
    · cases seen with
      | nil => exact hs rfl
      | cons => simp at this
    · cases hs
  | .re c' p, seen, h, _, hs => by
    exfalso
    simp only [plOk, Bool.and_eq_true] at h
    have := h.1.1.1.1.1
    rcases hs with hs | ⟨_, _, _, hs⟩
    · cases seen with
      | nil => exact hs rfl
      | cons => simp at this
    · cases hs
  | .or x s p, seen, h, hse, _ => by
    simp only [plOk, Bool.and_eq_true, List.all_eq_true] at h
    by_cases e : i = x
    · subst e
      exact ⟨s, h.1.2, h.1.1.2, fun a w ho => ho.1⟩
    · obtain ⟨s', h1, h2, h3⟩ := choose hic hno p (x :: seen) h.2 (by
        intro hx
        simp only [List.any_cons, Bool.or_eq_true] at hx
        rcases hx with hx | hx
        · exact e (Nat.eq_of_beq_eq_true hx)
        · exact hse hx) (.inl (by simp))
      exact ⟨s', h1, h2, fun a w ho => h3 a w ho.2⟩
  | .stop, seen, h, hse, _ => by
    exfalso
    simp only [plOk, Bool.and_eq_true, List.all_eq_true] at h
    obtain ⟨q, hq, rfl⟩ := hic
    have := h.2 q hq
    simp only [Bool.or_eq_true] at this
    rcases this with h1 | h1
    · exact hse h1
    · obtain ⟨b, hb, hbt⟩ := List.any_eq_true.1 h1
      exact hno b hb hbt

theorem wpL_movesX {K : (Nat → Prop) → Act → World → Prop} {X1 : Nat → Prop} : ∀ (l : List (Bool × Oper)) (a : Act) (w : World), (∀ p ∈ l, p.1 = true ∧ isMove p.2 = true) →
    wpL P ops (some X1) (nx Q (fun a w => ∃ X, K X a w)) l a w → ∃ X, wpL P ops (some X) (nx Q (K X)) l a w
  | [], _, _, _, h => h
  | (f, o) :: rest, a, w, hm, h => by
    obtain ⟨rfl, hmo⟩ : f = true ∧ isMove o = true := hm (f, o) (List.mem_cons_self ..)
    have ih := fun a w => wpL_movesX (K := K) (X1 := X1) rest a w (fun p hp => hm p (List.mem_cons_of_mem _ hp))
    simp only [wpL] at h ⊢
    by_cases hw : Region.wanted o (yielded ops a.tmps) = true
    · simp only [hw, if_true] at h ⊢
      obtain ⟨v, hv, hr⟩ := h
      obtain ⟨u, hu⟩ := isMove_run (P := P) hmo a.eval
      obtain rfl : u = v := by
        have h1 := hv.1
        rw [hu w] at h1
        cases h1; rfl
      obtain ⟨X, hX⟩ := ih _ _ hr
      exact ⟨X, u, Flo.of_all hu w, hX⟩
    · simp only [hw] at h ⊢
      exact ih _ _ h

theorem Flo.weaken {X X1 : Nat → Prop} {s : Sem Next} {v : Value} {w : World} (h : Flo P (some X1) s v w) (hX : ∀ b, X b → X1 b) : Flo P (some X) s v w :=
  ⟨h.1, fun Y hY w' hs => by
    cases hY
    exact h.2 X1 rfl w' ⟨hs.1, fun b hb hx => hs.2 b hb fun hx' => hx (hX b hx')⟩⟩

theorem wpL_weakX {K : (Nat → Prop) → Act → World → Prop} {X1 : Nat → Prop} : ∀ (l : List (Bool × Oper)) (a : Act) (w : World), (∀ p ∈ l, p.1 = true) →
    wpL P ops (some X1) (nx Q (fun a w => ∃ X, (∀ b, X b → X1 b) ∧ K X a w)) l a w → ∃ X, (∀ b, X b → X1 b) ∧ wpL P ops (some X) (nx Q (K X)) l a w
  | [], _, _, _, h => h
  | (f, o) :: rest, a, w, hm, h => by
    obtain rfl : f = true := hm (f, o) (List.mem_cons_self ..)
    have ih := fun a w => wpL_weakX (K := K) (X1 := X1) rest a w (fun p hp => hm p (List.mem_cons_of_mem _ hp))
    simp only [wpL] at h ⊢
    by_cases hw : Region.wanted o (yielded ops a.tmps) = true
    · simp only [hw, if_true] at h ⊢
      obtain ⟨v, hv, hr⟩ := h
      obtain ⟨X, hX, hK⟩ := ih _ _ hr
      exact ⟨X, hX, v, hv.weaken hX, hK⟩
    · simp only [hw] at h ⊢
      exact ih _ _ h

theorem wpAny_of_tree {T : List (Nat × List (Nat × Nat))} (hT : ∀ x ∈ T, chainOk ops x.1 x.2 [] = true) (hops : opsOk ops) :
    ∀ (fuel : Nat) (pl : Pl) (X1 : Nat → Prop) (F c pre : List (Nat × Bool)) (listed : Array Bool) (a : Act) (w : World), fuel = (pre ++ c).length → listed.size = ops.size → plOk ops T pl F c [] = true → pre.Sublist F →
      F.Pairwise (fun p q => pairOk ops T p q = true ∧ p.1 ≠ q.1) → (∀ p ∈ F, p.2 = true) → St ops listed (pre ++ c) →
      wpL P ops (some X1) (nx Q (obl P ops X2 Q pl X1 c)) (theOps ops pre) a w → wpAny P .any ops Q fuel listed a w := by
  intro fuel
  induction fuel with
  | zero =>
    intro pl X1 F c pre listed a w hl hsz hok hsub hF hFf hR h
    obtain ⟨rfl, rfl⟩ : pre = [] ∧ c = [] := by
      cases pre <;> cases c <;> simp at hl ⊢
    have hrr : Region.ready .any ops listed = [] := by
      cases hr : Region.ready .any ops listed with
      | nil => rfl
      | cons i r =>
        exfalso
        obtain ⟨p, hp, _⟩ := hR.mem (i := i) (by rw [hr]; exact List.mem_cons_self ..)
        cases hp
    have key : ∀ (pl : Pl) (X1 : Nat → Prop) (F : List (Nat × Bool)), plOk ops T pl F [] [] = true → obl P ops X2 Q pl X1 [] a w → Q .normal a w := by
      intro pl
      induction pl with
      | leaf k => intro X1 F _ h; simpa [obl, theOps, wpL, ph] using h
      | fl m p ih => intro X1 F hk h; simp only [plOk, Bool.and_eq_true, List.drop_nil, List.take_nil] at hk; exact ih X1 _ hk.2 (by simpa [obl, theOps, wpL, nx] using h)
      | or x s p _ _ => intro X1 F hk _; simp [plOk] at hk
      | re c' p ih =>
        intro X1 F hk h
        simp only [plOk, Bool.and_eq_true] at hk
        have hc' : c' = [] := List.eq_nil_of_length_eq_zero (Nat.eq_of_beq_eq_true hk.1.1.1.1.2).symm
        subst hc'
        exact ih X1 _ hk.2 h
      | weak p ih =>
        intro X1 F hk h
        simp only [plOk, Bool.and_eq_true] at hk
        obtain ⟨X, _, h⟩ := h
        exact ih X _ hk.2 h
      | cut p ih =>
        intro X1 F hk h
        simp only [plOk, Bool.and_eq_true] at hk
        obtain ⟨X, h⟩ := h
        exact ih X _ hk.2 h
      | stop => intro X1 F hk _; simp [plOk] at hk
    exact ⟨hrr, key pl X1 F hok h⟩
  | succ fuel ih =>
    intro pl
    induction pl with
    | leaf k =>
      intro X1 F c pre listed a w hl hsz hok hsub hF hFf hR h
      simp only [plOk, Bool.and_eq_true, List.all_eq_true] at hok
      have hc : c = c.take k ++ c.drop k := (List.take_append_drop k c).symm
      have hsub' : (pre ++ c).Sublist (F ++ c) := List.Sublist.append hsub (List.Sublist.refl _)
      have hRem : Rem ops T listed ((pre ++ c.take k) ++ c.drop k) := by
        rw [List.append_assoc, ← hc]
        exact ⟨hR.un, hR.all, (pairsOk_spec hok.1.2).sublist hsub', hR.closed⟩
      refine wpAny_of_ph (X1 := X1) (X2 := X2) hT hops (fuel + 1) listed (pre ++ c.take k) (c.drop k) a w (by rw [List.append_assoc, ← hc]; exact hl) hsz hRem (fun p hp q hq => ?_) ?_
      · have := hok.2 p (by
          rcases List.mem_append.1 hp with hp | hp
          · exact List.mem_append_left _ (hsub.subset hp)
          · exact List.mem_append_right _ hp) q hq
        simpa using this
      · have := wpL_app (Q2 := ph P ops (some X2) Q (theOps ops (c.drop k))) (l2 := theOps ops (c.take k)) (by intro e a w hne he; cases e <;> first | exact he | exact absurd rfl hne) (fun a w h => h) _ a w h
        simpa [theOps] using this
    | fl m p ihp =>
      intro X1 F c pre listed a w hl hsz hok hsub hF hFf hR h
      simp only [plOk, Bool.and_eq_true, List.all_eq_true] at hok
      have hc : c = c.take m ++ c.drop m := (List.take_append_drop m c).symm
      refine ihp X1 (F ++ c.take m) (c.drop m) (pre ++ c.take m) listed a w (by rw [List.append_assoc, ← hc]; exact hl) hsz hok.2 (List.Sublist.append hsub (List.Sublist.refl _)) (pairsOk_spec hok.1.2) (fun q hq => ?_) (by rw [List.append_assoc, ← hc]; exact hR) ?_
      · rcases List.mem_append.1 hq with hq | hq
        · exact hFf q hq
        · exact hok.1.1.2 q hq
      · have := wpL_app (Q2 := nx Q (obl P ops X2 Q p X1 (c.drop m))) (l2 := theOps ops (c.take m)) (by intro e a w hne he; cases e <;> first | exact he | exact absurd rfl hne) (fun a w h => h) _ a w h
        simpa [theOps] using this
    | or x s p _ _ =>
      intro X1 F c pre listed a w hl hsz hok hsub hF hFf hR h
      refine ⟨fun hr => ?_, fun i hi => ?_⟩
      · exfalso
        cases hpc : pre ++ c with
        | nil => rw [hpc] at hl; simp at hl
        | cons q r => rw [hpc] at hR; exact hR.some_ready hops hr
      · obtain ⟨q, hq, rfl⟩ := hR.mem hi
        have hlt := (ready_waits hi).2.1
        have hdis := (List.pairwise_append.1 hR.ord).2.2
        have hstep := hR.step hsz hi
        rw [dropId_append] at hstep
        rcases List.mem_append.1 hq with hqp | hqc
        · -- it floats
          obtain ⟨p1, p2, rfl⟩ := List.append_of_mem hqp
          have hpp := hF.sublist hsub
          have hqf : q.2 = true := hFf q (hsub.subset hqp)
          have hpre : ∀ r ∈ p1, r.2 = true ∧ apartAt ops r.1 q.1 = true := by
            intro r hr
            have hrf := hFf r (hsub.subset (List.mem_append_left _ hr))
            refine ⟨hrf, apart_of_ready hT hR hi (List.mem_append_left _ (List.mem_append_left _ hr)) ?_⟩
            have := ((List.pairwise_append.1 hpp).2.2 r hr q (List.mem_cons_self ..)).1
            simp only [pairOk, hrf, Bool.and_eq_true] at this
            exact this.2
          have hin : ∀ r ∈ p1, r.1 < ops.size := fun r hr => (hR.un r (List.mem_append_left _ (List.mem_append_left _ hr))).1
          have hfront := wpL_ready (D := some X1) rfl hops (i := q.1) (f := true) hlt hin hpre (by rw [← hqf]; exact h)
          have hop := wpL_wpOp2 (Q := Q) (Q' := nx Q _) (fun _ _ h => h) (i := q.1) (o := ops.getD q.1 default) (get_getDo hlt) hfront
          have e1 : dropId q.1 (p1 ++ q :: p2) = p1 ++ p2 := by
            rw [dropId_append, dropId_self (fun r hr e => ((List.pairwise_append.1 hpp).2.2 r hr q (List.mem_cons_self ..)).2 e)]
            have : dropId q.1 (q :: p2) = dropId q.1 p2 := by show List.filter _ _ = _; rw [List.filter_cons_of_neg (by simp)]; rfl
            rw [this, dropId_self (fun r hr e => ((List.pairwise_cons.1 (List.pairwise_append.1 hpp).2.1).1 r hr).2 e.symm)]
          have e2 : dropId q.1 c = c := dropId_self (fun r hr e => (hdis q hqp r hr).2 e.symm)
          rw [e1, e2] at hstep
          refine wpOp_mono (fun a' w' h' => ih (.or x s p) X1 F c (p1 ++ p2) _ a' w' (by simp only [List.length_append, List.length_cons] at hl ⊢; omega) (by simpa using hsz) hok (List.Sublist.trans (List.Sublist.append (List.Sublist.refl _) (List.sublist_cons_self ..)) hsub) hF hFf hstep h'.2) hop
        · -- it is a choice
          obtain ⟨s', h1, h2, h3⟩ := choose (P := P) (X1 := X1) (X2 := X2) (Q := Q) ⟨q, hqc, rfl⟩ (fun r hr => not_tab hT hR hi (List.mem_append_right _ hr)) (.or x s p) [] hok (by simp) (.inr ⟨_, _, _, rfl⟩)
          have hpre : ∀ r ∈ pre, r.2 = true ∧ apartAt ops r.1 q.1 = true := fun r hr => ⟨hFf r (hsub.subset hr), apart_of_ready hT hR hi (List.mem_append_left _ hr) (h2 r (hsub.subset hr))⟩
          have hin : ∀ r ∈ pre, r.1 < ops.size := fun r hr => (hR.un r (List.mem_append_left _ hr)).1
          have happ := wpL_app (Q2 := nx Q (obl P ops X2 Q s' X1 (dropId q.1 c))) (l2 := [(false, ops.getD q.1 default)]) (by intro e a w hne he; cases e <;> first | exact he | exact absurd rfl hne) h3 _ a w h
          have happ' : wpL P ops (some X1) (nx Q (obl P ops X2 Q s' X1 (dropId q.1 c))) (theOps ops (pre ++ (q.1, false) :: [])) a w := by simpa [theOps] using happ
          have hfront := wpL_ready (D := some X1) rfl hops hlt hin hpre happ'
          rw [List.append_nil] at hfront
          have hop := wpL_wpOp2 (Q := Q) (Q' := nx Q _) (fun _ _ h => h) (i := q.1) (o := ops.getD q.1 default) (get_getDo hlt) hfront
          have e1 : dropId q.1 pre = pre := dropId_self (fun r hr e => (hdis r hr q hqc).2 e)
          rw [e1] at hstep
          have hlen : (dropId q.1 c).length + 1 = c.length := by
            obtain ⟨c1, c2, rfl⟩ := List.append_of_mem hqc
            have ho := (List.pairwise_append.1 hR.ord).2.1
            rw [dropId_append, dropId_self (fun r hr e => ((List.pairwise_append.1 ho).2.2 r hr q (List.mem_cons_self ..)).2 e)]
            have : dropId q.1 (q :: c2) = dropId q.1 c2 := by show List.filter _ _ = _; rw [List.filter_cons_of_neg (by simp)]; rfl
            rw [this, dropId_self (fun r hr e => ((List.pairwise_cons.1 (List.pairwise_append.1 ho).2.1).1 r hr).2 e.symm)]
            simp; omega
          exact wpOp_mono (fun a' w' h' => ih s' X1 F (dropId q.1 c) pre _ a' w' (by simp only [List.length_append] at hl ⊢; omega) (by simpa using hsz) h1 hsub hF hFf hstep h'.2) hop
    | re c' p ihp =>
      intro X1 F c pre listed a w hl hsz hok hsub hF hFf hR h
      simp only [plOk, Bool.and_eq_true, List.all_eq_true] at hok
      obtain ⟨⟨⟨⟨⟨_, hlen⟩, h1⟩, h2⟩, h3⟩, h4⟩ := hok
      have hlen := Nat.eq_of_beq_eq_true hlen
      refine ihp X1 F c' pre listed a w (by rw [hl, List.length_append, List.length_append, hlen]) hsz h4 hsub hF hFf ⟨fun q hq => ?_, fun i hi => ?_, ?_, hR.closed⟩ h
      · rcases List.mem_append.1 hq with hq | hq
        · exact hR.un q (List.mem_append_left _ hq)
        · obtain ⟨r, hr, hqr⟩ := List.any_eq_true.1 (h1 q hq)
          have := hR.un r (List.mem_append_right _ hr)
          rwa [← Nat.eq_of_beq_eq_true hqr] at this
      · rcases hR.all i hi with hh | ⟨q, hq, rfl⟩
        · exact .inl hh
        · right
          rcases List.mem_append.1 hq with hq | hq
          · exact ⟨q, List.mem_append_left _ hq, rfl⟩
          · obtain ⟨r, hr, hqr⟩ := List.any_eq_true.1 (h2 q hq)
            exact ⟨r, List.mem_append_right _ hr, (Nat.eq_of_beq_eq_true hqr).symm⟩
      · exact ((pairsOk_spec h3).imp (fun h => ⟨by simpa using h.1, h.2⟩)).sublist (List.Sublist.append hsub (List.Sublist.refl _))
    | weak p ihp =>
      intro X1 F c pre listed a w hl hsz hok hsub hF hFf hR h
      simp only [plOk, Bool.and_eq_true] at hok
      obtain ⟨X, _, hX⟩ := wpL_weakX (K := fun X => obl P ops X2 Q p X c) (theOps ops pre) a w (fun q hq => by
        obtain ⟨r, hr, rfl⟩ := List.mem_map.1 hq
        exact hFf r (hsub.subset hr)) h
      exact ihp X F c pre listed a w hl hsz hok.2 hsub hF hFf hR hX
    | cut p ihp =>
      intro X1 F c pre listed a w hl hsz hok hsub hF hFf hR h
      have hok0 := hok
      simp only [plOk, Bool.and_eq_true, List.all_eq_true, Bool.or_eq_true] at hok
      by_cases hmv : ∀ q ∈ pre, moveAt ops q = true
      · obtain ⟨X, hX⟩ := wpL_movesX (K := fun X => obl P ops X2 Q p X c) (theOps ops pre) a w (fun q hq => by
          obtain ⟨r, hr, rfl⟩ := List.mem_map.1 hq
          have := hmv r hr
          simp only [moveAt, Bool.and_eq_true] at this
          exact this) h
        refine ihp X (F.filter (moveAt ops)) c pre listed a w hl hsz hok.2 ?_ (hF.sublist (List.filter_sublist ..)) (fun q hq => hFf q (List.mem_filter.1 hq).1) hR hX
        have := hsub.filter (moveAt ops)
        rwa [List.filter_eq_self.2 hmv] at this
      · obtain ⟨q0, hq0, hq0m⟩ : ∃ q, q ∈ pre ∧ ¬ moveAt ops q = true := by
          apply Classical.byContradiction
          intro hne
          exact hmv fun q hq => Classical.byContradiction fun hqm => hne ⟨q, hq, hqm⟩
        refine ⟨fun hr => ?_, fun i hi => ?_⟩
        · exfalso
          cases hpc : pre ++ c with
          | nil => rw [hpc] at hl; simp at hl
          | cons q r => rw [hpc] at hR; exact hR.some_ready hops hr
        · obtain ⟨q, hq, rfl⟩ := hR.mem hi
          have hlt := (ready_waits hi).2.1
          have hdis := (List.pairwise_append.1 hR.ord).2.2
          have hstep := hR.step hsz hi
          rw [dropId_append] at hstep
          rcases List.mem_append.1 hq with hqp | hqc
          · obtain ⟨p1, p2, rfl⟩ := List.append_of_mem hqp
            have hpp := hF.sublist hsub
            have hqf : q.2 = true := hFf q (hsub.subset hqp)
            have hpre : ∀ r ∈ p1, r.2 = true ∧ apartAt ops r.1 q.1 = true := by
              intro r hr
              have hrf := hFf r (hsub.subset (List.mem_append_left _ hr))
              refine ⟨hrf, apart_of_ready hT hR hi (List.mem_append_left _ (List.mem_append_left _ hr)) ?_⟩
              have := ((List.pairwise_append.1 hpp).2.2 r hr q (List.mem_cons_self ..)).1
              simp only [pairOk, hrf, Bool.and_eq_true] at this
              exact this.2
            have hin : ∀ r ∈ p1, r.1 < ops.size := fun r hr => (hR.un r (List.mem_append_left _ (List.mem_append_left _ hr))).1
            have hfront := wpL_ready (D := some X1) rfl hops (i := q.1) (f := true) hlt hin hpre (by rw [← hqf]; exact h)
            have hop := wpL_wpOp2 (Q := Q) (Q' := nx Q _) (fun _ _ h => h) (i := q.1) (o := ops.getD q.1 default) (get_getDo hlt) hfront
            have e1 : dropId q.1 (p1 ++ q :: p2) = p1 ++ p2 := by
              rw [dropId_append, dropId_self (fun r hr e => ((List.pairwise_append.1 hpp).2.2 r hr q (List.mem_cons_self ..)).2 e)]
              have : dropId q.1 (q :: p2) = dropId q.1 p2 := by show List.filter _ _ = _; rw [List.filter_cons_of_neg (by simp)]; rfl
              rw [this, dropId_self (fun r hr e => ((List.pairwise_cons.1 (List.pairwise_append.1 hpp).2.1).1 r hr).2 e.symm)]
            have e2 : dropId q.1 c = c := dropId_self (fun r hr e => (hdis q hqp r hr).2 e.symm)
            rw [e1, e2] at hstep
            refine wpOp_mono (fun a' w' h' => ih (.cut p) X1 F c (p1 ++ p2) _ a' w' (by simp only [List.length_append, List.length_cons] at hl ⊢; omega) (by simpa using hsz) hok0 (List.Sublist.trans (List.Sublist.append (List.Sublist.refl _) (List.sublist_cons_self ..)) hsub) hF hFf hstep h'.2) hop
          · exfalso
            rcases hok.1.2 q0 (hsub.subset hq0) with h1 | h1
            · exact hq0m h1
            · exact not_tab hT hR hi (List.mem_append_left _ hq0) (h1 q hqc)
    | stop =>
      intro X1 F c pre listed a w hl hsz hok
      simp [plOk] at hok

def treeOk (ops : Array Oper) (pl : Pl) (c : List (Nat × Bool)) (T : List (Nat × List (Nat × Nat))) : Bool :=
  c.all (fun p => Nat.blt p.1 ops.size && !(waits ops p.1 p.1)) && Nat.beq c.length ops.size && pairsOk (fun p q => !(waits ops p.1 q.1)) c && T.all (fun x => chainOk ops x.1 x.2 []) &&
  ops.toList.all (fun o => noSel o && o.after.all fun e => Nat.blt e.on ops.size || !Region.binds .any e) && (List.range ops.size).all (fun i => c.any fun p => Nat.beq p.1 i) && plOk ops T pl [] c []

theorem wp_tree {id : Nat} {a : Act} {w : World} (hm : P.follows .mixedOrders = true) (X1 X2 : Nat → Prop) (pl : Pl) (c : List (Nat × Bool)) (T : List (Nat × List (Nat × Nat))) (hc : treeOk ops pl c T = true)
    (h : obl P ops X2 Q pl X1 c a { w with drawn := w.drawn + 1 }) : (Code.region id ops true).wp P Q a w := by
  simp only [treeOk, Bool.and_eq_true, List.all_eq_true] at hc
  obtain ⟨⟨⟨⟨⟨⟨k1, k2⟩, k3⟩, k4⟩, k5⟩, k6⟩, k7⟩ := hc
  have hlen := Nat.eq_of_beq_eq_true k2
  have hops : opsOk ops := fun o ho => ⟨(k5 o ho).1, fun e he hb => by
    have := (k5 o ho).2
    have := Array.all_eq_true_iff_forall_mem.1 this e he
    simpa [hb] using this⟩
  have hin : ∀ p ∈ c, p.1 < ops.size := fun p hp => by have := (k1 p hp).1; simpa using this
  refine wp_region_any hm (wpAny_of_tree k4 hops ops.size pl X1 [] c [] _ a _ hlen.symm (by simp) k7 (List.Sublist.refl _) .nil (fun _ h => by cases h) ?_ h)
  refine ⟨fun p hp => ⟨hin p hp, by simp [hin p hp], by have := (k1 p hp).2; simpa using this⟩, fun i hi => .inr ?_, (pairsOk_spec k3).imp (fun h => ⟨by simpa using h.1, h.2⟩), fun j e hj => ?_⟩
  · obtain ⟨p, hp, he⟩ := List.any_eq_true.1 (k6 i (List.mem_range.2 hi))
    exact ⟨p, hp, Nat.eq_of_beq_eq_true he⟩
  · exfalso
    rcases Nat.lt_or_ge j ops.size with h' | h' <;> simp [h'] at hj

theorem q_nx {K : Act → World → Prop} {a : Act} {w : World} (h : K a w) : nx Q K .normal a w := h
variable {X1 : Nat → Prop}
theorem o_re {pl : Pl} {c c' : List (Nat × Bool)} {a : Act} {w : World} (h : obl P ops X2 Q pl X1 c' a w) : obl P ops X2 Q (.re c' pl) X1 c a w := h
theorem o_fl {pl : Pl} {m : Nat} {c : List (Nat × Bool)} {l : List (Bool × Oper)} {a : Act} {w : World} (hl : theOps ops (c.take m) = l) (h : wpL P ops (some X1) (nx Q (obl P ops X2 Q pl X1 (c.drop m))) l a w) : obl P ops X2 Q (.fl m pl) X1 c a w := by
  subst hl; exact h
theorem o_or {s pl : Pl} {x : Nat} {c : List (Nat × Bool)} {o : Oper} {a : Act} {w : World} (hl : ops.getD x default = o) (h : wpL P ops (some X1) (nx Q (obl P ops X2 Q s X1 (dropId x c))) [(false, o)] a w) (k : obl P ops X2 Q pl X1 c a w) : obl P ops X2 Q (.or x s pl) X1 c a w := by
  subst hl; exact ⟨h, k⟩
theorem o_leaf {k : Nat} {c : List (Nat × Bool)} {l1 l2 : List (Bool × Oper)} {a : Act} {w : World} (h1 : theOps ops (c.take k) = l1) (h2 : theOps ops (c.drop k) = l2) (h : wpL P ops (some X1) (ph P ops (some X2) Q l2) l1 a w) : obl P ops X2 Q (.leaf k) X1 c a w := by
  subst h1 h2; exact h
theorem o_weak (X : Nat → Prop) {pl : Pl} {c : List (Nat × Bool)} {a : Act} {w : World} (hX : ∀ b, X b → X1 b) (h : obl P ops X2 Q pl X c a w) : obl P ops X2 Q (.weak pl) X1 c a w := ⟨X, hX, h⟩
theorem o_cut (X : Nat → Prop) {pl : Pl} {c : List (Nat × Bool)} {a : Act} {w : World} (h : obl P ops X2 Q pl X c a w) : obl P ops X2 Q (.cut pl) X1 c a w := ⟨X, h⟩
end Go.Kx
/- Own library, part O: texts become bytes; what keys of labels are. -/
namespace Go.Kx
open Go
variable {P : Program} {ops : Array Oper} {D : Option (Nat → Prop)} {Q : Exit → Act → World → Prop} {w0 w w' : World} {M : List Nat} {H H' : List Ent}
  {a : Act} {n : Nat} {L : List (Nat × Value)} {rest : List (Bool × Oper)} {d : Nat} {ty : TypeId} {pos : String} {aft : Array Edge} {x y z : Operand} {u v r : Value}

/-- The row of a label, and the key that is under it. -/
def rowL (l : List UInt8) : List UInt8 := (pRow 68 [l]).1
def subW (key l : List UInt8) : List UInt8 := hmacW key (rowL l)
@[simp] theorem subW_length (key l : List UInt8) : (subW key l).length = 32 := by simp [subW]
end Go.Kx
/- Own library, part Sw: what the second walk printer cites: entries of bytes in another text. -/
namespace Go.Kx
open Go
variable {P : Program} {ops : Array Oper} {D : Option (Nat → Prop)} {Q : Exit → Act → World → Prop} {w0 w w' : World} {M : List Nat} {H H' : List Ent}
  {a : Act} {n : Nat} {L : List (Nat × Value)} {rest : List (Bool × Oper)} {d : Nat} {ty : TypeId} {pos : String} {aft : Array Edge} {x y z : Operand} {u v r : Value}

theorem wp_treeM {id : Nat} {ops : Array Oper} (hM : Mem w0 M w H) (hm : P.follows .mixedOrders = true) (X1 X2 : Nat → Prop) (pl : Pl) (c : List (Nat × Bool)) (T : List (Nat × List (Nat × Nat))) (hc : treeOk ops pl c T = true)
    (h : ∀ w', Mem w0 M w' H → w'.heap = w.heap → obl P ops X2 Q pl X1 c a w') : (Code.region id ops true).wp P Q a w :=
  wp_tree hm X1 X2 pl c T hc (h _ hM.drew rfl)

/-! ## A slice that is written to and not appended to: what lies behind it in its block is whatever -/

def ownW (v : Value) (es n : Nat) (cs : List Value) : Ent where
  fp := valBlocks v
  ro := []
  holds w := cs.length = n * es ∧ ((v = .slice none 0 0 ∧ n = 0) ∨
    ∃ b c cur T fr, v = .slice (some ⟨b, 0, none⟩) n c ∧ n ≤ c ∧ w.heap[b]? = some (.cells cur T fr) ∧ n * es ≤ cur.size ∧ cur.toList.take (n * es) = cs ∧ Fz fr cur.size)
  loc w w' h hb := by
    refine ⟨h.1, ?_⟩
    rcases h.2 with h | ⟨b, c, cur, T, fr, rfl, h1, h3, h4⟩
    · exact .inl h
    · exact .inr ⟨b, c, cur, T, fr, rfl, h1, (hb b (.inl (by simp [valBlocks]))).trans h3, h4⟩
  old w h b hb := by
    simp only [List.not_mem_nil, or_false] at hb
    rcases h.2 with ⟨rfl, _⟩ | ⟨b', c, cur, T, fr, rfl, h1, h3, h4⟩
    · simp [valBlocks] at hb
    · simp [valBlocks] at hb; subst hb; exact (Array.getElem?_eq_some_iff.1 h3).1

/-- A slice's first elements, and no room behind them. -/
def cutV : Value → Nat → Value
  | .slice p _ _, l => .slice p l l
  | v, _ => v
@[simp] theorem cutV_blocks (v : Value) (l : Nat) : valBlocks (cutV v l) = valBlocks v := by cases v with
  | slice p m c => cases p <;> rfl
  | _ => rfl
end Go.Kx
/- Own library, part Sx: plain laws that the second walk printer's loops need. -/
namespace Go.Kx
open Go

/-! ## Loops that are gone through step by step; parts of blocks as slices; tapes in another text -/
/-! ## Cells in parts are compared; strings -/
end Go.Kx
/- Own library, part Y: counts with labels (33 cells), and lists of them. -/
namespace Go.Kx
open Go
variable {P : Program} {w : World}

abbrev Cl := Nat × List UInt8
def cl (c : Cl) : List Value := .int .u64 (c.1 : Int) :: bv c.2
def cl0 : Cl := (0, List.replicate 32 0)
def OkCl (c : Cl) : Prop := c.2.length = 32 ∧ c.1 < 2 ^ 64

end Go.Kx
