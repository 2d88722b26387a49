/- Own library, part J: arrays as slices, copy into an array; what HMAC of the given program computes. -/
import Derived.Test.YtlieojojahhmmaaKxI
set_option linter.unusedSimpArgs false
set_option linter.unusedVariables false
namespace Go.Kx
open Go
variable {P : Program} {ops : Array Oper} {D : Option (Nat → Prop)} {Q : Exit → Act → World → Prop} {w0 w w' : World} {M : List Nat} {H H' : List Ent}
  {a : Act} {n : Nat} {L : List (Nat × Value)} {rest : List (Bool × Oper)} {d : Nat} {ty : TypeId} {pos : String} {aft : Array Edge} {x y z : Operand} {u v r : Value}

/-- A block that is one array becomes a slice that is owned. -/
theorem Mem.blkOwn {b T es m k : Nat} {cs : List Value} (hM : Mem w0 M w (blk b [cs] [m] T :: H)) (hk : m = k * es) (hm : k ≤ maxLen) : Mem w0 M w (own (.slice (some ⟨b, 0, none⟩) k k) es k cs :: H) := by
  obtain ⟨hl, fr, h1, h2⟩ := hM.get 0 rfl
  have hcl : cs.length = k * es := by simp at hl; omega
  simp only [List.flatten_cons, List.flatten_nil, List.append_nil] at h1 h2
  refine Mem.act (es := [blk b [cs] [m] T]) (es' := [own (.slice (some ⟨b, 0, none⟩) k k) es k cs]) hM rfl rfl rfl (Nat.le_refl _) (fun _ _ _ => rfl) ?_ ?_ ?_ ?_ (List.pairwise_singleton ..)
  · intro e he; rw [List.mem_singleton.1 he]
    exact ⟨hcl, .inr ⟨b, k, cs.toArray, T, fr, rfl, Nat.le_refl _, hm, h1, by simpa using hcl, by rw [← hcl]; simp, by simpa using h2⟩⟩
  · intro e he b' hb; rw [List.mem_singleton.1 he] at hb; exact .inl ⟨_, .head _, hb⟩
  · intro e he b' hb; rw [List.mem_singleton.1 he] at hb; cases hb
  · intro e he b' hb; rw [List.mem_singleton.1 he] at hb; cases hb

/-- An array of bytes, read as a slice. -/
theorem rd_of_arr {b m T : Nat} {bs : List UInt8} (h : (blk b [bv bs] [m] T).holds w) (hm : bs.length = m) : (rd (.slice (some ⟨b, 0, none⟩) m m) 1 bs.length m (bv bs)).holds w := by
  subst hm
  exact rd_of_blk (s := bs.length) h (by simp [rdSeg]) (by omega) (Nat.le_refl _)

theorem bin_xor8 {t : TypeId} {x y : UInt8} : Bin P .xor t (bV x) (bV y) (bV (x ^^^ y)) := bin_of rfl fun w => by
  have e : (BitVec.ofInt IntKind.u8.bits (x.toNat : Int) ^^^ BitVec.ofInt IntKind.u8.bits (y.toNat : Int)).toNat = (x ^^^ y).toNat := by
    show (BitVec.ofInt 8 (x.toNat : Int) ^^^ BitVec.ofInt 8 (y.toNat : Int)).toNat = _
    simp [BitVec.toNat_xor]
  simp only [bV, binOp, Op.intBits]
  rw [if_neg (by simp), e, wrap_u8_ofNat]; simp
theorem bin_or8 {t : TypeId} {x y : UInt8} : Bin P .or t (bV x) (bV y) (bV (x ||| y)) := bin_of rfl fun w => by
  have e : (BitVec.ofInt IntKind.u8.bits (x.toNat : Int) ||| BitVec.ofInt IntKind.u8.bits (y.toNat : Int)).toNat = (x ||| y).toNat := by
    show (BitVec.ofInt 8 (x.toNat : Int) ||| BitVec.ofInt 8 (y.toNat : Int)).toNat = _
    simp [BitVec.toNat_or]
  simp only [bV, binOp, Op.intBits]
  rw [if_neg (by simp), e, wrap_u8_ofNat]; simp

/-- copy into an array's slice. -/
theorem s_copyArr {t t2 e by_ b m c T l l' : Nat} {old cs : List Value} (hE : Env a n L) (hx : ev L x = some (.slice (some ⟨b, 0, none⟩) l l')) (hy : ev L y = some u) (hM : Mem w0 M w (blk b [old] [l] T :: H))
    (hr : (rd u 1 m c cs).holds w) (h1 : One cs) (ht : SlT P t e 1 by_) (hX : ∀ X, D = some X → X b) (hn : Nat.blt d n = true)
    (k : ∀ a' w', Env a' n ((d, .int .i64 ((min m l : Nat) : Int)) :: L) → Mem w0 M w' (blk b [cs.take (min m l) ++ old.drop (min m l)] [l] T :: H) → wpL P ops D Q rest a' w') :
    wpL P ops D Q ((false, ⟨some d, .call { callee := .builtin .copy, args := #[x, y], argTypes := #[t, t2] }, ty, pos, aft, none⟩) :: rest) a w := by
  have hol : old.length = l := by have := (hM.get 0 rfl).1; simpa using this
  have hcl : cs.length = m := by have := hr.1; omega
  have htl : (cs.take (min m l)).length = min m l := by rw [List.length_take]; omega
  obtain ⟨fr, hh, hf, hle, hM'⟩ := blk_store (k := 0) (j := 0) (vs := cs.take (min m l)) (g := old) (o := 0) hM rfl (by omega) (by simp)
  have hone : One (cs.take (min m l)) := fun v hv => h1 v (List.mem_of_mem_take hv)
  have hst := run_storeCells (P := P) (o := 0) (cs.take (min m l)) 0 _ w hh (by simpa using hf) (by simpa using hle) hone
  have hfc := firstCells_rd (P := P) hr (Nat.min_le_left m l)
  have hlen := lenOf_rd (P := P) hr
  have e : wrSeg 0 0 (cs.take (min m l)) [old] = [cs.take (min m l) ++ old.drop (min m l)] := by
    show [wr 0 _ old] = _
    simp [wr, htl]
  rw [e] at hM'
  refine b_val hE hn (v := .int .i64 ((min m l : Nat) : Int)) ?_ (sta_of_setBlk hX) (fun a' hE' => k a' _ hE' hM')
  obtain ⟨hu, hs, _, _⟩ := ht
  simp only [Nat.add_zero] at hst
  simp only [Nat.mul_one] at hfc
  have hmin : Nat.min m l = min m l := rfl
  simp [execOp, resolve, invoke, builtin, hE.eval hx, hE.eval hy, Builtin.copy_, run_underlying hu, run_sizeOf hs, Sem.run_bind, hlen, hmin, hfc, hst]
  rfl

/-! ## HMAC -/

def blockW (key : List UInt8) : List UInt8 :=
  let k := if 64 < key.length then shaW key else key
  k ++ List.replicate (64 - k.length) 0
theorem blockW_length (key : List UInt8) : (blockW key).length = 64 := by
  unfold blockW
  by_cases h : 64 < key.length
  · simp [h]
  · simp [h]; omega

def padI (B : List UInt8) (x : UInt8) (i : Nat) : List UInt8 := (B.take i).map (· ^^^ x) ++ B.drop i
theorem padI_length (B : List UInt8) (x : UInt8) (i : Nat) : (padI B x i).length = B.length := by simp [padI]; omega
theorem padI_get {B : List UInt8} {x : UInt8} {i : Nat} (h : i < B.length) : (padI B x i).getD i 0 = B.getD i 0 := by
  have : ((B.take i).map (· ^^^ x)).length = i := by simp; omega
  rw [padI, List.getD, List.getElem?_append_right (Nat.le_of_eq this), this, List.getElem?_drop]
  simp
theorem padI_set {B : List UInt8} {x : UInt8} {i : Nat} (h : i < B.length) : (padI B x i).set i (B.getD i 0 ^^^ x) = padI B x (i + 1) := by
  have h1 : ((B.take i).map (· ^^^ x)).length = i := by simp; omega
  have h2 : B.drop i = B.getD i 0 :: B.drop (i + 1) := by
    rw [List.drop_eq_getElem_cons h]; simp [h]
  have h3 : B.take (i + 1) = B.take i ++ [B.getD i 0] := by
    rw [List.take_succ_eq_append_getElem h]; simp [h]
  rw [padI, List.set_append_right _ _ (by omega), h1, h2, Nat.sub_self, List.set_cons_zero, padI, h3]
  simp

def padW (key : List UInt8) (x : UInt8) : List UInt8 := (blockW key).map (· ^^^ x)
@[simp] theorem padW_length (key : List UInt8) (x : UInt8) : (padW key x).length = 64 := by simp [padW, blockW_length]
theorem padI_all (key : List UInt8) (x : UInt8) : padI (blockW key) x 64 = padW key x := by
  have := blockW_length key
  simp [padI, padW, List.take_of_length_le (Nat.le_of_eq this), List.drop_of_length_le (Nat.le_of_eq this)]

def hmacW (key msg : List UInt8) : List UInt8 := shaW (padW key 92 ++ shaW (padW key 54 ++ msg))
@[simp] theorem hmacW_length (key msg : List UInt8) : (hmacW key msg).length = 32 := by simp [hmacW]

/-- What stretching lays, one tag behind the other. -/
def strT (key b : List UInt8) : Nat → List UInt8
  | 0 => []
  | i + 1 => hmacW key (strT key b i ++ b ++ [UInt8.ofNat (i + 1)])
def strO (key b : List UInt8) : Nat → List UInt8
  | 0 => []
  | i + 1 => strO key b i ++ strT key b (i + 1)
theorem strT_length (key b : List UInt8) (i : Nat) : (strT key b i).length = if i = 0 then 0 else 32 := by cases i <;> simp [strT]
@[simp] theorem strO_length (key b : List UInt8) : ∀ i, (strO key b i).length = 32 * i
  | 0 => rfl
  | i + 1 => by simp [strO, strO_length key b i, strT]; omega

theorem flat_succ {ps : List (List UInt8)} {i : Nat} (h : i < ps.length) : (ps.take (i + 1)).flatten = (ps.take i).flatten ++ ps.getD i [] := by
  rw [List.take_succ_eq_append_getElem h, List.flatten_append, List.flatten_singleton]; simp [List.getD, h]
theorem flat_le (ps : List (List UInt8)) (i : Nat) : (ps.take i).flatten.length ≤ ps.flatten.length := by
  have : ps.flatten = (ps.take i).flatten ++ (ps.drop i).flatten := by rw [← List.flatten_append, List.take_append_drop]
  rw [this]; simp

theorem orAll (a b : UInt8) : (a ||| b = 0) ↔ a = 0 ∧ b = 0 := by
  constructor
  · intro h
    have h1 : a.toNat ||| b.toNat = 0 := by rw [← UInt8.toNat_or, h]; rfl
    have h2 : a.toNat = 0 ∧ b.toNat = 0 := by
      constructor <;> apply Nat.eq_of_testBit_eq <;> intro i <;> have := congrArg (·.testBit i) h1 <;> simp only [Nat.testBit_or, Nat.zero_testBit, Bool.or_eq_false_iff] at this ⊢
      · exact this.1
      · exact this.2
    exact ⟨UInt8.toNat_inj.1 h2.1, UInt8.toNat_inj.1 h2.2⟩
  · rintro ⟨rfl, rfl⟩; rfl

theorem xor_zero (a b : UInt8) : a ^^^ b = 0 ↔ a = b := UInt8.xor_eq_zero_iff

/-- All differences, one over the other. -/
def diffW (a b : List UInt8) : Nat → UInt8
  | 0 => 0
  | i + 1 => diffW a b i ||| (a.getD i 0 ^^^ b.getD i 0)
theorem diffW_zero {a b : List UInt8} : ∀ n : Nat, diffW a b n = 0 ↔ ∀ i, i < n → a.getD i 0 = b.getD i 0
  | 0 => by simp [diffW]
  | n + 1 => by
    rw [diffW, orAll, diffW_zero n, xor_zero]
    constructor
    · rintro ⟨h1, h2⟩ i hi
      rcases Nat.lt_or_eq_of_le (Nat.le_of_lt_succ hi) with h | rfl
      · exact h1 i h
      · exact h2
    · intro h
      exact ⟨fun i hi => h i (by omega), h n (by omega)⟩
theorem getD_all_eq {a b : List UInt8} (h : a.length = b.length) : (∀ i, i < a.length → a.getD i 0 = b.getD i 0) ↔ a = b := by
  constructor
  · intro k
    apply List.ext_getElem h
    intro i h1 h2
    have := k i h1
    simpa [h1, h2] using this
  · rintro rfl i _; rfl

end Go.Kx
