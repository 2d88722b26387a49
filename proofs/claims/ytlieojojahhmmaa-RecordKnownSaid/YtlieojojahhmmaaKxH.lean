/- Own library, part H: words of 32 bits, arrays that are indexed by what is not known, closures' cells, drawn regions in two phases over memory. -/
import Derived.Test.YtlieojojahhmmaaKxB2
import Derived.Test.YtlieojojahhmmaaKxW
import Derived.Test.YtlieojojahhmmaaKxX
set_option linter.unusedSimpArgs false
set_option linter.unusedVariables false
namespace Go.Kx
open Go
variable {P : Program} {Q : Exit → Act → World → Prop} {D : Option (Nat → Prop)} {ops : Array Oper} {rest : List (Bool × Oper)} {a : Act} {w w0 w' : World} {n d : Nat} {L : List (Nat × Value)} {x y : Operand} {v u : Value} {M : List Nat} {H : List Ent} {ty : TypeId} {pos : String} {aft : Array Edge}

theorem wp_drawnM2 {id : Nat} {ops : Array Oper} (hM : Mem w0 M w H) (hm : P.follows .mixedOrders = true) (X1 X2 : Nat → Prop) (c1 c2 : List (Nat × Bool)) (T : List (Nat × List (Nat × Nat)))
    (hc : canonOk ops (c1 ++ c2) T = true) (hx : crossOk ops c1 c2 T = true) {l1 l2 : List (Bool × Oper)} (hl1 : theOps ops c1 = l1) (hl2 : theOps ops c2 = l2)
    (h : ∀ w', Mem w0 M w' H → w'.heap = w.heap → wpL P ops (some X1) (ph P ops (some X2) Q l2) l1 a w') : (Code.region id ops true).wp P Q a w :=
  wp_drawn2 hm X1 X2 c1 c2 T hc hx hl1 hl2 (h _ hM.drew rfl)

theorem wp_forkM {id : Nat} {ops : Array Oper} (hM : Mem w0 M w H) (hm : P.follows .mixedOrders = true) (X1 X2 : Nat → Prop) (pre : List (Nat × Bool)) (x y : Nat × Bool) (post c2 : List (Nat × Bool)) (T : List (Nat × List (Nat × Nat)))
    (hc : forkOk ops pre x y post c2 T = true) (hx : crossOk ops (pre ++ x :: y :: post) c2 T = true) {l1 l1' l2 : List (Bool × Oper)} (hl1 : theOps ops (pre ++ x :: y :: post) = l1) (hl1' : theOps ops (pre ++ y :: x :: post) = l1') (hl2 : theOps ops c2 = l2)
    (h : ∀ w', Mem w0 M w' H → w'.heap = w.heap → wpL P ops (some X1) (ph P ops (some X2) Q l2) l1 a w') (h' : ∀ w', Mem w0 M w' H → w'.heap = w.heap → wpL P ops (some X1) (ph P ops (some X2) Q l2) l1' a w') :
    (Code.region id ops true).wp P Q a w :=
  wp_fork hm X1 X2 pre x y post c2 T hc hx hl1 hl1' hl2 (h _ hM.drew rfl) (h' _ hM.drew rfl)

theorem q_ph {l : List (Bool × Oper)} (h : wpL P ops D Q l a w) : ph P ops D Q l .normal a w := h

/-! ## Words -/

def wV (x : UInt32) : Value := .int .u32 (x.toNat : Int)
def wd (l : List UInt32) : List Value := l.map wV
@[simp] theorem wd_length (l : List UInt32) : (wd l).length = l.length := by simp [wd]
theorem wd_append (a b : List UInt32) : wd (a ++ b) = wd a ++ wd b := by simp [wd]
theorem wd_one (l : List UInt32) : One (wd l) := fun v hv => by
  obtain ⟨x, _, rfl⟩ := List.mem_map.1 hv; rfl
theorem wd_get {l : List UInt32} {j : Nat} (h : j < l.length) : (wd l)[j]? = some (wV (l.getD j 0)) := by simp [wd, h]
theorem wd_set {l : List UInt32} {j : Nat} {x : UInt32} : (wd l).set j (wV x) = wd (l.set j x) := by simp [wd, List.map_set]
theorem bv_get {l : List UInt8} {j : Nat} (h : j < l.length) : (bv l)[j]? = some (bV (l.getD j 0)) := by simp [bv, h]
theorem bv_set' {l : List UInt8} {j : Nat} {x : UInt8} : (bv l).set j (bV x) = bv (l.set j x) := by simp [bv, List.map_set]

theorem bv_setI {l : List UInt8} {j : Nat} {x : UInt8} : (bv l).set j (.int .u8 (x.toNat : Int)) = bv (l.set j x) := bv_set'

theorem wrap_u32_ofNat (m : Nat) : IntKind.u32.wrap (m : Int) = ((UInt32.ofNat m).toNat : Int) := by
  rw [IntKind.wrap_u32]; simp

theorem bin_add32 {t : TypeId} {x y : UInt32} : Bin P .add t (wV x) (wV y) (wV (x + y)) :=
  bin_add (by
    have := wrap_u32_ofNat (x.toNat + y.toNat)
    rw [Int.natCast_add] at this
    rw [this, UInt32.ofNat_add]; simp)
theorem bin_mul32 {t : TypeId} {x y : UInt32} : Bin P .mul t (wV x) (wV y) (wV (x * y)) :=
  bin_mul (by
    have := wrap_u32_ofNat (x.toNat * y.toNat)
    rw [Int.natCast_mul] at this
    rw [this, UInt32.ofNat_mul]; simp)

theorem wrap_u32_lt {m : Nat} (h : m < 2 ^ 32) : IntKind.u32.wrap (m : Int) = (m : Int) := by
  rw [wrap_u32_ofNat, UInt32.toNat_ofNat_of_lt' h]

theorem bin_xor32 {t : TypeId} {x y : UInt32} : Bin P .xor t (wV x) (wV y) (wV (x ^^^ y)) := bin_of rfl fun w => by
  have e : (BitVec.ofInt IntKind.u32.bits (x.toNat : Int) ^^^ BitVec.ofInt IntKind.u32.bits (y.toNat : Int)).toNat = (x ^^^ y).toNat := by
    show (BitVec.ofInt 32 (x.toNat : Int) ^^^ BitVec.ofInt 32 (y.toNat : Int)).toNat = _
    simp [BitVec.toNat_xor]
  simp only [wV, binOp, Op.intBits]
  rw [if_neg (by simp), e, wrap_u32_lt (UInt32.toNat_lt _)]; rfl
theorem bin_and32 {t : TypeId} {x y : UInt32} : Bin P .and t (wV x) (wV y) (wV (x &&& y)) := bin_of rfl fun w => by
  have e : (BitVec.ofInt IntKind.u32.bits (x.toNat : Int) &&& BitVec.ofInt IntKind.u32.bits (y.toNat : Int)).toNat = (x &&& y).toNat := by
    show (BitVec.ofInt 32 (x.toNat : Int) &&& BitVec.ofInt 32 (y.toNat : Int)).toNat = _
    simp [BitVec.toNat_and]
  simp only [wV, binOp, Op.intBits]
  rw [if_neg (by simp), e, wrap_u32_lt (UInt32.toNat_lt _)]; rfl
theorem bin_or32 {t : TypeId} {x y : UInt32} : Bin P .or t (wV x) (wV y) (wV (x ||| y)) := bin_of rfl fun w => by
  have e : (BitVec.ofInt IntKind.u32.bits (x.toNat : Int) ||| BitVec.ofInt IntKind.u32.bits (y.toNat : Int)).toNat = (x ||| y).toNat := by
    show (BitVec.ofInt 32 (x.toNat : Int) ||| BitVec.ofInt 32 (y.toNat : Int)).toNat = _
    simp [BitVec.toNat_or]
  simp only [wV, binOp, Op.intBits]
  rw [if_neg (by simp), e, wrap_u32_lt (UInt32.toNat_lt _)]; rfl

def shrW (x : UInt32) (k : Nat) : UInt32 := UInt32.ofNat (x.toNat / 2 ^ k)
def shlW (x : UInt32) (k : Nat) : UInt32 := UInt32.ofNat (x.toNat * 2 ^ k)

theorem bin_shr32 {t : TypeId} {x : UInt32} {k' : IntKind} {s : Nat} {j : Int} (hj : j = (s : Int)) (hs : s ≤ 32) : Bin P .shr t (wV x) (.int k' j) (wV (shrW x s)) := by
  have h := bin_shr_nat (P := P) (t := t) (k := .u32) (k' := k') (m := x.toNat) hj hs
  have e : (shrW x s).toNat = x.toNat / 2 ^ s := UInt32.toNat_ofNat_of_lt' (Nat.lt_of_le_of_lt (Nat.div_le_self _ _) x.toNat_lt)
  unfold wV; rw [e]; exact h
theorem bin_shl32 {t : TypeId} {x : UInt32} {k' : IntKind} {s : Nat} {j : Int} (hj : j = (s : Int)) (hs : s ≤ 32) : Bin P .shl t (wV x) (.int k' j) (wV (shlW x s)) := bin_of rfl fun w => by
  subst hj
  have h1 : ¬ ((s : Int) < 0) := by omega
  have h2 : min (s : Int).toNat IntKind.u32.bits = s := by show min s 32 = s; omega
  simp only [wV, binOp, Op.shift, h1, if_false, h2]
  have e : (x.toNat : Int) * 2 ^ s = ((x.toNat * 2 ^ s : Nat) : Int) := by simp
  rw [e, wrap_u32_ofNat]; rfl

/-! ## Arrays -/

theorem cellsAt_elem {b m T j : Nat} {cs : List Value} (h : (blk b [cs] [m] T).holds w) (hj : cs[j]? = some v) : (cellsAt (.pointer (some ⟨b, j, none⟩)) [v]).holds w := by
  obtain ⟨hm, fr, hh, hf⟩ := h
  refine ⟨b, j, rfl, (Array.getElem?_eq_some_iff.1 hh).1, fun i x hx => ?_⟩
  cases i with
  | zero =>
    simp only [List.getElem?_cons_zero, Option.some.injEq] at hx
    subst hx
    rw [Nat.add_zero, cell_of_row w b j _ T fr hh]
    simpa using hj
  | succ i => simp at hx

theorem s_loadIdx {t b o m T j : Nat} {cs : List Value} (hE : Env a n L) (hx : ev L x = some (.pointer (some ⟨b, o, none⟩))) (ho : o = j) (hB : (blk b [cs] [m] T).holds w) (hj : cs[j]? = some v) (ht : OneT P t)
    (hX : ∀ X, D = some X → ¬ X b) (hn : Nat.blt d n = true) (k : ∀ a', Env a' n ((d, v) :: L) → wpL P ops D Q rest a' w) : wpL P ops D Q ((true, ⟨some d, .load t x, ty, pos, aft, none⟩) :: rest) a w := by
  subst ho
  exact s_loadAt1 hE hx (cellsAt_elem hB hj) ht (fun X hD b' hb => by simp [valBlocks] at hb; subst hb; exact hX X hD) hn k

theorem cellsAt_part {b j : Nat} {cs : List Value} (h : (cellsAt (.pointer (some ⟨b, 0, none⟩)) cs).holds w) (hj : cs[j]? = some v) : (cellsAt (.pointer (some ⟨b, j, none⟩)) [v]).holds w := by
  obtain ⟨b', o', e, h2, h3⟩ := h
  cases e
  refine ⟨b, j, rfl, h2, fun i x hx => ?_⟩
  cases i with
  | zero =>
    simp only [List.getElem?_cons_zero, Option.some.injEq] at hx
    subst hx
    have := h3 j v hj
    rwa [Nat.zero_add] at this
  | succ i => simp at hx

theorem s_loadCells {t b o j : Nat} {cs : List Value} (hE : Env a n L) (hx : ev L x = some (.pointer (some ⟨b, o, none⟩))) (ho : o = j) (hB : (cellsAt (.pointer (some ⟨b, 0, none⟩)) cs).holds w) (hj : cs[j]? = some v) (ht : OneT P t)
    (hX : ∀ X, D = some X → ¬ X b) (hn : Nat.blt d n = true) (k : ∀ a', Env a' n ((d, v) :: L) → wpL P ops D Q rest a' w) : wpL P ops D Q ((true, ⟨some d, .load t x, ty, pos, aft, none⟩) :: rest) a w := by
  subst ho
  exact s_loadAt1 hE hx (cellsAt_part hB hj) ht (fun X hD b' hb => by simp [valBlocks] at hb; subst hb; exact hX X hD) hn k

theorem s_storeIdx {t b o j m T : Nat} {cs : List Value} (hE : Env a n L) (hx : ev L x = some (.pointer (some ⟨b, o, none⟩))) (ho : o = j) (hy : ev L y = some u) (hM : Mem w0 M w (blk b [cs] [m] T :: H))
    (hv : u.cells = #[u]) (h1 : u.oneCell' = true) (ht : (P.info? t).map (·.size) = some 1) (hj : j < cs.length)
    (hX : ∀ X, D = some X → X b) (kk : ∀ w', Mem w0 M w' (blk b [cs.set j u] [m] T :: H) → wpL P ops D Q rest a w') : wpL P ops D Q ((false, ⟨none, .store t x y, ty, pos, aft, none⟩) :: rest) a w := by
  subst ho
  exact s_store (j := o) 0 (vs := [u]) (g := cs) hE hx hy hM hv ht rfl (one1 h1) rfl (by simp only [List.length_singleton]; omega) (by simp) (show [wr o [u] cs] = _ by rw [wr_set hj]) hX kk

theorem s_index1 {t l e j : Nat} {i : Int} {k' : IntKind} {cs : List Value} (hE : Env a n L) (hx : ev L x = some (.agg cs.toArray)) (hy : ev L y = some (.int k' i)) (hu : P.underlying t = some (.array l e)) (ho : OneT P e)
    (hi : i = (j : Int)) (hj : j < l) (hv : cs[j]? = some v) (hn : Nat.blt d n = true)
    (k : ∀ a', Env a' n ((d, v) :: L) → wpL P ops D Q rest a' w) : wpL P ops D Q ((true, ⟨some d, .index t x y, ty, pos, aft, none⟩) :: rest) a w := by
  subst hi
  refine s_val hE hn (Flo.of_all (fun w => ?_) w) k
  have h1 : (0 : Int) ≤ j ∧ (j : Int) < l := ⟨by omega, by omega⟩
  obtain ⟨⟨td, h2, h3⟩, h4⟩ := ho
  simp only [execOp, hE.eval hx, hE.eval hy, Instr.index, asIntOf, Sem.run_bind, Sem.run_pure, Result.andThen_ok, run_underlying hu, h1, and_self, if_true, run_sizeOf h4, part, run_isAgg h2, h3, Bool.false_eq_true, if_false, Int.toNat_natCast, Nat.mul_one, List.getElem?_toArray, hv]

theorem s_makeFn {fn : Fn} {xs : List Operand} {vs : List Value} (hE : Env a n L) (hv : evL L xs = some vs) (hn : Nat.blt d n = true) (k : ∀ a', Env a' n ((d, .func fn #[] vs.toArray) :: L) → wpL P ops D Q rest a' w) :
    wpL P ops D Q ((true, ⟨some d, .makeFunc fn #[] xs.toArray, ty, pos, aft, none⟩) :: rest) a w :=
  s_makeFunc hE hn (fun a' h => k a' (by
    have e : (xs.toArray.map a.eval) = vs.toArray := by rw [← hE.evals hv]; simp
    rw [e] at h
    simpa using h))

theorem s_calldynL {f : FuncId} {xs : List Operand} {ts : Array TypeId} {vs capl : List Value} {R : Ending → World → Prop} (hE : Env a n L) (hx : ev L x = some (.func (.func f) #[] capl.toArray)) (hv : evL L xs = some vs) (hf : ∀ args w, (callFunc f args).run P w = .ok (.enter f args) w)
    (hc : Calls P f (vs ++ capl).toArray w R) (hn : Nat.blt d n = true)
    (k : ∀ e w', R e w' → ∃ v, e = .returned v ∧ Sta D w w' ∧ ∀ a', Env a' n ((d, v) :: L) → wpL P ops D Q rest a' w') :
    wpL P ops D Q ((false, ⟨some d, .call { callee := .value x, args := xs.toArray, argTypes := ts }, ty, pos, aft, none⟩) :: rest) a w :=
  s_calldyn hE hx hv hf (by simpa using hc) hn k
end Go.Kx
