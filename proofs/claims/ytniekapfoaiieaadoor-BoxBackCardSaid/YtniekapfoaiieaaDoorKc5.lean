/- Own library: parts KxFm, KxHn, KxK, KxK2, KxK3. -/
import Derived.Test.YtniekapfoaiieaaDoorKc4
import Derived.Lib.LaidTab
import Derived.Lib.ItoaNum
import Derived.Lib.ItoaMem
import Derived.Lib.ItoaLen
import Derived.Shelf.Strconv.Itoa2
set_option linter.unusedSimpArgs false
set_option linter.unusedVariables false
/- Own library, part Fm: numbers as decimal texts. -/
set_option linter.unusedSimpArgs false
namespace Go.Kx
open Go
variable {P : Program} {w w' : World}
abbrev decW (u : Nat) : List UInt8 := Lib.decDigits u
/-- A table of the library's, where its variable lies. -/
def tabE (P : Program) (g : Nat) (name : String) (k : IntKind) (zs : List Int) : Ent where
  fp := []
  ro := [g]
  holds w := g < w.heap.size ∧ P.globalNamed name = some g ∧ Lib.TabIs P w name k zs
  loc w w' h hb := by
    obtain ⟨h1, h2, h3⟩ := h
    have e := hb g (.inr (.head _))
    refine ⟨?_, h2, ?_⟩
    · rw [Array.getElem?_eq_getElem h1] at e
      exact (Array.getElem?_eq_some_iff.1 e).1
    · unfold Lib.TabIs World.var? at *
      simp only [h2, Option.bind_some] at *
      rw [e]; exact h3
  old w h b hb := by
    simp at hb; subst hb; exact h.1
theorem tabE_of_laid {name : String} {k : IntKind} {zs : List Int} {rest : List (String × DataW Unit)} {g : Nat} {t e : TypeId} {n : Nat} {d : DataW Unit} {W : World}
    (hg : P.globalNamed name = some g) (hty : (P.globals[g]?).map (·.type) = some t) (ht : P.underlying t = some (.array n e)) (he : P.underlying e = some (.int k)) (hce : P.cellsOf e = 1) (hct : P.cellsOf t = n) (hd : d = Lib.tabData k zs)
    (h : laidMet P ((name, d) :: rest) W) : (tabE P g name k zs).holds W := by
  subst hd
  have hT := Lib.tabIs_of_head hg hty ht he hce hct h
  refine ⟨?_, hg, hT⟩
  have h' := hT
  unfold Lib.TabIs World.var? at h'
  simp only [hg, Option.bind_some] at h'
  rcases Nat.lt_or_ge g W.heap.size with h1 | h1
  · exact h1
  · rw [Array.getElem?_eq_none h1] at h'; simp at h'
abbrev enc8 : UInt8 → Value := fun b => Value.int .u8 (b.toNat : Int)
theorem holds_of_blk {b T nd : Nat} {old : List UInt8} (hB : (blk b [bv old] [24] T).holds w) (hl : old.length = 24) (hn : nd ≤ 24) : Sort.Holds enc8 w b 0 (old.take nd).toArray := by
  obtain ⟨hm, fr, hh, hf⟩ := hB
  intro j hj
  have hj' : j < nd := by simpa [hl, Nat.min_eq_left hn] using hj
  refine ⟨?_, ?_⟩
  · rw [cell_of_row w b (0 + j) _ T fr hh]
    have : (bv old)[j]? = some (bV (old.getD j 0)) := bv_get (by omega)
    simp only [List.flatten_cons, List.flatten_nil, List.append_nil, Nat.zero_add]
    simp only [List.getElem?_toArray, this]
    congr 2
    simp [enc8, bV, List.getD, List.getElem?_take, hj', show j < old.length by omega]
  · unfold World.frozen?
    simp only [hh]
    have hlen : ([bv old].flatten).length = 24 := by simp [hl]
    rw [hlen] at hf
    rcases hf with hf | hf
    · simp; omega
    · simp; omega
def digsN (u nd : Nat) : List UInt8 := (List.range nd).map fun t => Lib.dg u (nd - 1 - t)
theorem digsN_len (u nd : Nat) : (digsN u nd).length = nd := by simp [digsN]
theorem digsN_dec (u : Nat) : digsN u (Lib.nDigits u) = decW u := (Lib.decDigits_eq u).symm
theorem putRow_blk {b T nd n u v' : Nat} {old : List UInt8} {dk : Array UInt8} (hB : (blk b [bv old] [24] T).holds w) (hl : old.length = 24) (hn : nd ≤ 24) (hI : Lib.FmtInv nd u 0 v' dk) :
    Mem w [b] ((Sort.putRow enc8 w b 0 dk).drewN n) [blk b [bv (digsN u nd ++ old.drop nd)] [24] T] := by
  obtain ⟨hm, fr, hh, hf⟩ := hB
  have hcells : (Sort.putCells enc8 0 dk (bv old).toArray).toList = bv (digsN u nd ++ old.drop nd) := by
    apply List.ext_getElem?
    intro i
    simp only [Sort.putCells, Array.toList_mapIdx, List.getElem?_mapIdx]
    by_cases hi : i < 24
    · have h1 : (bv old)[i]? = some (bV (old.getD i 0)) := bv_get (by omega)
      have hlen : (digsN u nd ++ old.drop nd).length = 24 := by simp [digsN_len, hl]; omega
      rw [h1, bv_get (l := digsN u nd ++ old.drop nd) (by omega), Option.map_some]
      congr 1
      by_cases hd : i < nd
      · rw [if_pos ⟨Nat.zero_le _, by rw [hI.size]; omega⟩, Nat.sub_zero, hI.done i (Nat.zero_le _) hd]
        simp [enc8, bV, List.getD, List.getElem?_append, digsN_len, hd, digsN]
      · rw [if_neg (by rw [hI.size]; omega)]
        simp [List.getD, List.getElem?_append, digsN_len, hd, List.getElem?_drop, show nd + (i - nd) = i by omega]
    · rw [List.getElem?_eq_none (by simp; omega), List.getElem?_eq_none (by simp [digsN_len]; omega)]; rfl
  have hheap : ∀ b', ((Sort.putRow enc8 w b 0 dk).drewN n).heap[b']? = if b = b' then (w.heap[b']?).map (Sort.onCells (Sort.putCells enc8 0 dk)) else w.heap[b']? := by
    intro b'
    show (w.heap.modify b (Sort.onCells (Sort.putCells enc8 0 dk)))[b']? = _
    rw [Array.getElem?_modify]
  refine ⟨rfl, rfl, rfl, ?_, ?_, ?_, ?_, ?_, List.pairwise_singleton ..⟩
  · show w.heap.size ≤ (w.heap.modify b (Sort.onCells (Sort.putCells enc8 0 dk))).size
    simp
  · intro b' _ hb'
    rw [hheap, if_neg (fun e => hb' (by simp [e]))]
  · intro e he
    rw [List.mem_singleton.1 he]
    refine ⟨by simp [digsN_len, hl]; omega, fr, ?_, ?_⟩
    · rw [hheap, if_pos rfl, hh]
      simp only [Option.map_some, Sort.onCells, List.flatten_cons, List.flatten_nil, List.append_nil]
      congr 2
      exact Array.toList_inj.1 (by simpa using hcells)
    · have e1 : ([bv old].flatten).length = 24 := by simp [hl]
      have e2 : ([bv (digsN u nd ++ old.drop nd)].flatten).length = 24 := by simp [digsN_len, hl]; omega
      rw [e2]; rw [e1] at hf; exact hf
  · intro e he x hx
    rw [List.mem_singleton.1 he] at hx
    exact .inl hx
  · intro e he x hx
    rw [List.mem_singleton.1 he] at hx; cases hx
theorem decW_len (u : Nat) (h : u < 18446744073709551616) : (decW u).length ≤ 20 := by rw [Lib.decDigits_length]; exact Lib.nDigits_le20 u h
/-! ## Boxes -/
def padT : List UInt8 := [112, 97, 100]
def sealT : List UInt8 := [115, 101, 97, 108]
def boxL (l q : List UInt8) (n : Nat) : List UInt8 := (((l ++ [32]) ++ q) ++ [32]) ++ decW n
def maskB (k l : List UInt8) (n : Nat) : List UInt8 := subW k (boxL l padT n)
def sealB (k l : List UInt8) (n : Nat) : List UInt8 := subW k (boxL l sealT n)
@[simp] theorem maskB_len (k l : List UInt8) (n : Nat) : (maskB k l n).length = 32 := subW_length ..
@[simp] theorem sealB_len (k l : List UInt8) (n : Nat) : (sealB k l n).length = 32 := subW_length ..
def tagB (k l : List UInt8) (n : Nat) (d : List UInt8) : List UInt8 := hmacW (sealB k l n) (plT 66 d)
@[simp] theorem tagB_len (k l : List UInt8) (n : Nat) (d : List UInt8) : (tagB k l n d).length = 32 := hmacW_length ..
def wrapD (k l : List UInt8) (n : Nat) (x : List UInt8) : List UInt8 := xorW x (maskB k l n)
theorem xorW_len {x y : List UInt8} (hx : x.length = 32) (hy : y.length = 32) : (xorW x y).length = 32 := by simp [xorW, hx, hy]
theorem wrapD_len {k l x : List UInt8} {n : Nat} (h : x.length = 32) : (wrapD k l n x).length = 32 := xorW_len h (maskB_len ..)
def unwB (k l : List UInt8) (n : Nat) (d t : List UInt8) : Bool := decide (tagB k l n d = t)
def unwK (k l : List UInt8) (n : Nat) (d t : List UInt8) : List UInt8 := if unwB k l n d t then wrapD k l n d else List.replicate 32 0
def unwE (k l : List UInt8) (n : Nat) (d t : List UInt8) : Nat := if unwB k l n d t then 0 else 12
theorem unwK_len {k l d t : List UInt8} {n : Nat} (h : d.length = 32) : (unwK k l n d t).length = 32 := by
  unfold unwK; split
  · exact wrapD_len h
  · simp
theorem xorW_back {x y : List UInt8} (h : x.length = y.length) : xorW (xorW x y) y = x := by
  apply List.ext_getElem
  · simp [xorW, h]
  · intro i h1 h2
    simp [xorW, UInt8.xor_assoc]
theorem wrap_back {k l x : List UInt8} {n : Nat} (h : x.length = 32) : wrapD k l n (wrapD k l n x) = x := xorW_back (by rw [h, maskB_len])
theorem unw_ok {k l x : List UInt8} {n : Nat} (h : x.length = 32) : unwK k l n (wrapD k l n x) (tagB k l n (wrapD k l n x)) = x ∧ unwE k l n (wrapD k l n x) (tagB k l n (wrapD k l n x)) = 0 := by
  simp [unwK, unwE, unwB, wrap_back h]
theorem xor_cancel (a b p : UInt8) : (a ^^^ p) ^^^ (b ^^^ p) = a ^^^ b := by
  rw [UInt8.xor_assoc, ← UInt8.xor_assoc p b p, UInt8.xor_comm p b, UInt8.xor_assoc b p p, UInt8.xor_self, UInt8.xor_zero]
/-! ## The last digits of a number -/
def tailD (n : Nat) : Nat → List UInt8
  | 0 => []
  | i + 1 => UInt8.ofNat (48 + n / 10 ^ i % 10) :: tailD n i
@[simp] theorem tailD_len (n i : Nat) : (tailD n i).length = i := by
  induction i with
  | zero => rfl
  | succ i ih => simp [tailD, ih]
/-! ## Boxes, read -/
def getBd (b : List UInt8) : List UInt8 := if 64 ≤ b.length then b.take 32 else List.replicate 32 0
def getBt (b : List UInt8) : List UInt8 := if 64 ≤ b.length then (b.drop 32).take 32 else List.replicate 32 0
def getBe (b : List UInt8) : Nat := if 64 ≤ b.length then 0 else 4
theorem getB_put {d t r : List UInt8} (hd : d.length = 32) (ht : t.length = 32) : getBd ((d ++ t) ++ r) = d ∧ getBt ((d ++ t) ++ r) = t ∧ getBe ((d ++ t) ++ r) = 0 ∧ ((d ++ t) ++ r).drop 64 = r := by
  have hl : 64 ≤ ((d ++ t) ++ r).length := by simp; omega
  refine ⟨?_, ?_, ?_, ?_⟩
  · rw [getBd, if_pos hl, List.append_assoc, List.take_left' hd]
  · rw [getBt, if_pos hl, List.append_assoc, List.drop_left' hd, List.take_left' ht]
  · rw [getBe, if_pos hl]
  · rw [List.drop_left' (by simp; omega)]
theorem wrap_xor {k l x y : List UInt8} {n i : Nat} (hx : x.length = 32) (hy : y.length = 32) (hi : i < 32) : (wrapD k l n x).getD i 0 ^^^ (wrapD k l n y).getD i 0 = x.getD i 0 ^^^ y.getD i 0 := by
  have hm := maskB_len k l n
  rw [wrapD, wrapD, xorW_get (by omega) (by omega), xorW_get (by omega) (by omega), xor_cancel]
theorem decW_7 : decW 7 = [55] := by rw [decW, Lib.decDigits_one (by decide)]; rfl
theorem laidMet_tail {name : String} {d : DataW Unit} {rest : List (String × DataW Unit)} {W : World} (h : laidMet P ((name, d) :: rest) W) : laidMet P rest W := by
  obtain ⟨ps, ⟨g, t, cs, fuel, p, q, h1, h2, h3, h4, h5, h6⟩, hn, hc⟩ := h
  subst h6
  exact ⟨q, h5, (List.nodup_append.1 hn).2.1, fun b off hp => hc b off (List.mem_append.2 (.inr hp))⟩
/-- A join behind a piece of code. -/
theorem wp_seq_j {x y : Code} {Q : Exit → Act → World → Prop} {a : Act} (I : Act → World → Prop) (h : x.wp P (Exit.then I Q) a w) (k : ∀ a w, I a w → y.wp P Q a w) : (Code.seq x y).wp P Q a w := by
  refine wp_seq_k fun K hK => ?_
  refine wp_mono h ?_
  intro e a' w' hq
  cases e with
  | normal => exact hK _ _ (k _ _ hq)
  | exit id => exact hq
  | goto l => exact hq
  | ret => exact hq
  | panic ch => exact hq
  | outgrown => exact hq
end Go.Kx
/- Own library, part Hn: a header that comes in as an argument. -/
set_option linter.unusedSimpArgs false
namespace Go.Kx
open Go
open Go.ChangeShapes Go.WideShapes Go.ChangeAt Go.RowKit
variable {P : Program} {W : World}
theorem split_at {cs : List Value} (n : Nat) : cs = cs.take n ++ cs.drop n := (List.take_append_drop n cs).symm
theorem seg2 {cs : List Value} {a b : Nat} (h : cs.length = a + b) : cs = (cs.drop 0).take a ++ (cs.drop a).take b := by
  conv => lhs; rw [split_at (cs := cs) a]
  rw [List.drop_zero, List.take_of_length_le (l := cs.drop a) (by simp; omega)]
theorem seg3 {cs : List Value} {a b c : Nat} (h : cs.length = a + b + c) : cs = (cs.drop 0).take a ++ ((cs.drop a).take b ++ (cs.drop (a + b)).take c) := by
  conv => lhs; rw [split_at (cs := cs) a, split_at (cs := cs.drop a) b]
  rw [List.drop_zero, List.drop_drop, List.take_of_length_le (l := cs.drop (a + b)) (by simp; omega)]
/-- The fields of a struct of 2, 3, 4 fields. -/
def fieldsL (P : Program) (fs : Array Field) : List (Nat × Nat × Nat) := fs.toList.map (fun f => (f.type, f.offset, P.cellsOf f.type))
theorem dec_f3 {t s t0 t1 t2 n0 n1 n2 o2 : Nat} {fs : Array Field} {R0 R1 R2 : List Value → Prop} (hu : P.underlying t = some (.struct fs)) (hs : P.cellsOf t = s) (hl : fieldsL P fs = [(t0, 0, n0), (t1, n0, n1), (t2, o2, n2)]) (ho : o2 = n0 + n1) (hn : s = n0 + n1 + n2)
    (h0 : Dec P W t0 R0) (h1 : Dec P W t1 R1) (h2 : Dec P W t2 R2) : Dec P W t (fun cs => ∃ a b c, cs = a ++ (b ++ c) ∧ R0 a ∧ R1 b ∧ R2 c) :=
  (dec_structL [(t0, 0, n0, R0), (t1, n0, n1, R1), (t2, o2, n2, R2)] hu hs hl (by
    intro p hp; simp only [List.mem_cons, List.not_mem_nil, or_false] at hp
    rcases hp with rfl | rfl | rfl
    · exact h0
    · exact h1
    · exact h2)).mono fun cs h => ⟨_, _, _, seg3 (h.1.trans hn), h.2 _ (.head _), h.2 _ (.tail _ (.head _)), ho ▸ h.2 _ (.tail _ (.tail _ (.head _)))⟩
theorem dec_a2 {t e es : Nat} {R : List Value → Prop} (hu : P.underlying t = some (.array 2 e)) (hes : P.cellsOf e = es) (hts : P.cellsOf t = 2 * es) (he : Dec P W e R) : Dec P W t (fun cs => ∃ a b, cs = a ++ b ∧ R a ∧ R b) :=
  (dec_array hu hes hts he).mono fun cs h => ⟨_, _, seg2 (a := es) (b := es) (by omega), by have := h.2 0 (by omega); rwa [Nat.zero_mul] at this, by have := h.2 1 (by omega); rwa [Nat.one_mul] at this⟩
/-- The types' numbers. -/
structure HdT (P : Program) where
  (th tg tvs tv tss ts tx tk tt ta ti tb tn te : Nat)
  (fh fg fv fs fx : Array Field)
  uh : P.underlying th = some (.struct fh)
  ug : P.underlying tg = some (.struct fg)
  uvs : P.underlying tvs = some (.array 2 tv)
  uv : P.underlying tv = some (.struct fv)
  uss : P.underlying tss = some (.array 4 ts)
  us : P.underlying ts = some (.struct fs)
  ux : P.underlying tx = some (.struct fx)
  uk : P.underlying tk = some (.array 32 te)
  ut : P.underlying tt = some (.array 32 te)
  ua : P.underlying ta = some (.array 16 te)
  ui : P.underlying ti = some (.int .i64)
  ub : P.underlying tb = some .bool
  un : P.underlying tn = some (.int .u64)
  ue : P.underlying te = some (.int .u8)
  ch : P.cellsOf th = 462
  cg : P.cellsOf tg = 2
  cvs : P.cellsOf tvs = 2 * 66
  cv : P.cellsOf tv = 66
  css : P.cellsOf tss = 4 * 82
  cs : P.cellsOf ts = 82
  cx : P.cellsOf tx = 64
  ck : P.cellsOf tk = 32 * 1
  ct : P.cellsOf tt = 32 * 1
  ca : P.cellsOf ta = 16 * 1
  ce : P.cellsOf te = 1
  lh : fieldsL P fh = [(tg, 0, 2), (tvs, 2, 132), (tss, 134, 328)]
  lg : fieldsL P fg = [(ti, 0, 1), (ti, 1, 1)]
  lv : fieldsL P fv = [(tb, 0, 1), (tn, 1, 1), (tx, 2, 64)]
  ls : fieldsL P fs = [(tb, 0, 1), (ti, 1, 1), (ta, 2, 16), (tx, 18, 64)]
  lx : fieldsL P fx = [(tk, 0, 32), (tt, 32, 32)]
theorem str_of (s : ByteArray) : ∃ l, s = str l := ⟨s.data.toList, by cases s; rfl⟩
end Go.Kx
/- Own library, part K: what the document's SHA-256 computes is what the given one computes; append of new memory. -/
namespace Go.Kx
open Go
variable {P : Program} {ops : Array Oper} {D : Option (Nat → Prop)} {Q : Exit → Act → World → Prop} {w0 w w' : World} {M : List Nat} {H H' : List Ent}
  {a : Act} {n : Nat} {L : List (Nat × Value)} {rest : List (Bool × Oper)} {d : Nat} {ty : TypeId} {pos : String} {aft : Array Edge} {x y z : Operand} {u v r : Value}

/-! ## Words, more -/

/-! ## The reference's numbers go round -/

/-- The first k sums. -/
def sumT (was n : List UInt32) : Nat → List UInt32
  | 0 => []
  | k + 1 => sumT was n k ++ [n.getD k 0 + was.getD k 0]
@[simp] theorem sumT_length (was n : List UInt32) : ∀ k, (sumT was n k).length = k
  | 0 => rfl
  | k + 1 => by simp [sumT, sumT_length was n k]
/-! ## Bytes of numbers -/

/-! ## append(s, make([]byte, n)...) -/

end Go.Kx
/- Own library, part K2: numbers of 64 bits; the reference's primes and roots, in plain Lean. -/
namespace Go.Kx
open Go
variable {P : Program} {ops : Array Oper} {D : Option (Nat → Prop)} {Q : Exit → Act → World → Prop} {w0 w w' : World} {M : List Nat} {H H' : List Ent}
  {a : Act} {n : Nat} {L : List (Nat × Value)} {rest : List (Bool × Oper)} {d : Nat} {ty : TypeId} {pos : String} {aft : Array Edge} {x y z : Operand} {u v r : Value}

def vV (x : UInt64) : Value := .int .u64 (x.toNat : Int)
def vd (l : List UInt64) : List Value := l.map vV
@[simp] theorem vd_length (l : List UInt64) : (vd l).length = l.length := by simp [vd]
def bl (l : List Bool) : List Value := l.map .bool
@[simp] theorem bl_length (l : List Bool) : (bl l).length = l.length := by simp [bl]
def markB (n : Nat) : Nat → List Bool → List Bool
  | 0, l => l
  | k + 1, l => (markB n k l).set (n + k * n) true
@[simp] theorem markB_length (n : Nat) (l : List Bool) : ∀ k, (markB n k l).length = l.length
  | 0 => rfl
  | k + 1 => by simp [markB, markB_length n l k]

end Go.Kx
/- Own library, part K3: the salts and seeds are roots of primes. -/
namespace Go.Kx
open Go
end Go.Kx
