/- Own library: parts KxHl, KxHm, KxFm, KxHn, KxK, KxK2, KxK3, KxSl, KxSo, KxSr, KxSa, KxSb, KxTi. -/
import Derived.Test.YtniekapfoaiieaaDoorKc4
import Derived.Lib.LaidTab
import Derived.Lib.ItoaNum
import Derived.Lib.ItoaMem
import Derived.Lib.ItoaLen
import Derived.Shelf.Strconv.Itoa2
set_option linter.unusedSimpArgs false
set_option linter.unusedVariables false
/- Own library, part Hl: parts of rows of rows; a copy into a row of an owned slice. -/
set_option linter.unusedSimpArgs false
namespace Go.Kx
open Go
variable {P : Program} {ops : Array Oper} {D : Option (Nat → Prop)} {Q : Exit → Act → World → Prop} {w0 w w' : World} {M : List Nat} {H H' : List Ent}
  {a : Act} {n : Nat} {L : List (Nat × Value)} {rest : List (Bool × Oper)} {d : Nat} {ty : TypeId} {pos : String} {aft : Array Edge} {x y z : Operand} {u v r : Value}
theorem flat_seg {ps qs rs : List (List Value)} {o s : Nat} (h1 : (ps.map List.length).sum = o) (h2 : (qs.map List.length).sum = s) : (((ps ++ (qs ++ rs)).flatten).drop o).take s = qs.flatten := by
  rw [List.flatten_append, List.flatten_append, List.drop_left' (by rw [List.length_flatten]; exact h1), List.take_left' (by rw [List.length_flatten]; exact h2)]
/-- A row out of an array of rows. -/
theorem s_indexAgg {t l e es j : Nat} {i : Int} {k' : IntKind} {cs : List Value} (hE : Env a n L) (hx : ev L x = some (.agg cs.toArray)) (hy : ev L y = some (.int k' i)) (hu : P.underlying t = some (.array l e)) (ho : RowT P e es)
    (hi : i = (j : Int)) (hj : j < l) (hn : Nat.blt d n = true)
    (k : ∀ a', Env a' n ((d, .agg ((cs.drop (j * es)).take es).toArray) :: L) → wpL P ops D Q rest a' w) : wpL P ops D Q ((true, ⟨some d, .index t x y, ty, pos, aft, none⟩) :: rest) a w := by
  subst hi
  refine s_val hE hn (Flo.of_all (fun w => ?_) w) k
  have h1 : (0 : Int) ≤ j ∧ (j : Int) < l := ⟨by omega, by omega⟩
  obtain ⟨⟨td, h2, h3⟩, h4⟩ := ho
  simp only [execOp, hE.eval hx, hE.eval hy, Instr.index, asIntOf, Sem.run_bind, Sem.run_pure, Result.andThen_ok, run_underlying hu, h1, and_self, if_true, run_sizeOf h4, part, run_isAgg h2, h3, Int.toNat_natCast, if_true]
  congr 2
  refine congrArg Value.agg (Array.toList_inj.1 ?_)
  simp only [Array.toList_extract, List.extract]
  rw [Nat.add_sub_cancel_left]
/-! ## Lists of sectors -/
@[simp] theorem cutH_len (b : List UInt8) : (cutH b).length = 8 := by simp [cutH]
theorem check_ok {h : Hd} (hc : checkH h = 0) : shapedB h = true ∧ longB h = false := by
  unfold checkH at hc
  split at hc
  · rename_i k
    simpa using k
  · cases hc
theorem zH_ok : OkHd zH := by
  have a : In64 0 := by unfold In64; omega
  have v : OkV zV := ⟨by decide, by simp [zV], by simp [zV]⟩
  have s : OkS zS := ⟨a, by simp [zS], by simp [zS], by simp [zS]⟩
  exact ⟨a, a, v, v, s, s, s, s⟩
/-- A round of a loop, and what holds behind it. -/
theorem c_roundsJ {c : Code} {m : Nat} (I : Act → World → Prop) (h : c.wp P (Exit.then I Q) a w) (k : ∀ a w, I a w → Code.rounds P c Q m a w) : Code.rounds P c Q (m + 1) a w := by
  refine wp_mono h ?_
  intro e a' w' hq
  cases e with
  | normal => exact k _ _ hq
  | exit id => exact hq
  | goto l => exact hq
  | ret => exact hq
  | panic ch => exact hq
  | outgrown => exact hq
end Go.Kx
/- Own library, part Hm: a copy of whatever length into a part of a block; headers of what is short. -/
set_option linter.unusedSimpArgs false
namespace Go.Kx
open Go
variable {P : Program} {ops : Array Oper} {D : Option (Nat → Prop)} {Q : Exit → Act → World → Prop} {w0 w w' : World} {M : List Nat} {H H' : List Ent}
  {a : Act} {n : Nat} {L : List (Nat × Value)} {rest : List (Bool × Oper)} {d : Nat} {ty : TypeId} {pos : String} {aft : Array Edge} {x y z : Operand} {u v r : Value}
/-! ## Parts of slices of rows -/
/-! ## The reference's headers -/
def cut8 (b : List UInt8) : List (List UInt8) := (List.range 8).map fun i => seg b (64 * i) 64
@[simp] theorem cut8_len (b : List UInt8) : (cut8 b).length = 8 := by simp [cut8]
/-! ## What is got of sectors -/
/-! ## Bytes that are turned -/
end Go.Kx
/- Own library, part Fm: numbers as decimal texts. -/
set_option linter.unusedSimpArgs false
namespace Go.Kx
open Go
variable {P : Program} {w w' : World}
abbrev decW (u : Nat) : List UInt8 := Lib.decDigits u
/-- A table of the library's, where its variable lies. -/
def tabE (P : Program) (g : Nat) (name : String) (k : IntKind) (zs : List Int) : Ent where
  fp := []
  ro := [g]
  holds w := g < w.heap.size ∧ P.globalNamed name = some g ∧ Lib.TabIs P w name k zs
  loc w w' h hb := by
    obtain ⟨h1, h2, h3⟩ := h
    have e := hb g (.inr (.head _))
    refine ⟨?_, h2, ?_⟩
    · rw [Array.getElem?_eq_getElem h1] at e
      exact (Array.getElem?_eq_some_iff.1 e).1
    · unfold Lib.TabIs World.var? at *
      simp only [h2, Option.bind_some] at *
      rw [e]; exact h3
  old w h b hb := by
    simp at hb; subst hb; exact h.1
theorem tabE_of_laid {name : String} {k : IntKind} {zs : List Int} {rest : List (String × DataW Unit)} {g : Nat} {t e : TypeId} {n : Nat} {d : DataW Unit} {W : World}
    (hg : P.globalNamed name = some g) (hty : (P.globals[g]?).map (·.type) = some t) (ht : P.underlying t = some (.array n e)) (he : P.underlying e = some (.int k)) (hce : P.cellsOf e = 1) (hct : P.cellsOf t = n) (hd : d = Lib.tabData k zs)
    (h : laidMet P ((name, d) :: rest) W) : (tabE P g name k zs).holds W := by
  subst hd
  have hT := Lib.tabIs_of_head hg hty ht he hce hct h
  refine ⟨?_, hg, hT⟩
  have h' := hT
  unfold Lib.TabIs World.var? at h'
  simp only [hg, Option.bind_some] at h'
  rcases Nat.lt_or_ge g W.heap.size with h1 | h1
  · exact h1
  · rw [Array.getElem?_eq_none h1] at h'; simp at h'
abbrev enc8 : UInt8 → Value := fun b => Value.int .u8 (b.toNat : Int)
theorem holds_of_blk {b T nd : Nat} {old : List UInt8} (hB : (blk b [bv old] [24] T).holds w) (hl : old.length = 24) (hn : nd ≤ 24) : Sort.Holds enc8 w b 0 (old.take nd).toArray := by
  obtain ⟨hm, fr, hh, hf⟩ := hB
  intro j hj
  have hj' : j < nd := by simpa [hl, Nat.min_eq_left hn] using hj
  refine ⟨?_, ?_⟩
  · rw [cell_of_row w b (0 + j) _ T fr hh]
    have : (bv old)[j]? = some (bV (old.getD j 0)) := bv_get (by omega)
    simp only [List.flatten_cons, List.flatten_nil, List.append_nil, Nat.zero_add]
    simp only [List.getElem?_toArray, this]
    congr 2
    simp [enc8, bV, List.getD, List.getElem?_take, hj', show j < old.length by omega]
  · unfold World.frozen?
    simp only [hh]
    have hlen : ([bv old].flatten).length = 24 := by simp [hl]
    rw [hlen] at hf
    rcases hf with hf | hf
    · simp; omega
    · simp; omega
def digsN (u nd : Nat) : List UInt8 := (List.range nd).map fun t => Lib.dg u (nd - 1 - t)
theorem digsN_len (u nd : Nat) : (digsN u nd).length = nd := by simp [digsN]
theorem digsN_dec (u : Nat) : digsN u (Lib.nDigits u) = decW u := (Lib.decDigits_eq u).symm
theorem putRow_blk {b T nd n u v' : Nat} {old : List UInt8} {dk : Array UInt8} (hB : (blk b [bv old] [24] T).holds w) (hl : old.length = 24) (hn : nd ≤ 24) (hI : Lib.FmtInv nd u 0 v' dk) :
    Mem w [b] ((Sort.putRow enc8 w b 0 dk).drewN n) [blk b [bv (digsN u nd ++ old.drop nd)] [24] T] := by
  obtain ⟨hm, fr, hh, hf⟩ := hB
  have hcells : (Sort.putCells enc8 0 dk (bv old).toArray).toList = bv (digsN u nd ++ old.drop nd) := by
    apply List.ext_getElem?
    intro i
    simp only [Sort.putCells, Array.toList_mapIdx, List.getElem?_mapIdx]
    by_cases hi : i < 24
    · have h1 : (bv old)[i]? = some (bV (old.getD i 0)) := bv_get (by omega)
      have hlen : (digsN u nd ++ old.drop nd).length = 24 := by simp [digsN_len, hl]; omega
      rw [h1, bv_get (l := digsN u nd ++ old.drop nd) (by omega), Option.map_some]
      congr 1
      by_cases hd : i < nd
      · rw [if_pos ⟨Nat.zero_le _, by rw [hI.size]; omega⟩, Nat.sub_zero, hI.done i (Nat.zero_le _) hd]
        simp [enc8, bV, List.getD, List.getElem?_append, digsN_len, hd, digsN]
      · rw [if_neg (by rw [hI.size]; omega)]
        simp [List.getD, List.getElem?_append, digsN_len, hd, List.getElem?_drop, show nd + (i - nd) = i by omega]
    · rw [List.getElem?_eq_none (by simp; omega), List.getElem?_eq_none (by simp [digsN_len]; omega)]; rfl
  have hheap : ∀ b', ((Sort.putRow enc8 w b 0 dk).drewN n).heap[b']? = if b = b' then (w.heap[b']?).map (Sort.onCells (Sort.putCells enc8 0 dk)) else w.heap[b']? := by
    intro b'
    show (w.heap.modify b (Sort.onCells (Sort.putCells enc8 0 dk)))[b']? = _
    rw [Array.getElem?_modify]
  refine ⟨rfl, rfl, rfl, ?_, ?_, ?_, ?_, ?_, List.pairwise_singleton ..⟩
  · show w.heap.size ≤ (w.heap.modify b (Sort.onCells (Sort.putCells enc8 0 dk))).size
    simp
  · intro b' _ hb'
    rw [hheap, if_neg (fun e => hb' (by simp [e]))]
  · intro e he
    rw [List.mem_singleton.1 he]
    refine ⟨by simp [digsN_len, hl]; omega, fr, ?_, ?_⟩
    · rw [hheap, if_pos rfl, hh]
      simp only [Option.map_some, Sort.onCells, List.flatten_cons, List.flatten_nil, List.append_nil]
      congr 2
      exact Array.toList_inj.1 (by simpa using hcells)
    · have e1 : ([bv old].flatten).length = 24 := by simp [hl]
      have e2 : ([bv (digsN u nd ++ old.drop nd)].flatten).length = 24 := by simp [digsN_len, hl]; omega
      rw [e2]; rw [e1] at hf; exact hf
  · intro e he x hx
    rw [List.mem_singleton.1 he] at hx
    exact .inl hx
  · intro e he x hx
    rw [List.mem_singleton.1 he] at hx; cases hx
theorem decW_len (u : Nat) (h : u < 18446744073709551616) : (decW u).length ≤ 20 := by rw [Lib.decDigits_length]; exact Lib.nDigits_le20 u h
theorem decW_zero : decW 0 = [48] := by rw [decW, Lib.decDigits_one (by decide)]; rfl
/-! ## Boxes -/
def padT : List UInt8 := [112, 97, 100]
def sealT : List UInt8 := [115, 101, 97, 108]
def boxL (l q : List UInt8) (n : Nat) : List UInt8 := (((l ++ [32]) ++ q) ++ [32]) ++ decW n
def maskB (k l : List UInt8) (n : Nat) : List UInt8 := subW k (boxL l padT n)
def sealB (k l : List UInt8) (n : Nat) : List UInt8 := subW k (boxL l sealT n)
@[simp] theorem maskB_len (k l : List UInt8) (n : Nat) : (maskB k l n).length = 32 := subW_length ..
@[simp] theorem sealB_len (k l : List UInt8) (n : Nat) : (sealB k l n).length = 32 := subW_length ..
def tagB (k l : List UInt8) (n : Nat) (d : List UInt8) : List UInt8 := hmacW (sealB k l n) (plT 66 d)
@[simp] theorem tagB_len (k l : List UInt8) (n : Nat) (d : List UInt8) : (tagB k l n d).length = 32 := hmacW_length ..
def wrapD (k l : List UInt8) (n : Nat) (x : List UInt8) : List UInt8 := xorW x (maskB k l n)
theorem xorW_len {x y : List UInt8} (hx : x.length = 32) (hy : y.length = 32) : (xorW x y).length = 32 := by simp [xorW, hx, hy]
theorem wrapD_len {k l x : List UInt8} {n : Nat} (h : x.length = 32) : (wrapD k l n x).length = 32 := xorW_len h (maskB_len ..)
def unwB (k l : List UInt8) (n : Nat) (d t : List UInt8) : Bool := decide (tagB k l n d = t)
def unwK (k l : List UInt8) (n : Nat) (d t : List UInt8) : List UInt8 := if unwB k l n d t then wrapD k l n d else List.replicate 32 0
def unwE (k l : List UInt8) (n : Nat) (d t : List UInt8) : Nat := if unwB k l n d t then 0 else 12
theorem unwK_len {k l d t : List UInt8} {n : Nat} (h : d.length = 32) : (unwK k l n d t).length = 32 := by
  unfold unwK; split
  · exact wrapD_len h
  · simp
theorem xorW_back {x y : List UInt8} (h : x.length = y.length) : xorW (xorW x y) y = x := by
  apply List.ext_getElem
  · simp [xorW, h]
  · intro i h1 h2
    simp [xorW, UInt8.xor_assoc]
theorem wrap_back {k l x : List UInt8} {n : Nat} (h : x.length = 32) : wrapD k l n (wrapD k l n x) = x := xorW_back (by rw [h, maskB_len])
theorem unw_ok {k l x : List UInt8} {n : Nat} (h : x.length = 32) : unwK k l n (wrapD k l n x) (tagB k l n (wrapD k l n x)) = x ∧ unwE k l n (wrapD k l n x) (tagB k l n (wrapD k l n x)) = 0 := by
  simp [unwK, unwE, unwB, wrap_back h]
/-! ## The last digits of a number -/
def tailD (n : Nat) : Nat → List UInt8
  | 0 => []
  | i + 1 => UInt8.ofNat (48 + n / 10 ^ i % 10) :: tailD n i
@[simp] theorem tailD_len (n i : Nat) : (tailD n i).length = i := by
  induction i with
  | zero => rfl
  | succ i ih => simp [tailD, ih]
/-! ## Boxes, read -/
theorem mask_slot (k : List UInt8) : subW k [115, 108, 111, 116, 32, 112, 97, 100, 32, 48] = maskB k [115, 108, 111, 116] 0 := congrArg (subW k) (by simp [boxL, padT, decW_zero])
theorem seal_slot (k : List UInt8) : subW k [115, 108, 111, 116, 32, 115, 101, 97, 108, 32, 48] = sealB k [115, 108, 111, 116] 0 := congrArg (subW k) (by simp [boxL, sealT, decW_zero])
theorem laidMet_tail {name : String} {d : DataW Unit} {rest : List (String × DataW Unit)} {W : World} (h : laidMet P ((name, d) :: rest) W) : laidMet P rest W := by
  obtain ⟨ps, ⟨g, t, cs, fuel, p, q, h1, h2, h3, h4, h5, h6⟩, hn, hc⟩ := h
  subst h6
  exact ⟨q, h5, (List.nodup_append.1 hn).2.1, fun b off hp => hc b off (List.mem_append.2 (.inr hp))⟩
/-- A join behind a piece of code. -/
theorem wp_seq_j {x y : Code} {Q : Exit → Act → World → Prop} {a : Act} (I : Act → World → Prop) (h : x.wp P (Exit.then I Q) a w) (k : ∀ a w, I a w → y.wp P Q a w) : (Code.seq x y).wp P Q a w := by
  refine wp_seq_k fun K hK => ?_
  refine wp_mono h ?_
  intro e a' w' hq
  cases e with
  | normal => exact hK _ _ (k _ _ hq)
  | exit id => exact hq
  | goto l => exact hq
  | ret => exact hq
  | panic ch => exact hq
  | outgrown => exact hq
end Go.Kx
/- Own library, part Hn: a header that comes in as an argument. -/
set_option linter.unusedSimpArgs false
namespace Go.Kx
open Go
open Go.ChangeShapes Go.WideShapes Go.ChangeAt Go.RowKit
variable {P : Program} {W : World}
theorem split_at {cs : List Value} (n : Nat) : cs = cs.take n ++ cs.drop n := (List.take_append_drop n cs).symm
theorem seg3 {cs : List Value} {a b c : Nat} (h : cs.length = a + b + c) : cs = (cs.drop 0).take a ++ ((cs.drop a).take b ++ (cs.drop (a + b)).take c) := by
  conv => lhs; rw [split_at (cs := cs) a, split_at (cs := cs.drop a) b]
  rw [List.drop_zero, List.drop_drop, List.take_of_length_le (l := cs.drop (a + b)) (by simp; omega)]
theorem seg4 {cs : List Value} {a b c d : Nat} (h : cs.length = a + b + c + d) : cs = (cs.drop 0).take a ++ ((cs.drop a).take b ++ ((cs.drop (a + b)).take c ++ (cs.drop (a + b + c)).take d)) := by
  conv => lhs; rw [split_at (cs := cs) a, split_at (cs := cs.drop a) b, split_at (cs := (cs.drop a).drop b) c]
  rw [List.drop_zero, List.drop_drop, List.drop_drop, List.take_of_length_le (l := cs.drop (a + b + c)) (by simp; omega)]
/-- The fields of a struct of 2, 3, 4 fields. -/
def fieldsL (P : Program) (fs : Array Field) : List (Nat × Nat × Nat) := fs.toList.map (fun f => (f.type, f.offset, P.cellsOf f.type))
theorem dec_f3 {t s t0 t1 t2 n0 n1 n2 o2 : Nat} {fs : Array Field} {R0 R1 R2 : List Value → Prop} (hu : P.underlying t = some (.struct fs)) (hs : P.cellsOf t = s) (hl : fieldsL P fs = [(t0, 0, n0), (t1, n0, n1), (t2, o2, n2)]) (ho : o2 = n0 + n1) (hn : s = n0 + n1 + n2)
    (h0 : Dec P W t0 R0) (h1 : Dec P W t1 R1) (h2 : Dec P W t2 R2) : Dec P W t (fun cs => ∃ a b c, cs = a ++ (b ++ c) ∧ R0 a ∧ R1 b ∧ R2 c) :=
  (dec_structL [(t0, 0, n0, R0), (t1, n0, n1, R1), (t2, o2, n2, R2)] hu hs hl (by
    intro p hp; simp only [List.mem_cons, List.not_mem_nil, or_false] at hp
    rcases hp with rfl | rfl | rfl
    · exact h0
    · exact h1
    · exact h2)).mono fun cs h => ⟨_, _, _, seg3 (h.1.trans hn), h.2 _ (.head _), h.2 _ (.tail _ (.head _)), ho ▸ h.2 _ (.tail _ (.tail _ (.head _)))⟩
theorem dec_f4 {t s t0 t1 t2 t3 n0 n1 n2 n3 o2 o3 : Nat} {fs : Array Field} {R0 R1 R2 R3 : List Value → Prop} (hu : P.underlying t = some (.struct fs)) (hs : P.cellsOf t = s) (hl : fieldsL P fs = [(t0, 0, n0), (t1, n0, n1), (t2, o2, n2), (t3, o3, n3)]) (ho : o2 = n0 + n1) (ho3 : o3 = n0 + n1 + n2) (hn : s = n0 + n1 + n2 + n3)
    (h0 : Dec P W t0 R0) (h1 : Dec P W t1 R1) (h2 : Dec P W t2 R2) (h3 : Dec P W t3 R3) : Dec P W t (fun cs => ∃ a b c d, cs = a ++ (b ++ (c ++ d)) ∧ R0 a ∧ R1 b ∧ R2 c ∧ R3 d) :=
  (dec_structL [(t0, 0, n0, R0), (t1, n0, n1, R1), (t2, o2, n2, R2), (t3, o3, n3, R3)] hu hs hl (by
    intro p hp; simp only [List.mem_cons, List.not_mem_nil, or_false] at hp
    rcases hp with rfl | rfl | rfl | rfl
    · exact h0
    · exact h1
    · exact h2
    · exact h3)).mono fun cs h => ⟨_, _, _, _, seg4 (h.1.trans hn), h.2 _ (.head _), h.2 _ (.tail _ (.head _)), ho ▸ h.2 _ (.tail _ (.tail _ (.head _))), ho3 ▸ h.2 _ (.tail _ (.tail _ (.tail _ (.head _))))⟩
/-- The types' numbers. -/
structure HdT (P : Program) where
  (th tg tvs tv tss ts tx tk tt ta ti tb tn te : Nat)
  (fh fg fv fs fx : Array Field)
  uh : P.underlying th = some (.struct fh)
  ug : P.underlying tg = some (.struct fg)
  uvs : P.underlying tvs = some (.array 2 tv)
  uv : P.underlying tv = some (.struct fv)
  uss : P.underlying tss = some (.array 4 ts)
  us : P.underlying ts = some (.struct fs)
  ux : P.underlying tx = some (.struct fx)
  uk : P.underlying tk = some (.array 32 te)
  ut : P.underlying tt = some (.array 32 te)
  ua : P.underlying ta = some (.array 16 te)
  ui : P.underlying ti = some (.int .i64)
  ub : P.underlying tb = some .bool
  un : P.underlying tn = some (.int .u64)
  ue : P.underlying te = some (.int .u8)
  ch : P.cellsOf th = 462
  cg : P.cellsOf tg = 2
  cvs : P.cellsOf tvs = 2 * 66
  cv : P.cellsOf tv = 66
  css : P.cellsOf tss = 4 * 82
  cs : P.cellsOf ts = 82
  cx : P.cellsOf tx = 64
  ck : P.cellsOf tk = 32 * 1
  ct : P.cellsOf tt = 32 * 1
  ca : P.cellsOf ta = 16 * 1
  ce : P.cellsOf te = 1
  lh : fieldsL P fh = [(tg, 0, 2), (tvs, 2, 132), (tss, 134, 328)]
  lg : fieldsL P fg = [(ti, 0, 1), (ti, 1, 1)]
  lv : fieldsL P fv = [(tb, 0, 1), (tn, 1, 1), (tx, 2, 64)]
  ls : fieldsL P fs = [(tb, 0, 1), (ti, 1, 1), (ta, 2, 16), (tx, 18, 64)]
  lx : fieldsL P fx = [(tk, 0, 32), (tt, 32, 32)]
theorem str_of (s : ByteArray) : ∃ l, s = str l := ⟨s.data.toList, by cases s; rfl⟩
end Go.Kx
/- Own library, part K: what the document's SHA-256 computes is what the given one computes; append of new memory. -/
namespace Go.Kx
open Go
variable {P : Program} {ops : Array Oper} {D : Option (Nat → Prop)} {Q : Exit → Act → World → Prop} {w0 w w' : World} {M : List Nat} {H H' : List Ent}
  {a : Act} {n : Nat} {L : List (Nat × Value)} {rest : List (Bool × Oper)} {d : Nat} {ty : TypeId} {pos : String} {aft : Array Edge} {x y z : Operand} {u v r : Value}

/-! ## Words, more -/

/-! ## The reference's numbers go round -/

/-- The first k sums. -/
def sumT (was n : List UInt32) : Nat → List UInt32
  | 0 => []
  | k + 1 => sumT was n k ++ [n.getD k 0 + was.getD k 0]
@[simp] theorem sumT_length (was n : List UInt32) : ∀ k, (sumT was n k).length = k
  | 0 => rfl
  | k + 1 => by simp [sumT, sumT_length was n k]
/-! ## Bytes of numbers -/

/-! ## append(s, make([]byte, n)...) -/

end Go.Kx
/- Own library, part K2: numbers of 64 bits; the reference's primes and roots, in plain Lean. -/
namespace Go.Kx
open Go
variable {P : Program} {ops : Array Oper} {D : Option (Nat → Prop)} {Q : Exit → Act → World → Prop} {w0 w w' : World} {M : List Nat} {H H' : List Ent}
  {a : Act} {n : Nat} {L : List (Nat × Value)} {rest : List (Bool × Oper)} {d : Nat} {ty : TypeId} {pos : String} {aft : Array Edge} {x y z : Operand} {u v r : Value}

def vV (x : UInt64) : Value := .int .u64 (x.toNat : Int)
def vd (l : List UInt64) : List Value := l.map vV
@[simp] theorem vd_length (l : List UInt64) : (vd l).length = l.length := by simp [vd]
def bl (l : List Bool) : List Value := l.map .bool
@[simp] theorem bl_length (l : List Bool) : (bl l).length = l.length := by simp [bl]
def markB (n : Nat) : Nat → List Bool → List Bool
  | 0, l => l
  | k + 1, l => (markB n k l).set (n + k * n) true
@[simp] theorem markB_length (n : Nat) (l : List Bool) : ∀ k, (markB n k l).length = l.length
  | 0 => rfl
  | k + 1 => by simp [markB, markB_length n l k]

end Go.Kx
/- Own library, part K3: the salts and seeds are roots of primes. -/
namespace Go.Kx
open Go
end Go.Kx
/- Own library, part Sl: passphrases' slots, in plain Lean. -/
set_option linter.unusedSimpArgs false
namespace Go.Kx
open Go
variable {P : Program} {ops : Array Oper} {D : Option (Nat → Prop)} {Q : Exit → Act → World → Prop} {w0 w w' : World} {M : List Nat} {H H' : List Ent}
  {a : Act} {n : Nat} {L : List (Nat × Value)} {rest : List (Bool × Oper)} {d : Nat} {ty : TypeId} {pos : String} {aft : Array Edge} {x y z : Operand} {u v r : Value}
def slotT : List UInt8 := [115, 108, 111, 116]
def okp (p : List UInt8) : Bool := decide (1 ≤ p.length) && decide (p.length ≤ 48)
def okr (z : Int) : Bool := decide (1 ≤ z) && decide (z ≤ 4096)
def phrZ (p : List UInt8) : List UInt8 := if okp p then phrW p else []
def passE (p : List UInt8) : Nat := if okp p then 0 else 2
def keyZ (b a : List UInt8) (z : Int) : List UInt8 := if okr z then keyW b a z.toNat 32 else []
def roundE (z : Int) : Nat := if okr z then 0 else 2
theorem phrZ_len (p : List UInt8) : (phrZ p).length ≤ 49 := by
  unfold phrZ; split
  · rename_i h; simp [okp] at h; simp [phrW]; omega
  · simp
def kK (p a : List UInt8) (z : Int) : List UInt8 := if okp p && okr z then keyW (phrW p) a z.toNat 32 else List.replicate 32 0
def kE (p : List UInt8) (z : Int) : Nat := if okp p && okr z then 0 else 2
theorem vg (p a : List UInt8) (z : Int) : (kK p a z).length = 32 := by unfold kK; split <;> simp
def keyS (p : List UInt8) (s : So) : List UInt8 := kK p s.2.2.1 s.2.1
def opS (p : List UInt8) (s : So) : Bool := s.1 && unwB (keyS p s) slotT 0 s.2.2.2.1 s.2.2.2.2
def arS (p : List UInt8) (s : So) : List UInt8 := wrapD (keyS p s) slotT 0 s.2.2.2.1
theorem arS_len {p : List UInt8} {s : So} (h : OkS s) : (arS p s).length = 32 := wrapD_len h.2.2.1
def mayS (h : Hd) (p : List UInt8) : Bool := okp p && decide (checkH h = 0)
def unl (h : Hd) (p : List UInt8) : List UInt8 × Nat × Nat :=
  if !mayS h p then (List.replicate 32 0, 0, 2) else if opS p h.s0 then (arS p h.s0, 0, 0) else if opS p h.s1 then (arS p h.s1, 1, 0) else if opS p h.s2 then (arS p h.s2, 2, 0) else if opS p h.s3 then (arS p h.s3, 3, 0) else (List.replicate 32 0, 0, 12)
theorem unl_len {h : Hd} (k : OkHd h) (p : List UInt8) : (unl h p).1.length = 32 := by
  unfold unl
  split
  · simp
  split
  · exact arS_len k.s0
  split
  · exact arS_len k.s1
  split
  · exact arS_len k.s2
  split
  · exact arS_len k.s3
  · simp
def usedL (h : Hd) : List Nat := (((if h.s0.1 then [0] else []) ++ (if h.s1.1 then [1] else [])) ++ (if h.s2.1 then [2] else [])) ++ (if h.s3.1 then [3] else [])
theorem usedL_lt {h : Hd} : ∀ i, i ∈ usedL h → i < 4 := by
  intro i hi
  unfold usedL at hi
  simp only [List.mem_append] at hi
  rcases hi with ((hi | hi) | hi) | hi <;> (split at hi <;> simp at hi <;> omega)
theorem usedL_len {h : Hd} : (usedL h).length ≤ 4 := by
  unfold usedL
  cases h.s0.1 <;> cases h.s1.1 <;> cases h.s2.1 <;> cases h.s3.1 <;> simp
def freeS (h : Hd) : Int := if !h.s0.1 then 0 else if !h.s1.1 then 1 else if !h.s2.1 then 2 else if !h.s3.1 then 3 else -1
def getS (h : Hd) : Nat → So
  | 0 => h.s0
  | 1 => h.s1
  | 2 => h.s2
  | _ => h.s3
def setS (h : Hd) : Nat → So → Hd
  | 0, s => { h with s0 := s }
  | 1, s => { h with s1 := s }
  | 2, s => { h with s2 := s }
  | _, s => { h with s3 := s }
theorem setS_ok {h : Hd} {s : So} (k : OkHd h) (ks : OkS s) : ∀ i, OkHd (setS h i s)
  | 0 => ⟨k.m, k.r, k.v0, k.v1, ks, k.s1, k.s2, k.s3⟩
  | 1 => ⟨k.m, k.r, k.v0, k.v1, k.s0, ks, k.s2, k.s3⟩
  | 2 => ⟨k.m, k.r, k.v0, k.v1, k.s0, k.s1, ks, k.s3⟩
  | _ + 3 => ⟨k.m, k.r, k.v0, k.v1, k.s0, k.s1, k.s2, ks⟩
/-- The used ones of the first so many slots. -/
def usedP (h : Hd) : Nat → List Nat
  | 0 => []
  | j + 1 => usedP h j ++ if (getS h j).1 then [j] else []
theorem usedP_all {h : Hd} : usedP h 4 = usedL h := by simp [usedP, usedL, getS]
theorem usedP_len (h : Hd) : ∀ j, (usedP h j).length ≤ j := by
  intro j
  induction j with
  | zero => exact Nat.le_refl _
  | succ j ih =>
    rw [usedP, List.length_append]
    split
    · simp; omega
    · simp; omega
def saltS (h : Hd) (b : List UInt8) : Bool := ((h.s0.1 && decide (h.s0.2.2.1 = b) || h.s1.1 && decide (h.s1.2.2.1 = b)) || h.s2.1 && decide (h.s2.2.2.1 = b)) || h.s3.1 && decide (h.s3.2.2.1 = b)
def thereS (h : Hd) (p b : List UInt8) : Bool := saltS h b || decide ((unl h p).2.2 = 0)
/-- Is a used slot of the first so many in the list of that salt? -/
def saltI (h : Hd) (b : List UInt8) (i : Nat) : Prop := ∀ j, j < i → ¬ (getS h ((usedL h).getD j 0)).2.2.1 = b
theorem saltS_no {h : Hd} {b : List UInt8} (k : saltI h b (usedL h).length) : saltS h b = false := by
  have key : ∀ i, i ∈ usedL h → ¬ (getS h i).2.2.1 = b := by
    intro i hi
    obtain ⟨j, hj, rfl⟩ := List.mem_iff_getElem.1 hi
    have := k j hj
    simpa [List.getD, hj] using this
  have k0 : h.s0.1 = true → ¬ h.s0.2.2.1 = b := fun e => key 0 (by simp [usedL, e])
  have k1 : h.s1.1 = true → ¬ h.s1.2.2.1 = b := fun e => key 1 (by simp [usedL, e])
  have k2 : h.s2.1 = true → ¬ h.s2.2.2.1 = b := fun e => key 2 (by simp [usedL, e])
  have k3 : h.s3.1 = true → ¬ h.s3.2.2.1 = b := fun e => key 3 (by simp [usedL, e])
  simp only [saltS, Bool.or_eq_false_iff, Bool.and_eq_false_imp, decide_eq_false_iff_not]
  exact ⟨⟨⟨k0, k1⟩, k2⟩, k3⟩
theorem usedL_getS {h : Hd} {i : Nat} (hi : i ∈ usedL h) : (getS h i).1 = true := by
  unfold usedL at hi
  simp only [List.mem_append] at hi
  rcases hi with ((hi | hi) | hi) | hi
  · by_cases e : h.s0.1 = true
    · simp [e] at hi; subst hi; exact e
    · simp [e] at hi
  · by_cases e : h.s1.1 = true
    · simp [e] at hi; subst hi; exact e
    · simp [e] at hi
  · by_cases e : h.s2.1 = true
    · simp [e] at hi; subst hi; exact e
    · simp [e] at hi
  · by_cases e : h.s3.1 = true
    · simp [e] at hi; subst hi; exact e
    · simp [e] at hi
theorem saltS_yes {h : Hd} {b : List UInt8} {i : Nat} (hi : i ∈ usedL h) (e : (getS h i).2.2.1 = b) : saltS h b = true := by
  have hu := usedL_getS hi
  have hl := usedL_lt i hi
  match i, hl with
  | 0, _ => simp only [getS] at hu e; simp [saltS, hu, e]
  | 1, _ => simp only [getS] at hu e; simp [saltS, hu, e]
  | 2, _ => simp only [getS] at hu e; simp [saltS, hu, e]
  | 3, _ => simp only [getS] at hu e; simp [saltS, hu, e]
def newS (p b : List UInt8) (z : Int) (x : List UInt8) : So := (true, z, b, wrapD (kK p b z) slotT 0 x, tagB (kK p b z) slotT 0 (wrapD (kK p b z) slotT 0 x))
theorem newS_ok {p b x : List UInt8} {z : Int} (hz : In64 z) (hb : b.length = 16) (hx : x.length = 32) : OkS (newS p b z x) := ⟨hz, hb, wrapD_len hx, tagB_len ..⟩
def addS (h : Hd) (x p b : List UInt8) (z : Int) : Hd × Int × Nat :=
  if !mayS h p then (zH, 0, 2) else if !decide (kE p z = 0) then (zH, 0, 2) else if thereS h p b then (zH, 0, 6) else if freeS h < 0 then (zH, 0, 7) else (setS h (freeS h).toNat (newS p b z x), freeS h, 0)
theorem addS_ok {h : Hd} {x p b : List UInt8} {z : Int} (k : OkHd h) (hz : In64 z) (hb : b.length = 16) (hx : x.length = 32) : OkHd (addS h x p b z).1 := by
  unfold addS
  split
  · exact zH_ok
  split
  · exact zH_ok
  split
  · exact zH_ok
  split
  · exact zH_ok
  · exact setS_ok k (newS_ok hz hb hx) _
def remS (h : Hd) (i : Int) : Hd × Nat :=
  if !decide (checkH h = 0) || (decide (i < 0) || decide (3 < i)) then (zH, 2) else if !(getS h i.toNat).1 then (zH, 5) else (setS h i.toNat zS, 0)
theorem remS_ok {h : Hd} {i : Int} (k : OkHd h) : OkHd (remS h i).1 := by
  unfold remS
  split
  · exact zH_ok
  split
  · exact zH_ok
  · exact setS_ok k zH_ok.s0 _
theorem passE_zero {p : List UInt8} : passE p = 0 ↔ okp p = true := by unfold passE; split <;> simp_all
theorem roundE_zero {z : Int} : roundE z = 0 ↔ okr z = true := by unfold roundE; split <;> simp_all
theorem passE_no {p : List UInt8} (h : ¬ passE p = 0) : okp p = false := by cases e : okp p <;> simp_all [passE_zero]
theorem roundE_no {z : Int} (h : ¬ roundE z = 0) : okr z = false := by cases e : okr z <;> simp_all [roundE_zero]
theorem kE_two {p : List UInt8} {z : Int} (h : ¬ kE p z = 0) : kE p z = 2 := by
  unfold kE at *
  split at h <;> simp_all
theorem op_unused {p : List UInt8} {s : So} (h : s.1 = false) : opS p s = false := by simp [opS, h]
theorem op_no {p : List UInt8} {s : So} (h : ¬ unwE (kK p s.2.2.1 s.2.1) slotT 0 s.2.2.2.1 s.2.2.2.2 = 0) : opS p s = false := by
  have : unwB (keyS p s) slotT 0 s.2.2.2.1 s.2.2.2.2 = false := by
    unfold unwE at h
    cases e : unwB (kK p s.2.2.1 s.2.1) slotT 0 s.2.2.2.1 s.2.2.2.2
    · exact e
    · rw [e] at h; exact absurd rfl h
  simp [opS, this]
theorem op_yes {p : List UInt8} {s : So} (hu : s.1 = true) (h : unwE (kK p s.2.2.1 s.2.1) slotT 0 s.2.2.2.1 s.2.2.2.2 = 0) : opS p s = true ∧ unwK (kK p s.2.2.1 s.2.1) slotT 0 s.2.2.2.1 s.2.2.2.2 = arS p s := by
  have e : unwB (kK p s.2.2.1 s.2.1) slotT 0 s.2.2.2.1 s.2.2.2.2 = true := by
    unfold unwE at h
    cases e : unwB (kK p s.2.2.1 s.2.1) slotT 0 s.2.2.2.1 s.2.2.2.2
    · rw [e] at h; cases h
    · rfl
  refine ⟨by simp only [opS, keyS, hu, e, Bool.and_self], ?_⟩
  rw [unwK, e]; rfl
theorem saltI_zero {h : Hd} {b : List UInt8} : saltI h b 0 := fun _ hj => absurd hj (Nat.not_lt_zero _)
theorem saltI_succ {h : Hd} {b : List UInt8} {i : Nat} (k : saltI h b i) (e : ¬ (getS h ((usedL h).getD i 0)).2.2.1 = b) : saltI h b (i + 1) := fun j hj => by
  by_cases hji : j = i
  · subst hji; exact e
  · exact k j (by omega)
theorem usedL_four {h : Hd} {i : Nat} (hi : i < (usedL h).length) : (usedL h).getD i 0 = 0 ∨ (usedL h).getD i 0 = 1 ∨ (usedL h).getD i 0 = 2 ∨ (usedL h).getD i 0 = 3 := by
  have hm : (usedL h).getD i 0 ∈ usedL h := by simp [List.getD, hi]
  have := usedL_lt _ hm
  omega
theorem usedL_mem {h : Hd} {i : Nat} (hi : i < (usedL h).length) : (usedL h).getD i 0 ∈ usedL h := by simp [List.getD, hi]
theorem there_salt {h : Hd} {p b : List UInt8} {i j : Nat} (hi : i < (usedL h).length) (hc : (usedL h).getD i 0 = j) (e : (getS h j).2.2.1 = b) : thereS h p b = true := by
  have hs : saltS h b = true := saltS_yes (usedL_mem hi) (by rw [hc]; exact e)
  simp [thereS, hs]
theorem freeS_five (h : Hd) : freeS h = -1 ∨ freeS h = 0 ∨ freeS h = 1 ∨ freeS h = 2 ∨ freeS h = 3 := by
  unfold freeS
  split
  · simp
  split
  · simp
  split
  · simp
  split <;> simp
def intC (i : Nat) : List Value := [.int .i64 (i : Int)]
theorem intCs_one (ls : List Nat) : One (ls.flatMap intC) := fun v hv => by
  obtain ⟨c, _, h⟩ := List.mem_flatMap.1 hv
  simp [intC] at h; subst h; rfl
/-! ## The chapter's header -/
def emptyH : Hd := ⟨4, 1, zV, zV, zS, zS, zS, zS⟩
def k7 : List UInt8 := 7 :: List.replicate 31 0
def sa1 : List UInt8 := 1 :: List.replicate 15 0
def sa2 : List UInt8 := 2 :: List.replicate 15 0
def n1T : So := newS [97, 98] sa1 2 k7
def h1T : Hd := setS emptyH 0 n1T
def n2T : So := newS [99, 100] sa2 1 k7
def h2T : Hd := setS h1T 1 n2T
theorem emptyH_ok : OkHd emptyH := ⟨by unfold In64; decide, by unfold In64; decide, zH_ok.v0, zH_ok.v1, zH_ok.s0, zH_ok.s1, zH_ok.s2, zH_ok.s3⟩
theorem h1T_ok : OkHd h1T := setS_ok emptyH_ok (newS_ok (by unfold In64; decide) (by decide) (by decide)) 0
theorem h2T_ok : OkHd h2T := setS_ok h1T_ok (newS_ok (by unfold In64; decide) (by decide) (by decide)) 1
theorem tagB0 (k d : List UInt8) : tagB k slotT 0 d = hmacW (subW k [115, 108, 111, 116, 32, 115, 101, 97, 108, 32, 48]) (plT 66 d) := by rw [seal_slot]; rfl
theorem wrapD0 (k x : List UInt8) : wrapD k slotT 0 x = xorW x (subW k [115, 108, 111, 116, 32, 112, 97, 100, 32, 48]) := by rw [mask_slot]; rfl
/-- The other passphrase does not open the first slot. -/
theorem other_no : unwB (kK [99, 100] sa1 2) slotT 0 n1T.2.2.2.1 n1T.2.2.2.2 = false := by
  have e1 : n1T.2.2.2.1 = wrapD (kK [97, 98] sa1 2) slotT 0 k7 := rfl
  have e2 : n1T.2.2.2.2 = tagB (kK [97, 98] sa1 2) slotT 0 (wrapD (kK [97, 98] sa1 2) slotT 0 k7) := rfl
  rw [e1, e2, unwB, tagB0, tagB0, wrapD0]
  decide +kernel
theorem op_new {p b x : List UInt8} {z : Int} (hx : x.length = 32) : opS p (newS p b z x) = true ∧ arS p (newS p b z x) = x := by
  have h := unw_ok (k := kK p b z) (l := slotT) (n := 0) hx
  refine ⟨?_, wrap_back hx⟩
  show (true && unwB (kK p b z) slotT 0 (wrapD (kK p b z) slotT 0 x) (tagB (kK p b z) slotT 0 (wrapD (kK p b z) slotT 0 x))) = true
  simp [unwB]
theorem op_zS (p : List UInt8) : opS p zS = false := op_unused rfl
theorem may_e : mayS emptyH [97, 98] = true := by decide +kernel
theorem may_1 : mayS h1T [99, 100] = true := by decide +kernel
theorem may_2a : mayS h2T [97, 98] = true := by decide +kernel
theorem may_2b : mayS h2T [99, 100] = true := by decide +kernel
theorem add1T : addS emptyH k7 [97, 98] sa1 2 = (h1T, 0, 0) := by
  have h1 : kE [97, 98] 2 = 0 := by decide
  have h2 : thereS emptyH [97, 98] sa1 = false := by
    have e : (unl emptyH [97, 98]).2.2 = 12 := by
      have h0 : opS [97, 98] emptyH.s0 = false := op_zS _
      have h1 : opS [97, 98] emptyH.s1 = false := op_zS _
      have h2 : opS [97, 98] emptyH.s2 = false := op_zS _
      have h3 : opS [97, 98] emptyH.s3 = false := op_zS _
      simp [unl, may_e, h0, h1, h2, h3]
    have hs : saltS emptyH sa1 = false := by decide +kernel
    simp [thereS, hs, e]
  simp only [addS, may_e, h1, h2]
  rfl
theorem op_other : opS [99, 100] h1T.s0 = false := by
  show (true && unwB (kK [99, 100] sa1 2) slotT 0 n1T.2.2.2.1 n1T.2.2.2.2) = false
  rw [other_no]; rfl
theorem add2T : addS h1T k7 [99, 100] sa2 1 = (h2T, 1, 0) := by
  have h1 : kE [99, 100] 1 = 0 := by decide
  have h2 : thereS h1T [99, 100] sa2 = false := by
    have e : (unl h1T [99, 100]).2.2 = 12 := by
      have h0 : opS [99, 100] h1T.s1 = false := op_zS _
      have h0' : opS [99, 100] h1T.s2 = false := op_zS _
      have h0'' : opS [99, 100] h1T.s3 = false := op_zS _
      simp [unl, may_1, op_other, h0, h0', h0'']
    have hs : saltS h1T sa2 = false := by decide +kernel
    simp [thereS, hs, e]
  simp only [addS, may_1, h1, h2]
  rfl
theorem unl1T : unl h2T [97, 98] = (k7, 0, 0) := by
  have h := op_new (p := [97, 98]) (b := sa1) (x := k7) (z := 2) (by decide)
  have h0 : opS [97, 98] h2T.s0 = true := h.1
  have h1 : arS [97, 98] h2T.s0 = k7 := h.2
  simp [unl, may_2a, h0, h1]
theorem unl2T : unl h2T [99, 100] = (k7, 1, 0) := by
  have h := op_new (p := [99, 100]) (b := sa2) (x := k7) (z := 1) (by decide)
  have h0 : opS [99, 100] h2T.s0 = false := op_other
  have h1 : opS [99, 100] h2T.s1 = true := h.1
  have h2 : arS [99, 100] h2T.s1 = k7 := h.2
  simp [unl, may_2b, h0, h1, h2]
def opensB (h : Hd) (p : List UInt8) (j : Nat) : Bool := decide ((unl h p).1 = k7) && (decide ((unl h p).2.1 = j) && decide ((unl h p).2.2 = 0))
theorem opens1T : opensB h2T [97, 98] 0 = true := by rw [opensB, unl1T]; rfl
theorem opens2T : opensB h2T [99, 100] 1 = true := by rw [opensB, unl2T]; rfl
def largeS (h : Hd) (s : So) : Bool := s.1 && (decide (60 < s.2.1) && decide (checkH h = 0))
def largeB (h : Hd) (p : List UInt8) (z : Int) : Bool := ((largeS h h.s0 || largeS h h.s1) || (largeS h h.s2 || largeS h h.s3)) || (decide (1000 < p.length) || (decide (60 < z) && decide (z ≤ 4096)))
/-- A slice as a pointer to an array. -/
theorem s_toArrV {t e es N m : Nat} {v : Value} {bs : List UInt8} (hE : Env a n L) (hx : ev L x = some v) (hr : (ownW v es m (bv bs)).holds w) (h1 : es = 1) (hm : m = N) (h0 : 0 < N) (ht : P.underlying t = some (.array N e)) (hn : Nat.blt d n = true)
    (k : ∀ a' p, Env a' n ((d, p) :: L) → (cellsAt p (bv bs)).holds w → wpL P ops D Q rest a' w) : wpL P ops D Q ((true, ⟨some d, .sliceToArrayPointer t x, ty, pos, aft, none⟩) :: rest) a w := by
  subst h1 hm
  obtain ⟨hl, ⟨rfl, rfl⟩ | ⟨b, cap, cur, T, fr, rfl, g1, g3, g4, g5, g6⟩⟩ := hr
  · omega
  refine s_toArrP hE hx ht (Nat.le_refl _) hn (fun a' hE' => k a' _ hE' ⟨b, 0, rfl, (Array.getElem?_eq_some_iff.1 g3).1, fun i x hx => ?_⟩)
  rw [Nat.zero_add, cell_of_row w b i _ T fr g3]
  rw [← g5, List.getElem?_take] at hx
  split at hx
  · simpa using hx
  · cases hx
end Go.Kx
/- Own library, part So: what a slot's coming and going changes. -/
set_option linter.unusedSimpArgs false
namespace Go.Kx
open Go
theorem four_cases {i : Nat} (h : i < 4) : i = 0 ∨ i = 1 ∨ i = 2 ∨ i = 3 := by omega
theorem getS_set {h : Hd} {s : So} {i j : Nat} (hi : i < 4) (hj : j < 4) : getS (setS h j s) i = if i = j then s else getS h i := by
  rcases four_cases hi with rfl | rfl | rfl | rfl <;> rcases four_cases hj with rfl | rfl | rfl | rfl <;> rfl
theorem setS_v {h : Hd} {s : So} {j : Nat} (hj : j < 4) : (setS h j s).v0 = h.v0 ∧ (setS h j s).v1 = h.v1 ∧ (setS h j s).m = h.m ∧ (setS h j s).r = h.r := by
  rcases four_cases hj with rfl | rfl | rfl | rfl <;> exact ⟨rfl, rfl, rfl, rfl⟩
theorem check_iff {h : Hd} : checkH h = 0 ↔ (volB h.v0 = true ∧ volB h.v1 = true ∧ geoB h.m h.r = true) ∧ ∀ i, i < 4 → slotB (getS h i) = true ∧ (getS h i).2.1 ≤ 4096 := by
  constructor
  · intro hc
    obtain ⟨hs, hl⟩ := check_ok hc
    simp only [shapedB, Bool.and_eq_true] at hs
    obtain ⟨⟨⟨⟨⟨⟨a, b⟩, h0⟩, h1⟩, h2⟩, h3⟩, g⟩ := hs
    simp only [longB, Bool.or_eq_false_iff, decide_eq_false_iff_not] at hl
    obtain ⟨⟨⟨l0, l1⟩, l2⟩, l3⟩ := hl
    refine ⟨⟨a, b, g⟩, fun i hi => ?_⟩
    rcases four_cases hi with rfl | rfl | rfl | rfl
    · exact ⟨h0, by simp only [getS]; omega⟩
    · exact ⟨h1, by simp only [getS]; omega⟩
    · exact ⟨h2, by simp only [getS]; omega⟩
    · exact ⟨h3, by simp only [getS]; omega⟩
  · rintro ⟨⟨a, b, g⟩, hk⟩
    obtain ⟨h0, l0⟩ := hk 0 (by decide)
    obtain ⟨h1, l1⟩ := hk 1 (by decide)
    obtain ⟨h2, l2⟩ := hk 2 (by decide)
    obtain ⟨h3, l3⟩ := hk 3 (by decide)
    simp only [getS] at h0 h1 h2 h3 l0 l1 l2 l3
    have e : longB h = false := by
      simp only [longB, Bool.or_eq_false_iff, decide_eq_false_iff_not]
      exact ⟨⟨⟨by omega, by omega⟩, by omega⟩, by omega⟩
    simp [checkH, shapedB, a, b, g, h0, h1, h2, h3, e]
theorem check_set {h : Hd} {s : So} {j : Nat} (hc : checkH h = 0) (hj : j < 4) (hs : slotB s = true) (hl : s.2.1 ≤ 4096) : checkH (setS h j s) = 0 := by
  rw [check_iff] at hc ⊢
  obtain ⟨a, b⟩ := hc
  obtain ⟨e1, e2, e3, e4⟩ := setS_v (h := h) (s := s) hj
  rw [e1, e2, e3, e4]
  refine ⟨a, fun i hi => ?_⟩
  rw [getS_set hi hj]
  split
  · exact ⟨hs, hl⟩
  · exact b i hi
theorem unl_hit {h : Hd} {p : List UInt8} {j : Nat} (hm : mayS h p = true) (hj : j < 4) (ho : opS p (getS h j) = true) (hb : ∀ i, i < j → opS p (getS h i) = false) : unl h p = (arS p (getS h j), j, 0) := by
  rcases four_cases hj with rfl | rfl | rfl | rfl
  · simp only [getS] at ho ⊢
    simp [unl, hm, ho]
  · have h0 := hb 0 (by decide)
    simp only [getS] at ho h0 ⊢
    simp [unl, hm, ho, h0]
  · have h0 := hb 0 (by decide)
    have h1 := hb 1 (by decide)
    simp only [getS] at ho h0 h1 ⊢
    simp [unl, hm, ho, h0, h1]
  · have h0 := hb 0 (by decide)
    have h1 := hb 1 (by decide)
    have h2 := hb 2 (by decide)
    simp only [getS] at ho h0 h1 h2 ⊢
    simp [unl, hm, ho, h0, h1, h2]
theorem unl_none {h : Hd} {p : List UInt8} (hm : mayS h p = true) (hn : ∀ i, i < 4 → opS p (getS h i) = false) : unl h p = (List.replicate 32 0, 0, 12) := by
  have h0 := hn 0 (by decide)
  have h1 := hn 1 (by decide)
  have h2 := hn 2 (by decide)
  have h3 := hn 3 (by decide)
  simp only [getS] at h0 h1 h2 h3
  simp [unl, hm, h0, h1, h2, h3]
theorem unl_five {h : Hd} {p : List UInt8} (hm : mayS h p = true) : (∃ j, j < 4 ∧ opS p (getS h j) = true ∧ (∀ i, i < j → opS p (getS h i) = false) ∧ unl h p = (arS p (getS h j), j, 0)) ∨ ((∀ i, i < 4 → opS p (getS h i) = false) ∧ unl h p = (List.replicate 32 0, 0, 12)) := by
  by_cases h0 : opS p (getS h 0) = true
  · have hb : ∀ i, i < 0 → opS p (getS h i) = false := fun i hi => absurd hi (Nat.not_lt_zero _)
    exact .inl ⟨0, by decide, h0, hb, unl_hit hm (by decide) h0 hb⟩
  have n0 : opS p (getS h 0) = false := by simpa using h0
  by_cases h1 : opS p (getS h 1) = true
  · have hb : ∀ i, i < 1 → opS p (getS h i) = false := fun i hi => by obtain rfl : i = 0 := by omega
                                                                      exact n0
    exact .inl ⟨1, by decide, h1, hb, unl_hit hm (by decide) h1 hb⟩
  have n1 : opS p (getS h 1) = false := by simpa using h1
  by_cases h2 : opS p (getS h 2) = true
  · have hb : ∀ i, i < 2 → opS p (getS h i) = false := fun i hi => by
      rcases (show i = 0 ∨ i = 1 by omega) with rfl | rfl <;> assumption
    exact .inl ⟨2, by decide, h2, hb, unl_hit hm (by decide) h2 hb⟩
  have n2 : opS p (getS h 2) = false := by simpa using h2
  by_cases h3 : opS p (getS h 3) = true
  · have hb : ∀ i, i < 3 → opS p (getS h i) = false := fun i hi => by
      rcases (show i = 0 ∨ i = 1 ∨ i = 2 by omega) with rfl | rfl | rfl <;> assumption
    exact .inl ⟨3, by decide, h3, hb, unl_hit hm (by decide) h3 hb⟩
  have n3 : opS p (getS h 3) = false := by simpa using h3
  have hn : ∀ i, i < 4 → opS p (getS h i) = false := fun i hi => by
    rcases four_cases hi with rfl | rfl | rfl | rfl <;> assumption
  exact .inr ⟨hn, unl_none hm hn⟩
theorem free_get {h : Hd} {j : Nat} (e : freeS h = (j : Int)) : j < 4 ∧ (getS h j).1 = false := by
  unfold freeS at e
  split at e
  · obtain rfl : j = 0 := by omega
    rename_i k; exact ⟨by decide, by simpa [getS] using k⟩
  split at e
  · obtain rfl : j = 1 := by omega
    rename_i k; exact ⟨by decide, by simpa [getS] using k⟩
  split at e
  · obtain rfl : j = 2 := by omega
    rename_i k; exact ⟨by decide, by simpa [getS] using k⟩
  split at e
  · obtain rfl : j = 3 := by omega
    rename_i k; exact ⟨by decide, by simpa [getS] using k⟩
  · omega
theorem add_good {h : Hd} {x p b : List UInt8} {z : Int} (e : (addS h x p b z).2.2 = 0) : ∃ j, j < 4 ∧ addS h x p b z = (setS h j (newS p b z x), (j : Int), 0) ∧ mayS h p = true ∧ kE p z = 0 ∧ thereS h p b = false ∧ (getS h j).1 = false := by
  unfold addS at e ⊢
  split at e
  · cases e
  rename_i h1
  split at e
  · cases e
  rename_i h2
  split at e
  · cases e
  rename_i h3
  split at e
  · cases e
  rename_i h4
  obtain ⟨j, hj⟩ := Int.eq_ofNat_of_zero_le (show 0 ≤ freeS h by omega)
  obtain ⟨g1, g2⟩ := free_get hj
  rw [if_neg h1, if_neg h2, if_neg h3, if_neg h4, hj]
  exact ⟨j, g1, rfl, by simpa using h1, by simpa using h2, by simpa using h3, g2⟩
end Go.Kx
/- Own library, part Sr: which slot opens. -/
namespace Go.Kx
open Go
section
variable {P : Program} {ops : Array Oper} {D : Option (Nat → Prop)} {Q : Exit → Act → World → Prop} {w w' : World}
  {a : Act} {n : Nat} {L : List (Nat × Value)} {rest : List (Bool × Oper)} {d : Nat} {ty : TypeId} {pos : String} {aft : Array Edge} {x : Operand}
end
end Go.Kx
/- Own library, part Sa: what is added to slots, as the reference says it. -/
namespace Go.Kx
open Go
theorem used_mem {h : Hd} {k : Nat} (hk : k < 4) (hu : (getS h k).1 = true) : k ∈ usedL h := by
  rcases four_cases hk with rfl | rfl | rfl | rfl <;> simp only [getS] at hu <;> simp [usedL, hu]
end Go.Kx
/- Own library, part Sb: turns at a header's slots, in plain Lean. -/
set_option linter.unusedSimpArgs false
namespace Go.Kx
open Go
/-- What is added: an array key, a passphrase, a salt, how often it is hashed. -/
abbrev Nw := List UInt8 × List UInt8 × List UInt8 × Int
def OkN (n : Nw) : Prop := n.1.length = 32 ∧ n.2.2.1.length = 16 ∧ In64 n.2.2.2
def zNw : Nw := (List.replicate 32 0, [], List.replicate 16 0, 0)
structure I4 where
  n0 : Nw
  n1 : Nw
  n2 : Nw
  n3 : Nw
structure OkI (i : I4) : Prop where
  n0 : OkN i.n0
  n1 : OkN i.n1
  n2 : OkN i.n2
  n3 : OkN i.n3
def zI4 : I4 := ⟨zNw, zNw, zNw, zNw⟩
def getI (i : I4) : Nat → Nw
  | 0 => i.n0
  | 1 => i.n1
  | 2 => i.n2
  | _ => i.n3
def setI (i : I4) : Nat → Nw → I4
  | 0, n => { i with n0 := n }
  | 1, n => { i with n1 := n }
  | 2, n => { i with n2 := n }
  | _, n => { i with n3 := n }
theorem zNw_ok : OkN zNw := ⟨by simp [zNw], by simp [zNw], by unfold In64; simp only [zNw]; omega⟩
theorem zI4_ok : OkI zI4 := ⟨zNw_ok, zNw_ok, zNw_ok, zNw_ok⟩
theorem setI_ok {i : I4} {n : Nw} (k : OkI i) (h : OkN n) : ∀ j, OkI (setI i j n)
  | 0 => ⟨h, k.n1, k.n2, k.n3⟩
  | 1 => ⟨k.n0, h, k.n2, k.n3⟩
  | 2 => ⟨k.n0, k.n1, h, k.n3⟩
  | _ + 3 => ⟨k.n0, k.n1, k.n2, h⟩
theorem getI_set {i : I4} {n : Nw} {j k : Nat} (hj : j < 4) (hk : k < 4) : getI (setI i j n) k = if k = j then n else getI i k := by
  rcases four_cases hj with rfl | rfl | rfl | rfl <;> rcases four_cases hk with rfl | rfl | rfl | rfl <;> rfl
/-- A turn: is something added, what, or the slot of which number is removed. -/
abbrev Tn := Bool × Nw × Int
def OkT (t : Tn) : Prop := OkN t.2.1 ∧ In64 t.2.2
def zTn : Tn := (false, zNw, 0)
theorem zTn_ok : OkT zTn := ⟨zNw_ok, by unfold In64; simp only [zTn]; omega⟩
def stepT (a : List UInt8) (s : Hd × I4) (t : Tn) : Hd × I4 :=
  if t.1 then (if (addS s.1 a t.2.1.2.1 t.2.1.2.2.1 t.2.1.2.2.2).2.2 = 0 then ((addS s.1 a t.2.1.2.1 t.2.1.2.2.1 t.2.1.2.2.2).1, setI s.2 (addS s.1 a t.2.1.2.1 t.2.1.2.2.1 t.2.1.2.2.2).2.1.toNat t.2.1) else s)
  else if (remS s.1 t.2.2).2 = 0 then ((remS s.1 t.2.2).1, s.2) else s
def stT (a : List UInt8) (ts : List Tn) : Nat → Hd × I4
  | 0 => (emptyH, zI4)
  | i + 1 => stepT a (stT a ts i) (ts.getD i zTn)
theorem stepT_add {a : List UInt8} {s : Hd × I4} {t : Tn} {j : Nat} {h : Hd} (ht : t.1 = true) (e : addS s.1 a t.2.1.2.1 t.2.1.2.2.1 t.2.1.2.2.2 = (h, (j : Int), 0)) : stepT a s t = (h, setI s.2 j t.2.1) := by
  simp [stepT, ht, e]
theorem stepT_no {a : List UInt8} {s : Hd × I4} {t : Tn} (ht : t.1 = true) (e : ¬ (addS s.1 a t.2.1.2.1 t.2.1.2.2.1 t.2.1.2.2.2).2.2 = 0) : stepT a s t = s := by
  simp [stepT, ht, e]
theorem stepT_rem {a : List UInt8} {s : Hd × I4} {t : Tn} (ht : t.1 = false) (e : (remS s.1 t.2.2).2 = 0) : stepT a s t = ((remS s.1 t.2.2).1, s.2) := by
  simp [stepT, ht, e]
theorem stepT_nor {a : List UInt8} {s : Hd × I4} {t : Tn} (ht : t.1 = false) (e : ¬ (remS s.1 t.2.2).2 = 0) : stepT a s t = s := by
  simp [stepT, ht, e]
theorem stepT_ok {a : List UInt8} {s : Hd × I4} {t : Tn} (ha : a.length = 32) (ho : OkHd s.1 ∧ OkI s.2) (ht : OkT t) : OkHd (stepT a s t).1 ∧ OkI (stepT a s t).2 := by
  unfold stepT
  split
  · split
    · exact ⟨addS_ok ho.1 ht.1.2.2 ht.1.2.1 ha, setI_ok ho.2 ht.1 _⟩
    · exact ho
  · split
    · exact ⟨remS_ok ho.1, ho.2⟩
    · exact ho
theorem getT_ok {ts : List Tn} (ht : ∀ t, t ∈ ts → OkT t) (i : Nat) : OkT (ts.getD i zTn) := by
  rcases Nat.lt_or_ge i ts.length with h | h
  · exact ht _ (by simp [List.getD, h])
  · rw [List.getD, List.getElem?_eq_none h]; exact zTn_ok
theorem stT_ok {a : List UInt8} {ts : List Tn} (ha : a.length = 32) (ht : ∀ t, t ∈ ts → OkT t) : ∀ i, OkHd (stT a ts i).1 ∧ OkI (stT a ts i).2
  | 0 => ⟨emptyH_ok, zI4_ok⟩
  | i + 1 => stepT_ok ha (stT_ok ha ht i) (getT_ok ht i)
/-- Each used slot is what was added to it; unlike ones have unlike salts. -/
structure Inv (a : List UInt8) (s : Hd × I4) : Prop where
  chk : checkH s.1 = 0
  new : ∀ k, k < 4 → (getS s.1 k).1 = true → getS s.1 k = newS (getI s.2 k).2.1 (getI s.2 k).2.2.1 (getI s.2 k).2.2.2 a ∧ okp (getI s.2 k).2.1 = true
  far : ∀ j k, j < 4 → k < 4 → (getS s.1 j).1 = true → (getS s.1 k).1 = true → (getS s.1 j).2.2.1 = (getS s.1 k).2.2.1 → j = k
theorem inv_zero (a : List UInt8) : Inv a (emptyH, zI4) := by
  have hu : ∀ k, k < 4 → ¬ (getS emptyH k).1 = true := by
    intro k hk
    rcases four_cases hk with rfl | rfl | rfl | rfl <;> simp [getS, emptyH, zS]
  exact ⟨by decide, fun k hk h => absurd h (hu k hk), fun j k hj _ h => absurd h (hu j hj)⟩
theorem inv_step {a : List UInt8} {s : Hd × I4} {t : Tn} (hi : Inv a s) : Inv a (stepT a s t) := by
  cases ht : t.1 with
  | true =>
    by_cases e : (addS s.1 a t.2.1.2.1 t.2.1.2.2.1 t.2.1.2.2.2).2.2 = 0
    · obtain ⟨j, hj, ha, hm, hk, hth, hun⟩ := add_good e
      rw [stepT_add ht ha]
      simp only [mayS, Bool.and_eq_true, decide_eq_true_eq] at hm
      obtain ⟨hop, hc⟩ := hm
      have hor : okr t.2.1.2.2.2 = true := by
        cases hr : okr t.2.1.2.2.2 with
        | true => rfl
        | false => rw [kE, hr] at hk; simp at hk
      simp only [okr, Bool.and_eq_true, decide_eq_true_eq] at hor
      have hns : slotB (newS t.2.1.2.1 t.2.1.2.2.1 t.2.1.2.2.2 a) = true := (if_pos rfl).trans (decide_eq_true hor.1)
      have hsa : saltS s.1 t.2.1.2.2.1 = false := by
        cases hs : saltS s.1 t.2.1.2.2.1 with
        | false => rfl
        | true => simp [thereS, hs] at hth
      have hno : ∀ k, k < 4 → (getS s.1 k).1 = true → ¬ (getS s.1 k).2.2.1 = t.2.1.2.2.1 := fun k hk hu he => by
        rw [saltS_yes (used_mem hk hu) he] at hsa; cases hsa
      refine ⟨check_set hc hj hns (show t.2.1.2.2.2 ≤ 4096 from hor.2), fun k hk hu => ?_, fun i k hi4 hk hui huk he => ?_⟩
      · simp only [getS_set hk hj, getI_set hj hk] at hu ⊢
        by_cases hkj : k = j
        · simp only [if_pos hkj]; exact ⟨by first | rfl | trivial, hop⟩
        · simp only [if_neg hkj] at hu ⊢; exact hi.new k hk hu
      · simp only [getS_set hi4 hj, getS_set hk hj] at hui huk he
        by_cases h1 : i = j
        · by_cases h2 : k = j
          · omega
          · simp only [if_pos h1, if_neg h2] at hui huk he
            exact absurd he.symm (hno k hk huk)
        · by_cases h2 : k = j
          · simp only [if_neg h1, if_pos h2] at hui huk he
            exact absurd he (hno i hi4 hui)
          · simp only [if_neg h1, if_neg h2] at hui huk he
            exact hi.far i k hi4 hk hui huk he
    · rw [stepT_no ht e]; exact hi
  | false =>
    by_cases e : (remS s.1 t.2.2).2 = 0
    · rw [stepT_rem ht e]
      have hz : slotB zS = true := by decide
      unfold remS at e ⊢
      split at e
      · cases e
      rename_i h1
      split at e
      · cases e
      rename_i h2
      rw [if_neg h1, if_neg h2]
      simp only [Bool.or_eq_true, Bool.not_eq_true', decide_eq_false_iff_not, decide_eq_true_eq, not_or] at h1
      have hj : t.2.2.toNat < 4 := by omega
      have hun : ∀ k, k < 4 → (getS (setS s.1 t.2.2.toNat zS) k).1 = true → ¬ k = t.2.2.toNat ∧ getS (setS s.1 t.2.2.toNat zS) k = getS s.1 k := fun k hk hu => by
        rw [getS_set hk hj] at hu ⊢
        by_cases hkj : k = t.2.2.toNat
        · rw [if_pos hkj] at hu; cases hu
        · exact ⟨hkj, if_neg hkj⟩
      refine ⟨check_set hi.chk hj hz (by decide), fun k hk hu => ?_, fun i k hi4 hk hui huk he => ?_⟩
      · obtain ⟨_, e1⟩ := hun k hk hu
        rw [e1] at hu
        show getS (setS s.1 t.2.2.toNat zS) k = _ ∧ _
        rw [e1]; exact hi.new k hk hu
      · obtain ⟨_, e1⟩ := hun i hi4 hui
        obtain ⟨_, e2⟩ := hun k hk huk
        have hui' := hui
        have huk' := huk
        have he' := he
        simp only at hui' huk' he'
        rw [e1] at hui' he'
        rw [e2] at huk' he'
        exact hi.far i k hi4 hk hui' huk' he'
    · rw [stepT_nor ht e]; exact hi
theorem inv_all {a : List UInt8} {ts : List Tn} : ∀ i, Inv a (stT a ts i)
  | 0 => inv_zero a
  | i + 1 => inv_step (inv_all i)
/-- What a used slot's own passphrase opens. -/
theorem inv_open {a : List UInt8} {s : Hd × I4} {k : Nat} (ha : a.length = 32) (hi : Inv a s) (hk : k < 4) (hu : (getS s.1 k).1 = true) :
    (getS s.1 k).2.2.1 = (getI s.2 k).2.2.1 ∧ (getS s.1 k).2.1 = (getI s.2 k).2.2.2 ∧ (unl s.1 (getI s.2 k).2.1).2.2 = 0 ∧ (unl s.1 (getI s.2 k).2.1).2.1 ≤ k ∧ ((unl s.1 (getI s.2 k).2.1).2.1 = k → (unl s.1 (getI s.2 k).2.1).1 = a) := by
  obtain ⟨e, hop⟩ := hi.new k hk hu
  have hm : mayS s.1 (getI s.2 k).2.1 = true := by simp [mayS, hop, hi.chk]
  obtain ⟨ho, har⟩ := op_new (p := (getI s.2 k).2.1) (b := (getI s.2 k).2.2.1) (z := (getI s.2 k).2.2.2) ha
  rw [← e] at ho har
  refine ⟨by rw [e]; rfl, by rw [e]; rfl, ?_⟩
  rcases unl_five hm with ⟨j, hj, hq, hb, hun⟩ | ⟨hn, _⟩
  · rw [hun]
    have hjk : j ≤ k := Nat.le_of_not_lt fun h => by rw [hb k h] at ho; cases ho
    refine ⟨rfl, hjk, fun h => ?_⟩
    simp only at h
    subst h
    exact har
  · rw [hn k hk] at ho; cases ho
/-! ## A turn's cells -/
def tnC (t : Tn) : List Value := [.bool t.1] ++ (bv t.2.1.1 ++ ([.string (str t.2.1.2.1)] ++ (bv t.2.1.2.2.1 ++ ([.int .i64 t.2.1.2.2.2] ++ [.int .i64 t.2.2]))))
theorem tnC_len {t : Tn} (h : OkT t) : (tnC t).length = 52 := by
  simp [tnC, h.1.1, h.1.2.1]
theorem tnC_used (t : Tn) : ((tnC t).drop 0).take 1 = [.bool t.1] := rfl
theorem tnC_new {t : Tn} (h : OkT t) : ((tnC t).drop 1).take 50 = ([bv t.2.1.1, [.string (str t.2.1.2.1)], bv t.2.1.2.2.1, [.int .i64 t.2.1.2.2.2]] : List (List Value)).flatten := by
  have e : (tnC t).drop 1 = ([bv t.2.1.1, [.string (str t.2.1.2.1)], bv t.2.1.2.2.1, [.int .i64 t.2.1.2.2.2]] : List (List Value)).flatten ++ [.int .i64 t.2.2] := by simp [tnC]
  rw [e, List.take_left' (by simp [h.1.1, h.1.2.1])]
theorem tnC_off {t : Tn} (h : OkT t) : ((tnC t).drop 51).take 1 = [.int .i64 t.2.2] := by
  have e : tnC t = ([.bool t.1] ++ (bv t.2.1.1 ++ ([.string (str t.2.1.2.1)] ++ (bv t.2.1.2.2.1 ++ [.int .i64 t.2.1.2.2.2])))) ++ [.int .i64 t.2.2] := by simp [tnC]
  rw [e, List.drop_left' (by simp [h.1.1, h.1.2.1])]
  rfl
theorem new_len {t : Tn} (h : OkT t) : (([bv t.2.1.1, [.string (str t.2.1.2.1)], bv t.2.1.2.2.1, [.int .i64 t.2.1.2.2.2]] : List (List Value)).flatten).length = 50 := by simp [h.1.1, h.1.2.1]
theorem turn_of (cs : List Value) (h : ∃ a b c, cs = a ++ (b ++ c) ∧ (∃ u, a = [.bool u]) ∧ (∃ a1 b1 c1 d1, b = a1 ++ (b1 ++ (c1 ++ d1)) ∧ (∃ k : List UInt8, a1 = bv k ∧ k.length = 32) ∧ (∃ s : ByteArray, b1 = [.string s] ∧ s.size ≤ reachBytes) ∧ (∃ k : List UInt8, c1 = bv k ∧ k.length = 16) ∧ (∃ i, d1 = [.int .i64 i] ∧ IntKind.i64.min ≤ i ∧ i ≤ IntKind.i64.max)) ∧ (∃ i, c = [.int .i64 i] ∧ IntKind.i64.min ≤ i ∧ i ≤ IntKind.i64.max)) : ∃ x : Tn, cs = tnC x ∧ OkT x := by
  obtain ⟨_, _, _, rfl, ⟨u, rfl⟩, ⟨_, _, _, _, rfl, ⟨k, rfl, hk⟩, ⟨sl, rfl, _⟩, ⟨b, rfl, hb⟩, ⟨z, rfl, hz⟩⟩, ⟨y, rfl, hy⟩⟩ := h
  obtain ⟨p, rfl⟩ := str_of sl
  exact ⟨(u, (k, p, b, z), y), by simp [tnC], ⟨hk, hb, hz⟩, hy⟩
theorem used_up {h : Hd} {q k : Nat} (hq : q < k) (hk : k < (usedL h).length) : (usedL h).getD q 0 < (usedL h).getD k 0 := by
  have hp : (usedL h).Pairwise (· < ·) := by
    cases e0 : h.s0.1 <;> cases e1 : h.s1.1 <;> cases e2 : h.s2.1 <;> cases e3 : h.s3.1 <;> simp [usedL, e0, e1, e2, e3]
  have := List.pairwise_iff_getElem.1 hp q k (by omega) hk hq
  simpa [List.getD, hk, show q < (usedL h).length by omega] using this
end Go.Kx
/- Own library, part Ti: shorter words for walks. -/
namespace Go.Kx
open Go
theorem Env.sl {a : Act} {n : Nat} {L L' : List (Nat × Value)} (h : Env a n L) (hs : Go.Kx.sel L (L'.map Prod.fst) = some L') : Env a n L' := h.sel _ hs
variable {P : Program} {ops : Array Oper} {D : Option (Nat → Prop)} {Q : Exit → Act → World → Prop} {w0 w w' : World} {M : List Nat} {H H' : List Ent}
  {a : Act} {n : Nat} {L : List (Nat × Value)} {rest : List (Bool × Oper)} {d : Nat} {ty : TypeId} {pos : String} {aft : Array Edge} {x y z : Operand} {u v r : Value}
theorem ww1 {x y : Code} (h : ∀ K : Act → World → Prop, (∀ {a w}, y.wp P Q a w → K a w) → x.wp P (Exit.then K Q) a w) : (Code.seq x y).wp P Q a w := wp_seq_k fun K hK => h K (fun {a w} => hK a w)
theorem wct {c : Operand} {x y : Code} (hE : Env a n L) (hc : ev L c = some (.bool true)) (h : x.wp P Q a w) : (Code.cond c x y).wp P Q a w := wp_cond_true (hE.eval hc) h
theorem wcf {c : Operand} {x y : Code} (hE : Env a n L) (hc : ev L c = some (.bool false)) (h : y.wp P Q a w) : (Code.cond c x y).wp P Q a w := wp_cond_false (hE.eval hc) h
/-- Which operations float, told by their kind (a conversion to a slice is none of these). -/
def flO (o : Oper) : Bool := match o.op with
  | .alloc _ | .box .. | .buildSlice .. | .store .. | .makeSlice .. | .makeMap .. | .panic _ => false
  | .call c => (match c.callee with
    | .builtin .append | .builtin .copy | .builtin .clear => false
    | .builtin _ => true
    | _ => false)
  | _ => true
def zipO : List Oper → List (Bool × Oper)
  | [] => []
  | o :: r => (flO o, o) :: zipO r
theorem zipO_map : ∀ l : List Oper, (zipO l).map (·.2) = l
  | [] => rfl
  | o :: r => by rw [zipO, List.map_cons, zipO_map r]
theorem wpp {id : Nat} {ops : Array Oper} (h : wpL P ops none Q (zipO ops.toList) a w) : (Code.region id ops false).wp P Q a w :=
  wp_region_list (by have := wpList_of_wpL _ a w h; rw [zipO_map] at this; exact this)
def e1 (d n : Nat) (o : Option Value) : Option Value := bif Nat.blt d n then o else none
theorem e1_ok {o : Option Value} (h : e1 d n o = some v) : o = some v ∧ Nat.blt d n = true := by
  unfold e1 at h
  cases hb : Nat.blt d n
  · rw [hb] at h; cases h
  · rw [hb] at h; exact ⟨h, rfl⟩
theorem sm (hE : Env a n L) (hx : e1 d n (ev L x) = some v) (k : ∀ a', Env a' n ((d, v) :: L) → wpL P ops D Q rest a' w) : wpL P ops D Q ((true, ⟨some d, .move x, ty, pos, aft, none⟩) :: rest) a w := s_move hE (e1_ok hx).1 (e1_ok hx).2 k
theorem sas (hE : Env a n L) (hx : e1 d n (ev L x) = some v) (k : ∀ a', Env a' n ((d, v) :: L) → wpL P ops D Q rest a' w) : wpL P ops D Q ((true, ⟨some d, .assign x, ty, pos, aft, none⟩) :: rest) a w := s_assign hE (e1_ok hx).1 (e1_ok hx).2 k
theorem sb {op : BinOp} {t t' : TypeId} (hE : Env a n L) (hx : e1 d n (ev L x) = some u) (hy : ev L y = some v) (hb : Bin P op t u v r) (k : ∀ a', Env a' n ((d, r) :: L) → wpL P ops D Q rest a' w) : wpL P ops D Q ((true, ⟨some d, .binOp op t x y t', ty, pos, aft, none⟩) :: rest) a w := s_bin hE (e1_ok hx).1 hy hb (e1_ok hx).2 k
theorem sf {s i o b off : Nat} (hE : Env a n L) (hx : e1 d n (ev L x) = some (.pointer (some ⟨b, off, none⟩))) (ho : fieldOff P s i = some o) (k : ∀ a', Env a' n ((d, .pointer (some ⟨b, off + o, none⟩)) :: L) → wpL P ops D Q rest a' w) : wpL P ops D Q ((true, ⟨some d, .fieldAddr s x i, ty, pos, aft, none⟩) :: rest) a w := s_fieldAddr hE (e1_ok hx).1 ho (e1_ok hx).2 k
def pkV (a b c : Option Value) : Option Value := match a with
  | some (.bool true) => b
  | some (.bool false) => c
  | _ => none
theorem pkt (hE : Env a n L) (hx : e1 d n (match ev L x with | some (.bool true) => ev L y | _ => none) = some v) (k : ∀ a', Env a' n ((d, v) :: L) → wpL P ops D Q rest a' w) : wpL P ops D Q ((true, ⟨some d, .pick x y z, ty, pos, aft, none⟩) :: rest) a w := by
  obtain ⟨h1, h2⟩ := e1_ok hx
  split at h1
  · rename_i e; exact s_pickt hE e h1 h2 k
  · cases h1
theorem pkf (hE : Env a n L) (hx : e1 d n (match ev L x with | some (.bool false) => ev L z | _ => none) = some v) (k : ∀ a', Env a' n ((d, v) :: L) → wpL P ops D Q rest a' w) : wpL P ops D Q ((true, ⟨some d, .pick x y z, ty, pos, aft, none⟩) :: rest) a w := by
  obtain ⟨h1, h2⟩ := e1_ok hx
  split at h1
  · rename_i e; exact s_pickf hE e h1 h2 k
  · cases h1
theorem sx {i : Nat} (hE : Env a n L) (hx : e1 d n (match ev L x with | some (.tuple vs) => vs[i]? | _ => none) = some v) (k : ∀ a', Env a' n ((d, v) :: L) → wpL P ops D Q rest a' w) : wpL P ops D Q ((true, ⟨some d, .extract x i, ty, pos, aft, none⟩) :: rest) a w := by
  obtain ⟨h1, h2⟩ := e1_ok hx
  split at h1
  · rename_i e; exact s_extract hE e h1 h2 k
  · cases h1
theorem gy {f : Bool} {dst : Option Tmp} {op : Op} {j : Nat} {b : Bool} (hE : Env a n L) (h : ((ops[j]?).bind (·.dst)).bind (fun t => lk t L) = some (.bool b)) (k : wpL P ops D Q ((f, ⟨dst, op, ty, pos, aft, none⟩) :: rest) a w) : wpL P ops D Q ((f, ⟨dst, op, ty, pos, aft, some (j, b)⟩) :: rest) a w := by
  obtain ⟨t, h1, h2⟩ := Option.bind_eq_some_iff.1 h
  exact g_yes hE h1 h2 k
theorem gf {f : Bool} {op : Op} {j : Nat} (hE : Env a n L) (h : e1 d n (((ops[j]?).bind (·.dst)).bind (fun t => lk t L)) = some (.bool false)) (k : ∀ a', Env a' n ((d, undef) :: L) → wpL P ops D Q rest a' w) : wpL P ops D Q ((f, ⟨some d, op, ty, pos, aft, some (j, true)⟩) :: rest) a w := by
  obtain ⟨t, h1, h2⟩ := Option.bind_eq_some_iff.1 (e1_ok h).1
  exact g_no (b := false) hE h1 h2 (e1_ok h).2 k
theorem gt {f : Bool} {op : Op} {j : Nat} (hE : Env a n L) (h : e1 d n (((ops[j]?).bind (·.dst)).bind (fun t => lk t L)) = some (.bool true)) (k : ∀ a', Env a' n ((d, undef) :: L) → wpL P ops D Q rest a' w) : wpL P ops D Q ((f, ⟨some d, op, ty, pos, aft, some (j, false)⟩) :: rest) a w := by
  obtain ⟨t, h1, h2⟩ := Option.bind_eq_some_iff.1 (e1_ok h).1
  exact g_no (b := true) hE h1 h2 (e1_ok h).2 k
abbrev zb (n : Nat) : List UInt8 := List.replicate n 0
end Go.Kx
