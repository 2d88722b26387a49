/- Own library: parts KxHm, KxFm, KxHn, KxK, KxK2, KxK3, KxSl, KxSo, KxSr. -/
import Derived.Test.YtniekapfoaiieaaGreatDoorKc4
import Derived.Lib.LaidTab
import Derived.Lib.ItoaNum
import Derived.Lib.ItoaMem
import Derived.Lib.ItoaLen
import Derived.Shelf.Strconv.Itoa2
set_option linter.unusedSimpArgs false
set_option linter.unusedVariables false
/- Own library, part Hm: a copy of whatever length into a part of a block; headers of what is short. -/
set_option linter.unusedSimpArgs false
namespace Go.Kx
open Go
variable {P : Program} {ops : Array Oper} {D : Option (Nat → Prop)} {Q : Exit → Act → World → Prop} {w0 w w' : World} {M : List Nat} {H H' : List Ent}
  {a : Act} {n : Nat} {L : List (Nat × Value)} {rest : List (Bool × Oper)} {d : Nat} {ty : TypeId} {pos : String} {aft : Array Edge} {x y z : Operand} {u v r : Value}
/-! ## Parts of slices of rows -/
/-! ## The reference's headers -/
def cut8 (b : List UInt8) : List (List UInt8) := (List.range 8).map fun i => seg b (64 * i) 64
@[simp] theorem cut8_len (b : List UInt8) : (cut8 b).length = 8 := by simp [cut8]
/-! ## What is got of sectors -/
/-! ## Bytes that are turned -/
end Go.Kx
/- Own library, part Fm: numbers as decimal texts. -/
set_option linter.unusedSimpArgs false
namespace Go.Kx
open Go
variable {P : Program} {w w' : World}
abbrev decW (u : Nat) : List UInt8 := Lib.decDigits u
/-- A table of the library's, where its variable lies. -/
def tabE (P : Program) (g : Nat) (name : String) (k : IntKind) (zs : List Int) : Ent where
  fp := []
  ro := [g]
  holds w := g < w.heap.size ∧ P.globalNamed name = some g ∧ Lib.TabIs P w name k zs
  loc w w' h hb := by
    obtain ⟨h1, h2, h3⟩ := h
    have e := hb g (.inr (.head _))
    refine ⟨?_, h2, ?_⟩
    · rw [Array.getElem?_eq_getElem h1] at e
      exact (Array.getElem?_eq_some_iff.1 e).1
    · unfold Lib.TabIs World.var? at *
      simp only [h2, Option.bind_some] at *
      rw [e]; exact h3
  old w h b hb := by
    simp at hb; subst hb; exact h.1
theorem tabE_of_laid {name : String} {k : IntKind} {zs : List Int} {rest : List (String × DataW Unit)} {g : Nat} {t e : TypeId} {n : Nat} {d : DataW Unit} {W : World}
    (hg : P.globalNamed name = some g) (hty : (P.globals[g]?).map (·.type) = some t) (ht : P.underlying t = some (.array n e)) (he : P.underlying e = some (.int k)) (hce : P.cellsOf e = 1) (hct : P.cellsOf t = n) (hd : d = Lib.tabData k zs)
    (h : laidMet P ((name, d) :: rest) W) : (tabE P g name k zs).holds W := by
  subst hd
  have hT := Lib.tabIs_of_head hg hty ht he hce hct h
  refine ⟨?_, hg, hT⟩
  have h' := hT
  unfold Lib.TabIs World.var? at h'
  simp only [hg, Option.bind_some] at h'
  rcases Nat.lt_or_ge g W.heap.size with h1 | h1
  · exact h1
  · rw [Array.getElem?_eq_none h1] at h'; simp at h'
abbrev enc8 : UInt8 → Value := fun b => Value.int .u8 (b.toNat : Int)
theorem holds_of_blk {b T nd : Nat} {old : List UInt8} (hB : (blk b [bv old] [24] T).holds w) (hl : old.length = 24) (hn : nd ≤ 24) : Sort.Holds enc8 w b 0 (old.take nd).toArray := by
  obtain ⟨hm, fr, hh, hf⟩ := hB
  intro j hj
  have hj' : j < nd := by simpa [hl, Nat.min_eq_left hn] using hj
  refine ⟨?_, ?_⟩
  · rw [cell_of_row w b (0 + j) _ T fr hh]
    have : (bv old)[j]? = some (bV (old.getD j 0)) := bv_get (by omega)
    simp only [List.flatten_cons, List.flatten_nil, List.append_nil, Nat.zero_add]
    simp only [List.getElem?_toArray, this]
    congr 2
    simp [enc8, bV, List.getD, List.getElem?_take, hj', show j < old.length by omega]
  · unfold World.frozen?
    simp only [hh]
    have hlen : ([bv old].flatten).length = 24 := by simp [hl]
    rw [hlen] at hf
    rcases hf with hf | hf
    · simp; omega
    · simp; omega
def digsN (u nd : Nat) : List UInt8 := (List.range nd).map fun t => Lib.dg u (nd - 1 - t)
theorem digsN_len (u nd : Nat) : (digsN u nd).length = nd := by simp [digsN]
theorem digsN_dec (u : Nat) : digsN u (Lib.nDigits u) = decW u := (Lib.decDigits_eq u).symm
theorem putRow_blk {b T nd n u v' : Nat} {old : List UInt8} {dk : Array UInt8} (hB : (blk b [bv old] [24] T).holds w) (hl : old.length = 24) (hn : nd ≤ 24) (hI : Lib.FmtInv nd u 0 v' dk) :
    Mem w [b] ((Sort.putRow enc8 w b 0 dk).drewN n) [blk b [bv (digsN u nd ++ old.drop nd)] [24] T] := by
  obtain ⟨hm, fr, hh, hf⟩ := hB
  have hcells : (Sort.putCells enc8 0 dk (bv old).toArray).toList = bv (digsN u nd ++ old.drop nd) := by
    apply List.ext_getElem?
    intro i
    simp only [Sort.putCells, Array.toList_mapIdx, List.getElem?_mapIdx]
    by_cases hi : i < 24
    · have h1 : (bv old)[i]? = some (bV (old.getD i 0)) := bv_get (by omega)
      have hlen : (digsN u nd ++ old.drop nd).length = 24 := by simp [digsN_len, hl]; omega
      rw [h1, bv_get (l := digsN u nd ++ old.drop nd) (by omega), Option.map_some]
      congr 1
      by_cases hd : i < nd
      · rw [if_pos ⟨Nat.zero_le _, by rw [hI.size]; omega⟩, Nat.sub_zero, hI.done i (Nat.zero_le _) hd]
        simp [enc8, bV, List.getD, List.getElem?_append, digsN_len, hd, digsN]
      · rw [if_neg (by rw [hI.size]; omega)]
        simp [List.getD, List.getElem?_append, digsN_len, hd, List.getElem?_drop, show nd + (i - nd) = i by omega]
    · rw [List.getElem?_eq_none (by simp; omega), List.getElem?_eq_none (by simp [digsN_len]; omega)]; rfl
  have hheap : ∀ b', ((Sort.putRow enc8 w b 0 dk).drewN n).heap[b']? = if b = b' then (w.heap[b']?).map (Sort.onCells (Sort.putCells enc8 0 dk)) else w.heap[b']? := by
    intro b'
    show (w.heap.modify b (Sort.onCells (Sort.putCells enc8 0 dk)))[b']? = _
    rw [Array.getElem?_modify]
  refine ⟨rfl, rfl, rfl, ?_, ?_, ?_, ?_, ?_, List.pairwise_singleton ..⟩
  · show w.heap.size ≤ (w.heap.modify b (Sort.onCells (Sort.putCells enc8 0 dk))).size
    simp
  · intro b' _ hb'
    rw [hheap, if_neg (fun e => hb' (by simp [e]))]
  · intro e he
    rw [List.mem_singleton.1 he]
    refine ⟨by simp [digsN_len, hl]; omega, fr, ?_, ?_⟩
    · rw [hheap, if_pos rfl, hh]
      simp only [Option.map_some, Sort.onCells, List.flatten_cons, List.flatten_nil, List.append_nil]
      congr 2
      exact Array.toList_inj.1 (by simpa using hcells)
    · have e1 : ([bv old].flatten).length = 24 := by simp [hl]
      have e2 : ([bv (digsN u nd ++ old.drop nd)].flatten).length = 24 := by simp [digsN_len, hl]; omega
      rw [e2]; rw [e1] at hf; exact hf
  · intro e he x hx
    rw [List.mem_singleton.1 he] at hx
    exact .inl hx
  · intro e he x hx
    rw [List.mem_singleton.1 he] at hx; cases hx
theorem decW_len (u : Nat) (h : u < 18446744073709551616) : (decW u).length ≤ 20 := by rw [Lib.decDigits_length]; exact Lib.nDigits_le20 u h
theorem decW_zero : decW 0 = [48] := by rw [decW, Lib.decDigits_one (by decide)]; rfl
/-! ## Boxes -/
def padT : List UInt8 := [112, 97, 100]
def sealT : List UInt8 := [115, 101, 97, 108]
def boxL (l q : List UInt8) (n : Nat) : List UInt8 := (((l ++ [32]) ++ q) ++ [32]) ++ decW n
def maskB (k l : List UInt8) (n : Nat) : List UInt8 := subW k (boxL l padT n)
def sealB (k l : List UInt8) (n : Nat) : List UInt8 := subW k (boxL l sealT n)
@[simp] theorem maskB_len (k l : List UInt8) (n : Nat) : (maskB k l n).length = 32 := subW_length ..
@[simp] theorem sealB_len (k l : List UInt8) (n : Nat) : (sealB k l n).length = 32 := subW_length ..
def tagB (k l : List UInt8) (n : Nat) (d : List UInt8) : List UInt8 := hmacW (sealB k l n) (plT 66 d)
@[simp] theorem tagB_len (k l : List UInt8) (n : Nat) (d : List UInt8) : (tagB k l n d).length = 32 := hmacW_length ..
def wrapD (k l : List UInt8) (n : Nat) (x : List UInt8) : List UInt8 := xorW x (maskB k l n)
theorem xorW_len {x y : List UInt8} (hx : x.length = 32) (hy : y.length = 32) : (xorW x y).length = 32 := by simp [xorW, hx, hy]
theorem wrapD_len {k l x : List UInt8} {n : Nat} (h : x.length = 32) : (wrapD k l n x).length = 32 := xorW_len h (maskB_len ..)
def unwB (k l : List UInt8) (n : Nat) (d t : List UInt8) : Bool := decide (tagB k l n d = t)
def unwK (k l : List UInt8) (n : Nat) (d t : List UInt8) : List UInt8 := if unwB k l n d t then wrapD k l n d else List.replicate 32 0
def unwE (k l : List UInt8) (n : Nat) (d t : List UInt8) : Nat := if unwB k l n d t then 0 else 12
theorem unwK_len {k l d t : List UInt8} {n : Nat} (h : d.length = 32) : (unwK k l n d t).length = 32 := by
  unfold unwK; split
  · exact wrapD_len h
  · simp
theorem xorW_back {x y : List UInt8} (h : x.length = y.length) : xorW (xorW x y) y = x := by
  apply List.ext_getElem
  · simp [xorW, h]
  · intro i h1 h2
    simp [xorW, UInt8.xor_assoc]
theorem wrap_back {k l x : List UInt8} {n : Nat} (h : x.length = 32) : wrapD k l n (wrapD k l n x) = x := xorW_back (by rw [h, maskB_len])
theorem unw_ok {k l x : List UInt8} {n : Nat} (h : x.length = 32) : unwK k l n (wrapD k l n x) (tagB k l n (wrapD k l n x)) = x ∧ unwE k l n (wrapD k l n x) (tagB k l n (wrapD k l n x)) = 0 := by
  simp [unwK, unwE, unwB, wrap_back h]
/-! ## The last digits of a number -/
def tailD (n : Nat) : Nat → List UInt8
  | 0 => []
  | i + 1 => UInt8.ofNat (48 + n / 10 ^ i % 10) :: tailD n i
@[simp] theorem tailD_len (n i : Nat) : (tailD n i).length = i := by
  induction i with
  | zero => rfl
  | succ i ih => simp [tailD, ih]
theorem tailD_dec : ∀ (i n : Nat), i + 1 = Lib.nDigits n → decW n = UInt8.ofNat (48 + n / 10 ^ i) :: tailD n i
  | 0, n, h => by
    by_cases k : n < 10
    · rw [decW, Lib.decDigits_one k]; simp [tailD]
    · have := Lib.nDigits_pos (n / 10)
      rw [Lib.nDigits_big k] at h; omega
  | i + 1, n, h => by
    by_cases k : n < 10
    · rw [Lib.nDigits_small k] at h; omega
    · rw [Lib.nDigits_big k] at h
      have ih := tailD_dec i (n / 10) (by omega)
      rw [decW, Lib.decDigits, dif_neg k]
      have hc : ∀ j, tailD n (j + 1) = tailD (n / 10) j ++ [UInt8.ofNat (48 + n % 10)] := by
        intro j
        induction j with
        | zero => simp [tailD]
        | succ j hj =>
          rw [tailD, hj, tailD, List.cons_append]
          congr 3
          rw [Nat.pow_succ, Nat.mul_comm, ← Nat.div_div_eq_div_mul]
      rw [show Lib.decDigits (n / 10) = UInt8.ofNat (48 + n / 10 / 10 ^ i) :: tailD (n / 10) i from ih, hc i, List.cons_append]
      congr 3
      rw [Nat.pow_succ, Nat.mul_comm, ← Nat.div_div_eq_div_mul]
theorem dig_more : ∀ {i n : Nat}, 10 ≤ n / 10 ^ i → i + 1 < Lib.nDigits n
  | 0, n, h => by
    have := Lib.nDigits_pos (n / 10)
    rw [Lib.nDigits_big (by simpa using h)]; omega
  | i + 1, n, h => by
    have e : n / 10 ^ (i + 1) = n / 10 / 10 ^ i := by rw [Nat.pow_succ, Nat.mul_comm, ← Nat.div_div_eq_div_mul]
    rw [e] at h
    have h1 := dig_more h
    by_cases k : n < 10
    · have : n / 10 = 0 := by omega
      rw [this, Nat.zero_div] at h; omega
    · rw [Lib.nDigits_big k]; omega
theorem dig_less : ∀ {i n : Nat}, n / 10 ^ i < 10 → Lib.nDigits n ≤ i + 1
  | 0, n, h => by rw [Lib.nDigits_small (by simpa using h)]; exact Nat.le_refl _
  | i + 1, n, h => by
    have e : n / 10 ^ (i + 1) = n / 10 / 10 ^ i := by rw [Nat.pow_succ, Nat.mul_comm, ← Nat.div_div_eq_div_mul]
    rw [e] at h
    have h1 := dig_less h
    by_cases k : n < 10
    · rw [Lib.nDigits_small k]; omega
    · rw [Lib.nDigits_big k]; omega
/-! ## Boxes, read -/
theorem mask_slot (k : List UInt8) : subW k [115, 108, 111, 116, 32, 112, 97, 100, 32, 48] = maskB k [115, 108, 111, 116] 0 := congrArg (subW k) (by simp [boxL, padT, decW_zero])
theorem seal_slot (k : List UInt8) : subW k [115, 108, 111, 116, 32, 115, 101, 97, 108, 32, 48] = sealB k [115, 108, 111, 116] 0 := congrArg (subW k) (by simp [boxL, sealT, decW_zero])
theorem laidMet_tail {name : String} {d : DataW Unit} {rest : List (String × DataW Unit)} {W : World} (h : laidMet P ((name, d) :: rest) W) : laidMet P rest W := by
  obtain ⟨ps, ⟨g, t, cs, fuel, p, q, h1, h2, h3, h4, h5, h6⟩, hn, hc⟩ := h
  subst h6
  exact ⟨q, h5, (List.nodup_append.1 hn).2.1, fun b off hp => hc b off (List.mem_append.2 (.inr hp))⟩
end Go.Kx
/- Own library, part Hn: a header that comes in as an argument. -/
set_option linter.unusedSimpArgs false
namespace Go.Kx
open Go
open Go.ChangeShapes Go.WideShapes Go.ChangeAt Go.RowKit
variable {P : Program} {W : World}
theorem split_at {cs : List Value} (n : Nat) : cs = cs.take n ++ cs.drop n := (List.take_append_drop n cs).symm
theorem seg2 {cs : List Value} {a b : Nat} (h : cs.length = a + b) : cs = (cs.drop 0).take a ++ (cs.drop a).take b := by
  conv => lhs; rw [split_at (cs := cs) a]
  rw [List.drop_zero, List.take_of_length_le (l := cs.drop a) (by simp; omega)]
theorem seg3 {cs : List Value} {a b c : Nat} (h : cs.length = a + b + c) : cs = (cs.drop 0).take a ++ ((cs.drop a).take b ++ (cs.drop (a + b)).take c) := by
  conv => lhs; rw [split_at (cs := cs) a, split_at (cs := cs.drop a) b]
  rw [List.drop_zero, List.drop_drop, List.take_of_length_le (l := cs.drop (a + b)) (by simp; omega)]
theorem seg4 {cs : List Value} {a b c d : Nat} (h : cs.length = a + b + c + d) : cs = (cs.drop 0).take a ++ ((cs.drop a).take b ++ ((cs.drop (a + b)).take c ++ (cs.drop (a + b + c)).take d)) := by
  conv => lhs; rw [split_at (cs := cs) a, split_at (cs := cs.drop a) b, split_at (cs := (cs.drop a).drop b) c]
  rw [List.drop_zero, List.drop_drop, List.drop_drop, List.take_of_length_le (l := cs.drop (a + b + c)) (by simp; omega)]
/-- The fields of a struct of 2, 3, 4 fields. -/
def fieldsL (P : Program) (fs : Array Field) : List (Nat × Nat × Nat) := fs.toList.map (fun f => (f.type, f.offset, P.cellsOf f.type))
theorem dec_f2 {t s t0 t1 n0 n1 : Nat} {fs : Array Field} {R0 R1 : List Value → Prop} (hu : P.underlying t = some (.struct fs)) (hs : P.cellsOf t = s) (hl : fieldsL P fs = [(t0, 0, n0), (t1, n0, n1)]) (hn : s = n0 + n1)
    (h0 : Dec P W t0 R0) (h1 : Dec P W t1 R1) : Dec P W t (fun cs => ∃ a b, cs = a ++ b ∧ R0 a ∧ R1 b) :=
  (dec_structL [(t0, 0, n0, R0), (t1, n0, n1, R1)] hu hs hl (by
    intro p hp; simp only [List.mem_cons, List.not_mem_nil, or_false] at hp
    rcases hp with rfl | rfl
    · exact h0
    · exact h1)).mono fun cs h => ⟨_, _, seg2 (h.1.trans hn), h.2 _ (.head _), h.2 _ (.tail _ (.head _))⟩
theorem dec_f3 {t s t0 t1 t2 n0 n1 n2 o2 : Nat} {fs : Array Field} {R0 R1 R2 : List Value → Prop} (hu : P.underlying t = some (.struct fs)) (hs : P.cellsOf t = s) (hl : fieldsL P fs = [(t0, 0, n0), (t1, n0, n1), (t2, o2, n2)]) (ho : o2 = n0 + n1) (hn : s = n0 + n1 + n2)
    (h0 : Dec P W t0 R0) (h1 : Dec P W t1 R1) (h2 : Dec P W t2 R2) : Dec P W t (fun cs => ∃ a b c, cs = a ++ (b ++ c) ∧ R0 a ∧ R1 b ∧ R2 c) :=
  (dec_structL [(t0, 0, n0, R0), (t1, n0, n1, R1), (t2, o2, n2, R2)] hu hs hl (by
    intro p hp; simp only [List.mem_cons, List.not_mem_nil, or_false] at hp
    rcases hp with rfl | rfl | rfl
    · exact h0
    · exact h1
    · exact h2)).mono fun cs h => ⟨_, _, _, seg3 (h.1.trans hn), h.2 _ (.head _), h.2 _ (.tail _ (.head _)), ho ▸ h.2 _ (.tail _ (.tail _ (.head _)))⟩
theorem dec_f4 {t s t0 t1 t2 t3 n0 n1 n2 n3 o2 o3 : Nat} {fs : Array Field} {R0 R1 R2 R3 : List Value → Prop} (hu : P.underlying t = some (.struct fs)) (hs : P.cellsOf t = s) (hl : fieldsL P fs = [(t0, 0, n0), (t1, n0, n1), (t2, o2, n2), (t3, o3, n3)]) (ho : o2 = n0 + n1) (ho3 : o3 = n0 + n1 + n2) (hn : s = n0 + n1 + n2 + n3)
    (h0 : Dec P W t0 R0) (h1 : Dec P W t1 R1) (h2 : Dec P W t2 R2) (h3 : Dec P W t3 R3) : Dec P W t (fun cs => ∃ a b c d, cs = a ++ (b ++ (c ++ d)) ∧ R0 a ∧ R1 b ∧ R2 c ∧ R3 d) :=
  (dec_structL [(t0, 0, n0, R0), (t1, n0, n1, R1), (t2, o2, n2, R2), (t3, o3, n3, R3)] hu hs hl (by
    intro p hp; simp only [List.mem_cons, List.not_mem_nil, or_false] at hp
    rcases hp with rfl | rfl | rfl | rfl
    · exact h0
    · exact h1
    · exact h2
    · exact h3)).mono fun cs h => ⟨_, _, _, _, seg4 (h.1.trans hn), h.2 _ (.head _), h.2 _ (.tail _ (.head _)), ho ▸ h.2 _ (.tail _ (.tail _ (.head _))), ho3 ▸ h.2 _ (.tail _ (.tail _ (.tail _ (.head _))))⟩
theorem dec_a2 {t e es : Nat} {R : List Value → Prop} (hu : P.underlying t = some (.array 2 e)) (hes : P.cellsOf e = es) (hts : P.cellsOf t = 2 * es) (he : Dec P W e R) : Dec P W t (fun cs => ∃ a b, cs = a ++ b ∧ R a ∧ R b) :=
  (dec_array hu hes hts he).mono fun cs h => ⟨_, _, seg2 (a := es) (b := es) (by omega), by have := h.2 0 (by omega); rwa [Nat.zero_mul] at this, by have := h.2 1 (by omega); rwa [Nat.one_mul] at this⟩
theorem dec_a4 {t e es : Nat} {R : List Value → Prop} (hu : P.underlying t = some (.array 4 e)) (hes : P.cellsOf e = es) (hts : P.cellsOf t = 4 * es) (he : Dec P W e R) : Dec P W t (fun cs => ∃ a b c d, cs = a ++ (b ++ (c ++ d)) ∧ R a ∧ R b ∧ R c ∧ R d) :=
  (dec_array hu hes hts he).mono fun cs h => ⟨_, _, _, _, seg4 (a := es) (b := es) (c := es) (d := es) (by omega), by have := h.2 0 (by omega); rwa [Nat.zero_mul] at this, by have := h.2 1 (by omega); rwa [Nat.one_mul] at this,
    by have := h.2 2 (by omega); rwa [show 2 * es = es + es by omega] at this, by have := h.2 3 (by omega); rwa [show 3 * es = es + es + es by omega] at this⟩
/-- The cells of boxes, volumes, slots, headers. -/
def boxC (d t : List UInt8) : List Value := bv d ++ bv t
def volC (v : Vo) : List Value := [.bool v.1] ++ ([.int .u64 (v.2.1 : Int)] ++ boxC v.2.2.1 v.2.2.2)
def slotC (s : So) : List Value := [.bool s.1] ++ ([.int .i64 s.2.1] ++ (bv s.2.2.1 ++ boxC s.2.2.2.1 s.2.2.2.2))
def hdC (h : Hd) : List Value := ([.int .i64 h.m] ++ [.int .i64 h.r]) ++ ((volC h.v0 ++ volC h.v1) ++ (slotC h.s0 ++ (slotC h.s1 ++ (slotC h.s2 ++ slotC h.s3))))
/-- The types' numbers. -/
structure HdT (P : Program) where
  (th tg tvs tv tss ts tx tk tt ta ti tb tn te : Nat)
  (fh fg fv fs fx : Array Field)
  uh : P.underlying th = some (.struct fh)
  ug : P.underlying tg = some (.struct fg)
  uvs : P.underlying tvs = some (.array 2 tv)
  uv : P.underlying tv = some (.struct fv)
  uss : P.underlying tss = some (.array 4 ts)
  us : P.underlying ts = some (.struct fs)
  ux : P.underlying tx = some (.struct fx)
  uk : P.underlying tk = some (.array 32 te)
  ut : P.underlying tt = some (.array 32 te)
  ua : P.underlying ta = some (.array 16 te)
  ui : P.underlying ti = some (.int .i64)
  ub : P.underlying tb = some .bool
  un : P.underlying tn = some (.int .u64)
  ue : P.underlying te = some (.int .u8)
  ch : P.cellsOf th = 462
  cg : P.cellsOf tg = 2
  cvs : P.cellsOf tvs = 2 * 66
  cv : P.cellsOf tv = 66
  css : P.cellsOf tss = 4 * 82
  cs : P.cellsOf ts = 82
  cx : P.cellsOf tx = 64
  ck : P.cellsOf tk = 32 * 1
  ct : P.cellsOf tt = 32 * 1
  ca : P.cellsOf ta = 16 * 1
  ce : P.cellsOf te = 1
  lh : fieldsL P fh = [(tg, 0, 2), (tvs, 2, 132), (tss, 134, 328)]
  lg : fieldsL P fg = [(ti, 0, 1), (ti, 1, 1)]
  lv : fieldsL P fv = [(tb, 0, 1), (tn, 1, 1), (tx, 2, 64)]
  ls : fieldsL P fs = [(tb, 0, 1), (ti, 1, 1), (ta, 2, 16), (tx, 18, 64)]
  lx : fieldsL P fx = [(tk, 0, 32), (tt, 32, 32)]
theorem dec_box (T : HdT P) : Dec P W T.tx (fun cs => ∃ d t, cs = boxC d t ∧ d.length = 32 ∧ t.length = 32) :=
  (dec_f2 T.ux T.cx T.lx rfl (dec_arr8 T.uk T.ue T.ce T.ck) (dec_arr8 T.ut T.ue T.ce T.ct)).mono fun cs h => by
    obtain ⟨a, b, rfl, ⟨d, rfl, hd⟩, ⟨t, rfl, ht⟩⟩ := h
    exact ⟨d, t, rfl, hd, ht⟩
theorem dec_vol (T : HdT P) : Dec P W T.tv (fun cs => ∃ v : Vo, cs = volC v ∧ OkV v) :=
  (dec_f3 T.uv T.cv T.lv rfl rfl (dec_bool T.ub) (dec_int T.un) (dec_box T)).mono fun cs h => by
    obtain ⟨a, b, c, rfl, ⟨u, rfl⟩, ⟨i, rfl, h1, h2⟩, ⟨d, t, rfl, hd, ht⟩⟩ := h
    obtain ⟨m, rfl⟩ := Int.eq_ofNat_of_zero_le (show 0 ≤ i from h1)
    have h2' : (m : Int) ≤ 18446744073709551615 := h2
    exact ⟨(u, m, d, t), rfl, by simp only; omega, hd, ht⟩
theorem dec_slot (T : HdT P) : Dec P W T.ts (fun cs => ∃ s : So, cs = slotC s ∧ OkS s) :=
  (dec_f4 T.us T.cs T.ls rfl rfl rfl (dec_bool T.ub) (dec_int T.ui) (dec_arr8 T.ua T.ue T.ce T.ca) (dec_box T)).mono fun cs h => by
    obtain ⟨a, b, c, d, rfl, ⟨u, rfl⟩, ⟨i, rfl, h1, h2⟩, ⟨s, rfl, hs⟩, ⟨x, t, rfl, hx, ht⟩⟩ := h
    exact ⟨(u, i, s, x, t), rfl, ⟨h1, h2⟩, hs, hx, ht⟩
theorem dec_hd (T : HdT P) : Dec P W T.th (fun cs => ∃ h : Hd, cs = hdC h ∧ OkHd h) :=
  (dec_f3 T.uh T.ch T.lh rfl rfl (dec_f2 T.ug T.cg T.lg rfl (dec_int T.ui) (dec_int T.ui)) (dec_a2 T.uvs T.cv T.cvs (dec_vol T)) (dec_a4 T.uss T.cs T.css (dec_slot T))).mono fun cs h => by
    obtain ⟨a, b, c, rfl, ⟨_, _, rfl, ⟨m, rfl, m1, m2⟩, ⟨r, rfl, r1, r2⟩⟩, ⟨_, _, rfl, ⟨v0, rfl, hv0⟩, ⟨v1, rfl, hv1⟩⟩, ⟨_, _, _, _, rfl, ⟨s0, rfl, hs0⟩, ⟨s1, rfl, hs1⟩, ⟨s2, rfl, hs2⟩, ⟨s3, rfl, hs3⟩⟩⟩ := h
    exact ⟨⟨m, r, v0, v1, s0, s1, s2, s3⟩, rfl, ⟨⟨m1, m2⟩, ⟨r1, r2⟩, hv0, hv1, hs0, hs1, hs2, hs3⟩⟩
theorem arg_hd {K : Type} {enc : TypeId × Value → K} (T : HdT P) {v : Value} {d : DataW K} {base : Nat} {qs : List MemPlace} (hval : Value.okWide P W .any base T.th v) (h : DataW.Trod enc P W 0 (fun _ => true) true T.th v d qs) (hw : ∀ m, m ∈ d.weights P T.th → m ≤ reachBytes) : ∃ x : Hd, v = .agg (hdC x).toArray ∧ OkHd x := by
  obtain ⟨cs, rfl, hcs⟩ := okWide_struct T.uh hval
  obtain ⟨x, hx, ok⟩ := trod_of (dec_hd T) h hw
  exact ⟨x, congrArg Value.agg (agg_of hx), ok⟩
theorem str_of (s : ByteArray) : ∃ l, s = str l := ⟨s.data.toList, by cases s; rfl⟩
end Go.Kx
/- Own library, part K: what the document's SHA-256 computes is what the given one computes; append of new memory. -/
namespace Go.Kx
open Go
variable {P : Program} {ops : Array Oper} {D : Option (Nat → Prop)} {Q : Exit → Act → World → Prop} {w0 w w' : World} {M : List Nat} {H H' : List Ent}
  {a : Act} {n : Nat} {L : List (Nat × Value)} {rest : List (Bool × Oper)} {d : Nat} {ty : TypeId} {pos : String} {aft : Array Edge} {x y z : Operand} {u v r : Value}

/-! ## Words, more -/

theorem wd_elem {l : List UInt32} {j : Nat} (h : j < l.length) : ((wd l).drop (j * 1)).take 1 = [wV (l.getD j 0)] := by
  apply List.ext_getElem?
  intro i
  cases i with
  | zero => simp [wd, List.getD, h]
  | succ i => simp; omega

theorem bin_rem32 {t : TypeId} {x y : UInt32} (h : y.toNat ≠ 0) : Bin P .rem t (wV x) (wV y) (wV (x % y)) := by
  have := bin_rem_nat (P := P) (t := t) (k := .u32) (m := x.toNat) h
  unfold wV; rw [UInt32.toNat_mod]; exact this
theorem bin_quo32 {t : TypeId} {x y : UInt32} (h : y.toNat ≠ 0) : Bin P .quo t (wV x) (wV y) (wV (x / y)) := by
  have := bin_quo_nat (P := P) (t := t) (k := .u32) (m := x.toNat) h (wrap_u32_lt (Nat.lt_of_le_of_lt (Nat.div_le_self _ _) x.toNat_lt))
  unfold wV; rw [UInt32.toNat_div]; exact this

theorem shrW_toNat (x : UInt32) (k : Nat) : (shrW x k).toNat = x.toNat / 2 ^ k := UInt32.toNat_ofNat_of_lt' (Nat.lt_of_le_of_lt (Nat.div_le_self _ _) x.toNat_lt)
theorem shlW_toNat (x : UInt32) (k : Nat) : (shlW x k).toNat = x.toNat * 2 ^ k % 2 ^ 32 := by simp [shlW]

theorem one_shl {k : Nat} (h : k < 32) : (shlW 1 k).toNat = 2 ^ k := by
  rw [shlW_toNat]
  have : 2 ^ k < 2 ^ 32 := Nat.pow_lt_pow_right (by omega) h
  simp only [UInt32.toNat_one, Nat.one_mul]
  exact Nat.mod_eq_of_lt this

theorem cut_eq {x : UInt32} {k : Nat} (h : k < 32) : x / shlW 1 k = shrW x k := by
  apply UInt32.toNat_inj.1
  rw [UInt32.toNat_div, one_shl h, shrW_toNat]

theorem rot_eq {x : UInt32} {k : Nat} (h0 : 0 < k) (h : k < 32) : shrW x k + shlW (x % shlW 1 k) (32 - k) = rotW x k := by
  have hx := x.toNat_lt
  have e32 : 2 ^ 32 = 2 ^ k * 2 ^ (32 - k) := by rw [← Nat.pow_add]; congr 1; omega
  have hlow : x.toNat % 2 ^ k * 2 ^ (32 - k) < 2 ^ 32 := by
    rw [e32]; exact Nat.mul_lt_mul_of_pos_right (Nat.mod_lt _ (Nat.two_pow_pos k)) (Nat.two_pow_pos _)
  have hhi : x.toNat / 2 ^ k < 2 ^ (32 - k) := by
    apply Nat.div_lt_of_lt_mul; rw [← e32]; exact hx
  have hm : x.toNat * 2 ^ (32 - k) % 2 ^ 32 = x.toNat % 2 ^ k * 2 ^ (32 - k) := by
    rw [e32, Nat.mul_comm (2 ^ k), Nat.mul_comm x.toNat, Nat.mul_mod_mul_left, Nat.mul_comm]
  have hs1 : (shlW (x % shlW 1 k) (32 - k)).toNat = x.toNat % 2 ^ k * 2 ^ (32 - k) := by
    rw [shlW_toNat, UInt32.toNat_mod, one_shl h, Nat.mod_eq_of_lt hlow]
  have hor : x.toNat / 2 ^ k ||| x.toNat % 2 ^ k * 2 ^ (32 - k) = x.toNat / 2 ^ k + x.toNat % 2 ^ k * 2 ^ (32 - k) := by
    have := Nat.two_pow_add_eq_or_of_lt hhi (x.toNat % 2 ^ k)
    rw [Nat.or_comm, Nat.mul_comm (x.toNat % 2 ^ k), ← this]
    omega
  have hlt : x.toNat / 2 ^ k + x.toNat % 2 ^ k * 2 ^ (32 - k) < 2 ^ 32 := by
    rw [← hor]; exact Nat.or_lt_two_pow (Nat.lt_of_le_of_lt (Nat.div_le_self _ _) hx) hlow
  apply UInt32.toNat_inj.1
  rw [UInt32.toNat_add, hs1, shrW_toNat, rotW, UInt32.toNat_or, shrW_toNat, shlW_toNat, hm, hor]
  exact Nat.mod_eq_of_lt hlt

def bitW (x : UInt32) (i : Nat) : UInt32 := shrW x i % 2
theorem bitW_eq (x : UInt32) (i : Nat) : bitW x i = if x.toNat.testBit i then 1 else 0 := by
  apply UInt32.toNat_inj.1
  rw [bitW, UInt32.toNat_mod, shrW_toNat, Nat.testBit_eq_decide_div_mod_eq]
  have h2 : (2 : UInt32).toNat = 2 := rfl
  rw [h2]
  by_cases h : x.toNat / 2 ^ i % 2 = 1
  · simp [h]
  · have : x.toNat / 2 ^ i % 2 = 0 := by omega
    simp [this]

/-- Bits from the top on, one behind the other. -/
def accW (f : Nat → UInt32) : Nat → UInt32
  | 0 => 0
  | j + 1 => 2 * accW f j + f (31 - j)
theorem accW_bits (x : UInt32) : ∀ j, j ≤ 32 → accW (bitW x) j = shrW x (32 - j)
  | 0, _ => by
    apply UInt32.toNat_inj.1
    rw [shrW_toNat]
    have := x.toNat_lt
    simp [accW]; omega
  | j + 1, h => by
    apply UInt32.toNat_inj.1
    have hx := x.toNat_lt
    have ih := accW_bits x j (by omega)
    have h2 : (2 : UInt32).toNat = 2 := rfl
    rw [accW, ih, UInt32.toNat_add, UInt32.toNat_mul, shrW_toNat, shrW_toNat, bitW, UInt32.toNat_mod, shrW_toNat, h2]
    have e1 : 32 - j = (31 - j) + 1 := by omega
    have e2 : 32 - (j + 1) = 31 - j := by omega
    rw [e1, e2, Nat.pow_succ, ← Nat.div_div_eq_div_mul]
    have hlt : x.toNat / 2 ^ (31 - j) < 2 ^ 32 := Nat.lt_of_le_of_lt (Nat.div_le_self _ _) hx
    omega
theorem accW_all (x : UInt32) : accW (bitW x) 32 = x := by
  rw [accW_bits x 32 (Nat.le_refl _)]
  apply UInt32.toNat_inj.1
  rw [shrW_toNat]; simp
theorem accW_congr {f g : Nat → UInt32} (h : ∀ i, f i = g i) : ∀ j, accW f j = accW g j
  | 0 => rfl
  | j + 1 => by rw [accW, accW, accW_congr h j, h]

def chB (e f g : UInt32) (i : Nat) : UInt32 := if bitW e i = 1 then bitW f i else bitW g i
def majB (a b c : UInt32) (i : Nat) : UInt32 := (bitW a i + bitW b i + bitW c i) / 2

theorem ch_eq (e f g : UInt32) : accW (chB e f g) 32 = g ^^^ (e &&& (f ^^^ g)) := by
  rw [← accW_all (g ^^^ (e &&& (f ^^^ g)))]
  refine accW_congr (fun i => ?_) 32
  simp only [chB, bitW_eq, UInt32.toNat_xor, UInt32.toNat_and, Nat.testBit_xor, Nat.testBit_and]
  cases e.toNat.testBit i <;> cases f.toNat.testBit i <;> cases g.toNat.testBit i <;> decide
theorem maj_eq (a b c : UInt32) : accW (majB a b c) 32 = ((a &&& b) ||| (a &&& c)) ||| (b &&& c) := by
  rw [← accW_all (((a &&& b) ||| (a &&& c)) ||| (b &&& c))]
  refine accW_congr (fun i => ?_) 32
  simp only [majB, bitW_eq, UInt32.toNat_or, UInt32.toNat_and, Nat.testBit_or, Nat.testBit_and]
  cases a.toNat.testBit i <;> cases b.toNat.testBit i <;> cases c.toNat.testBit i <;> decide

theorem be4_eq (a b c e : UInt8) : beW [a, b, c, e] = UInt32.ofNat a.toNat * 16777216 + UInt32.ofNat b.toNat * 65536 + UInt32.ofNat c.toNat * 256 + UInt32.ofNat e.toNat := by
  apply UInt32.toNat_inj.1
  have h1 := a.toNat_lt
  have h2 := b.toNat_lt
  have h3 := c.toNat_lt
  have h4 := e.toNat_lt
  have k1 : (16777216 : UInt32).toNat = 16777216 := rfl
  have k2 : (65536 : UInt32).toNat = 65536 := rfl
  have k3 : (256 : UInt32).toNat = 256 := rfl
  simp only [beW, List.foldl, UInt32.toNat_add, UInt32.toNat_mul, UInt32.toNat_ofNat', k1, k2, k3, UInt32.toNat_zero]
  omega

/-! ## The reference's numbers go round -/

def refW (n : List UInt32) (i : Nat) : List UInt32 := [gW n 0 i, gW n 1 i, gW n 2 i, gW n 3 i, gW n 4 i, gW n 5 i, gW n 6 i, gW n 7 i]

theorem gW_set_ne {n : List UInt32} {k i j : Nat} {x : UInt32} (h : whoI k i ≠ j) : gW (n.set j x) k i = gW n k i := by
  simp [gW, List.getD, List.getElem?_set_ne (Ne.symm h)]
theorem gW_set_eq {n : List UInt32} {k i j : Nat} {x : UInt32} (h : whoI k i = j) (hn : n.length = 8) : gW (n.set j x) k i = x := by
  have : j < n.length := by have := whoI_lt k i; omega
  simp [gW, List.getD, h, this]
theorem gW_next {n : List UInt32} {k i : Nat} (h : i < 64) : gW n (k + 1) (i + 1) = gW n k i := by
  have : whoI (k + 1) (i + 1) = whoI k i := by unfold whoI; congr 1; omega
  unfold gW; rw [this]

theorem ref_step {n : List UInt32} {s m : UInt32} {i : Nat} (hi : i < 64) (hn : n.length = 8) :
    refW (stepW n s m i) (i + 1) = [pW n s m i + (((rotW (gW n 0 i) 2 ^^^ rotW (gW n 0 i) 13) ^^^ rotW (gW n 0 i) 22) + mostW n i), gW n 0 i, gW n 1 i, gW n 2 i, gW n 3 i + pW n s m i, gW n 4 i, gW n 5 i, gW n 6 i] := by
  have ne : ∀ k l : Nat, k < 8 → l < 8 → k ≠ l → whoI k i ≠ whoI l i := by
    intro k l hk hl hkl; unfold whoI; omega
  have h0 : whoI 0 (i + 1) = whoI 7 i := by unfold whoI; omega
  have g0 : gW (stepW n s m i) 0 (i + 1) = pW n s m i + ((rotW (gW n 0 i) 2 ^^^ rotW (gW n 0 i) 13) ^^^ rotW (gW n 0 i) 22) + mostW n i := by
    unfold stepW
    exact gW_set_eq h0 (by simpa using hn)
  have g4 : gW (stepW n s m i) 4 (i + 1) = gW n 3 i + pW n s m i := by
    rw [gW_next hi]; unfold stepW
    rw [gW_set_ne (ne 3 7 (by omega) (by omega) (by omega)), gW_set_eq rfl hn]
  have gk : ∀ k, k < 7 → k ≠ 3 → gW (stepW n s m i) (k + 1) (i + 1) = gW n k i := by
    intro k hk h3
    rw [gW_next hi]; unfold stepW
    rw [gW_set_ne (ne k 7 (by omega) (by omega) (by omega)), gW_set_ne (ne k 3 (by omega) (by omega) h3)]
  unfold refW
  rw [g0, g4, gk 0 (by omega) (by omega), gk 1 (by omega) (by omega), gk 2 (by omega) (by omega), gk 4 (by omega) (by omega), gk 5 (by omega) (by omega), gk 6 (by omega) (by omega), UInt32.add_assoc]

theorem ref_start {n : List UInt32} (hn : n.length = 8) : refW n 0 = n := by
  match n, hn with
  | [a, b, c, d, e, f, g, h], _ => rfl
theorem ref_end {n : List UInt32} (hn : n.length = 8) : refW n 64 = n := by
  match n, hn with
  | [a, b, c, d, e, f, g, h], _ => rfl

/-- The first k sums. -/
def sumT (was n : List UInt32) : Nat → List UInt32
  | 0 => []
  | k + 1 => sumT was n k ++ [n.getD k 0 + was.getD k 0]
@[simp] theorem sumT_length (was n : List UInt32) : ∀ k, (sumT was n k).length = k
  | 0 => rfl
  | k + 1 => by simp [sumT, sumT_length was n k]
theorem sumT_all {was n : List UInt32} (hn : n.length = 8) : sumT was n 8 = sumW was n 8 := by
  match n, hn with
  | [a, b, c, d, e, f, g, h], _ => rfl

/-! ## Bytes of numbers -/

theorem bytes4 {n : List UInt32} {i : Nat} : bytesW n (4 * i + 4) = bytesW n (4 * i) ++ [UInt8.ofNat (n.getD i 0 / 16777216).toNat, UInt8.ofNat (n.getD i 0 / 65536).toNat, UInt8.ofNat (n.getD i 0 / 256).toNat, UInt8.ofNat (n.getD i 0).toNat] := by
  have e : bytesW n (4 * i + 4) = bytesW n (4 * i) ++ [UInt8.ofNat (shrW (n.getD (4 * i / 4) 0) (24 - 4 * i % 4 * 8)).toNat] ++ [UInt8.ofNat (shrW (n.getD ((4 * i + 1) / 4) 0) (24 - (4 * i + 1) % 4 * 8)).toNat] ++
      [UInt8.ofNat (shrW (n.getD ((4 * i + 2) / 4) 0) (24 - (4 * i + 2) % 4 * 8)).toNat] ++ [UInt8.ofNat (shrW (n.getD ((4 * i + 3) / 4) 0) (24 - (4 * i + 3) % 4 * 8)).toNat] := rfl
  rw [e]
  have a1 : 4 * i / 4 = i := by omega
  have a2 : (4 * i + 1) / 4 = i := by omega
  have a3 : (4 * i + 2) / 4 = i := by omega
  have a4 : (4 * i + 3) / 4 = i := by omega
  have b1 : 24 - 4 * i % 4 * 8 = 24 := by omega
  have b2 : 24 - (4 * i + 1) % 4 * 8 = 16 := by omega
  have b3 : 24 - (4 * i + 2) % 4 * 8 = 8 := by omega
  have b4 : 24 - (4 * i + 3) % 4 * 8 = 0 := by omega
  rw [a1, a2, a3, a4, b1, b2, b3, b4]
  simp only [shrW_toNat, UInt32.toNat_div, List.append_assoc, List.cons_append, List.nil_append]
  have k1 : (16777216 : UInt32).toNat = 16777216 := rfl
  have k2 : (65536 : UInt32).toNat = 65536 := rfl
  have k3 : (256 : UInt32).toNat = 256 := rfl
  rw [k1, k2, k3]
  simp

theorem set4 {b : List UInt8} {i : Nat} {p q r s : UInt8} (hb : b.length = 4 * i) (hi : i < 8) :
    ((((b ++ List.replicate (32 - 4 * i) 0).set (4 * i) p).set (4 * i + 1) q).set (4 * i + 2) r).set (4 * i + 3) s = b ++ [p, q, r, s] ++ List.replicate (32 - (4 * i + 4)) 0 := by
  obtain ⟨k, hk⟩ : ∃ k, 32 - 4 * i = k + 4 := ⟨32 - 4 * i - 4, by omega⟩
  rw [hk, show 32 - (4 * i + 4) = k by omega]
  have e : List.replicate (k + 4) (0 : UInt8) = 0 :: 0 :: 0 :: 0 :: List.replicate k 0 := rfl
  rw [e, List.set_append_right _ _ (by omega), hb, List.set_append_right _ _ (by omega), hb, List.set_append_right _ _ (by omega), hb, List.set_append_right _ _ (by omega), hb]
  simp

/-! ## append(s, make([]byte, n)...) -/

theorem run_appendZ {t xt ts e m m' c : Nat} {p : Option Addr} {ie : TypeInfo} (hu : P.underlying t = some (.slice e)) (hie : P.info? e = some ie) (hs : ie.size = 1) (hb : ie.bytes = 1) (hz : ie.zero = some (.int .u8 0)) (hxt : P.underlying xt = some (.int .i64)) (hts : P.underlying ts = some .string)
    (h63 : m + m' ≤ 1000000) (hmc : m ≤ c) (w : World) :
    (Builtin.append_ #[t, xt] ty #[.slice p m c, .int .i64 (m' : Int)]).run P w = (Builtin.append_ #[t, ts] ty #[.slice p m c, .string ⟨Array.replicate m' 0⟩]).run P w := by
  have hw : IntKind.i64.wrap (m' : Int) = (m' : Int) := wrap_i64 (by omega) (by omega)
  have hneg : ¬ ((m' : Int) < 0) := by omega
  have h48 : ¬ ((281474976710656 : Int) < (m' : Int)) := by omega
  have h63' : ¬ (9223372036854775807 < ((m : Int) + (m' : Int))) := by omega
  have hsz : (⟨Array.replicate m' 0⟩ : ByteArray).size = m' := by simp [ByteArray.size]
  have hzc : Builtin.zeroCells (Value.cells (.int .u8 0)) m' = (List.replicate m' (Value.int .u8 0)).toArray := by
    apply Array.ext'
    simp only [Builtin.zeroCells, Value.cells]
    apply List.ext_getElem?
    intro i
    by_cases hi : i < m'
    · simp [hi, Nat.mod_one]
    · simp [hi]
  have hfc : ∀ w, (Builtin.firstCells 1 m' (.string ⟨Array.replicate m' 0⟩)).run P w = .ok (List.replicate m' (Value.int .u8 0)).toArray w := by
    intro w
    have e : (ByteArray.extract ⟨Array.replicate m' 0⟩ 0 m').data.map (fun b => Value.int .u8 b.toNat) = (List.replicate m' (Value.int .u8 0)).toArray := by
      apply Array.ext'
      simp [ByteArray.data_extract]
    simp only [Builtin.firstCells, e, Sem.run_pure]
  have hap : ∀ w, (if m' * 1 = 0 then (pure #[] : Sem (Array Value)) else do pure (Builtin.zeroCells (← zeroValue e).cells m')).run P w = .ok (List.replicate m' (Value.int .u8 0)).toArray w := by
    intro w
    by_cases h0 : m' = 0
    · subst h0; simp
    · have : ¬ (m' * 1 = 0) := by omega
      simp [this, zeroValue, typeInfo, hie, hz, hzc, Sem.run_bind]
  by_cases h0 : m' = 0
  · subst h0
    have hs0 : (⟨#[]⟩ : ByteArray).size = 0 := rfl
    have hf0 : ∀ w, (Builtin.firstCells 1 0 (.string ⟨#[]⟩)).run P w = .ok #[] w := fun w => by simpa using hfc w
    simp [Builtin.append_, run_underlying hu, run_underlying hxt, run_underlying hts, sizeOf, typeInfo, zeroValue, hie, hs, hb, hz, asInt, asIntOf, (show IntKind.i64.wrap 0 = 0 by decide), hmc, hs0, Builtin.lenOf, hf0]
  · have hpos : ¬ ((m' : Int) ≤ 0) := by omega
    have hpos' : ¬ (m' ≤ 0) := by omega
    by_cases hroom : m + m' ≤ c
    · simp [Builtin.append_, run_underlying hu, run_underlying hxt, run_underlying hts, sizeOf, typeInfo, zeroValue, hie, hs, hb, hz, asInt, asIntOf, hw, hneg, h48, hroom, hsz, Builtin.lenOf, hfc, hpos, hpos', h0, hzc]
      skip
    · have hfit : ¬ (281474976710656 < Builtin.nextslicecap (m + m') c * 1) := by have := growslice_fits (need := m + m') (old := c) (bytes := 1) (by omega) (by omega); omega
      simp only [Nat.mul_one] at hfit
      simp [Builtin.append_, run_underlying hu, run_underlying hxt, run_underlying hts, sizeOf, typeInfo, zeroValue, hie, hs, hb, hz, asInt, asIntOf, hw, hneg, h48, hroom, hsz, Builtin.lenOf, hfc, h63', hfit, hpos, hpos', h0, hzc]
      skip

theorem s_appendZ {t xt ts e m m' : Nat} {bs : List UInt8} (hE : Env a n L) (hx : ev L x = some v) (hy : ev L y = some (.int .i64 (m' : Int))) (hM : Mem w0 M w (own v 1 m (bv bs) :: H)) (ht : SlT P t e 1 1)
    (hz : (P.info? e).bind (·.zero) = some (.int .u8 0)) (hxt : P.underlying xt = some (.int .i64)) (hts : P.underlying ts = some .string) (hD : D = none) (h63 : m + m' ≤ 1000000) (hn : Nat.blt d n = true)
    (k : ∀ a' v' w', Env a' n ((d, v') :: L) → Mem w0 M w' (own v' 1 (m + m') (bv (bs ++ List.replicate m' 0)) :: H) → wpL P ops D Q rest a' w') :
    wpL P ops D Q ((false, ⟨some d, .call { callee := .builtin .append, args := #[x, y], argTypes := #[t, xt] }, ty, pos, aft, none⟩) :: rest) a w := by
  subst hD
  have hA : ∃ v' w', (Builtin.append_ #[t, xt] ty #[v, .int .i64 (m' : Int)]).run P w = .ok v' w' ∧ Appended w w' v v' 1 (m + m') (bv bs ++ bv (List.replicate m' 0)) := by
    have ht' := ht
    obtain ⟨hu, hs, hb, _⟩ := ht
    obtain ⟨ie, hie⟩ : ∃ ie, P.info? e = some ie := by cases h : P.info? e with | none => simp [h] at hs | some i => exact ⟨i, rfl⟩
    simp only [hie, Option.map_some, Option.some.injEq, Option.bind_some] at hs hb hz
    have hown := hM.get 0 rfl
    obtain ⟨p, c, hv⟩ : ∃ p c, v = .slice p m c := own_slice hown
    obtain ⟨c', hrd⟩ := own_rd hown
    have hmc : m ≤ c := by
      have := rd_len hrd
      rcases hrd.2 with ⟨q, h1, h2, h3⟩ | ⟨b, o, h1, h2, _⟩
      · omega
      · rw [hv] at h1; cases h1; exact h2
    have hsrc : Src P 1 ts (.string ⟨Array.replicate m' 0⟩) m' (bv (List.replicate m' 0)) w := by
      have := Src.str (P := P) (w := w) hts ⟨Array.replicate m' 0⟩
      simpa [ByteArray.size] using this
    obtain ⟨v', w', hr, hA⟩ := run_append (ty := ty) ht' hown hsrc (by rw [maxLen_eq]; omega) (by omega)
    refine ⟨v', w', ?_, hA⟩
    rw [hv, run_appendZ hu hie hs hb hz hxt hts h63 hmc]
    rw [hv] at hr; exact hr
  obtain ⟨v', w', hr, hA⟩ := hA
  refine b_val hE hn (v := v') (w' := w') ?_ trivial (fun a' hE' => k a' v' w' hE' ?_)
  · simp [execOp, resolve, invoke, builtin, hE.eval hx, hE.eval hy, hr]
  · have := hM.append hA
    rw [← bv_append] at this
    exact this

end Go.Kx
/- Own library, part K2: numbers of 64 bits; the reference's primes and roots, in plain Lean. -/
namespace Go.Kx
open Go
variable {P : Program} {ops : Array Oper} {D : Option (Nat → Prop)} {Q : Exit → Act → World → Prop} {w0 w w' : World} {M : List Nat} {H H' : List Ent}
  {a : Act} {n : Nat} {L : List (Nat × Value)} {rest : List (Bool × Oper)} {d : Nat} {ty : TypeId} {pos : String} {aft : Array Edge} {x y z : Operand} {u v r : Value}

def vV (x : UInt64) : Value := .int .u64 (x.toNat : Int)
theorem wrap_u64_ofNat (m : Nat) : IntKind.u64.wrap (m : Int) = ((UInt64.ofNat m).toNat : Int) := by
  rw [IntKind.wrap_u64]; simp
theorem wrap_u64_lt {m : Nat} (h : m < 2 ^ 64) : IntKind.u64.wrap (m : Int) = (m : Int) := by
  rw [wrap_u64_ofNat, UInt64.toNat_ofNat_of_lt' h]
theorem bin_add64 {t : TypeId} {x y : UInt64} : Bin P .add t (vV x) (vV y) (vV (x + y)) :=
  bin_add (by
    have := wrap_u64_ofNat (x.toNat + y.toNat)
    rw [Int.natCast_add] at this
    rw [this, UInt64.ofNat_add]; simp)
theorem bin_mul64 {t : TypeId} {x y : UInt64} : Bin P .mul t (vV x) (vV y) (vV (x * y)) :=
  bin_mul (by
    have := wrap_u64_ofNat (x.toNat * y.toNat)
    rw [Int.natCast_mul] at this
    rw [this, UInt64.ofNat_mul]; simp)
theorem bin_and64 {t : TypeId} {x y : UInt64} : Bin P .and t (vV x) (vV y) (vV (x &&& y)) := bin_of rfl fun w => by
  have e : (BitVec.ofInt IntKind.u64.bits (x.toNat : Int) &&& BitVec.ofInt IntKind.u64.bits (y.toNat : Int)).toNat = (x &&& y).toNat := by
    show (BitVec.ofInt 64 (x.toNat : Int) &&& BitVec.ofInt 64 (y.toNat : Int)).toNat = _
    simp [BitVec.toNat_and]
  simp only [vV, binOp, Op.intBits]
  rw [if_neg (by simp), e, wrap_u64_lt (UInt64.toNat_lt _)]; rfl
def shrV (x : UInt64) (k : Nat) : UInt64 := UInt64.ofNat (x.toNat / 2 ^ k)
def shlV (x : UInt64) (k : Nat) : UInt64 := UInt64.ofNat (x.toNat * 2 ^ k)
theorem bin_shr64 {t : TypeId} {x : UInt64} {k' : IntKind} {s : Nat} {j : Int} (hj : j = (s : Int)) (hs : s ≤ 64) : Bin P .shr t (vV x) (.int k' j) (vV (shrV x s)) := by
  have h := bin_shr_nat (P := P) (t := t) (k := .u64) (k' := k') (m := x.toNat) hj hs
  have e : (shrV x s).toNat = x.toNat / 2 ^ s := UInt64.toNat_ofNat_of_lt' (Nat.lt_of_le_of_lt (Nat.div_le_self _ _) x.toNat_lt)
  unfold vV; rw [e]; exact h
theorem bin_shl64 {t : TypeId} {x : UInt64} {k' : IntKind} {s : Nat} {j : Int} (hj : j = (s : Int)) (hs : s ≤ 64) : Bin P .shl t (vV x) (.int k' j) (vV (shlV x s)) := bin_of rfl fun w => by
  subst hj
  have h1 : ¬ ((s : Int) < 0) := by omega
  have h2 : min (s : Int).toNat IntKind.u64.bits = s := by show min s 64 = s; omega
  simp only [vV, binOp, Op.shift, h1, if_false, h2]
  have e : (x.toNat : Int) * 2 ^ s = ((x.toNat * 2 ^ s : Nat) : Int) := by simp
  rw [e, wrap_u64_ofNat]; rfl
theorem bin_rem64 {t : TypeId} {x y : UInt64} (h : y.toNat ≠ 0) : Bin P .rem t (vV x) (vV y) (vV (x % y)) := by
  have := bin_rem_nat (P := P) (t := t) (k := .u64) (m := x.toNat) h
  unfold vV; rw [UInt64.toNat_mod]; exact this

def vd (l : List UInt64) : List Value := l.map vV
@[simp] theorem vd_length (l : List UInt64) : (vd l).length = l.length := by simp [vd]
theorem vd_append (a b : List UInt64) : vd (a ++ b) = vd a ++ vd b := by simp [vd]
theorem vd_one (l : List UInt64) : One (vd l) := fun v hv => by
  obtain ⟨x, _, rfl⟩ := List.mem_map.1 hv; rfl
theorem vd_elem {l : List UInt64} {j : Nat} (h : j < l.length) : ((vd l).drop (j * 1)).take 1 = [vV (l.getD j 0)] := by
  apply List.ext_getElem?
  intro i
  cases i with
  | zero => simp [vd, List.getD, h]
  | succ i => simp; omega
def bl (l : List Bool) : List Value := l.map .bool
@[simp] theorem bl_length (l : List Bool) : (bl l).length = l.length := by simp [bl]
theorem bl_elem {l : List Bool} {j : Nat} (h : j < l.length) : ((bl l).drop (j * 1)).take 1 = [.bool (l.getD j false)] := by
  apply List.ext_getElem?
  intro i
  cases i with
  | zero => simp [bl, List.getD, h]
  | succ i => simp; omega
theorem bl_set {l : List Bool} {j : Nat} {b : Bool} (h : j < l.length) : wr (j * 1) [.bool b] (bl l) = bl (l.set j b) := by
  rw [Nat.mul_one, wr_set (by simpa using h)]
  simp [bl, List.map_set]

/-- The upper half of a product, as it is reckoned. -/
def mulHi (x y : UInt64) : UInt64 :=
  (shrV x 32 * shrV y 32 + shrV (shrV x 32 * (y &&& 4294967295) + shrV ((x &&& 4294967295) * (y &&& 4294967295)) 32) 32) +
    shrV (((shrV x 32 * (y &&& 4294967295) + shrV ((x &&& 4294967295) * (y &&& 4294967295)) 32) &&& 4294967295) + (x &&& 4294967295) * shrV y 32) 32

def leB (high low limit : UInt64) : Bool := decide ((high.toNat : Int) < (limit.toNat : Int)) || (decide ((high.toNat : Int) = (limit.toNat : Int)) && decide ((low.toNat : Int) = 0))
def withinB (x p : UInt64) (cube : Bool) : Bool :=
  match cube with
  | true => leB (mulHi x x * x + mulHi (x * x) x) (x * x * x) (p * 4294967296)
  | false => leB (mulHi x x) (x * x) p

def rootX (p : UInt64) (cube : Bool) : Nat → UInt64
  | 0 => 0
  | j + 1 => match withinB (rootX p cube j + shlV 1 (37 - j)) p cube with
    | true => rootX p cube j + shlV 1 (37 - j)
    | false => rootX p cube j
def rootW (p : UInt64) (cube : Bool) : UInt32 := UInt32.ofNat (rootX p cube 38 % 4294967296).toNat

def markB (n : Nat) : Nat → List Bool → List Bool
  | 0, l => l
  | k + 1, l => (markB n k l).set (n + k * n) true
@[simp] theorem markB_length (n : Nat) (l : List Bool) : ∀ k, (markB n k l).length = l.length
  | 0 => rfl
  | k + 1 => by simp [markB, markB_length n l k]

def primS : Nat → List Bool × List UInt64
  | 0 => (List.replicate 400 false, [])
  | j + 1 => match (primS j).1.getD (2 + j) false with
    | true => primS j
    | false => (markB (2 + j) (399 / (2 + j)) (primS j).1, (primS j).2 ++ [UInt64.ofNat (2 + j)])
theorem primS_length : ∀ j, (primS j).1.length = 400
  | 0 => by show (List.replicate 400 false).length = 400; exact List.length_replicate ..
  | j + 1 => by
    rw [primS]; split
    · exact primS_length j
    · simp [primS_length j]
theorem primS_prefix : ∀ {i j : Nat}, i ≤ j → (primS i).2 <+: (primS j).2
  | i, 0, h => by obtain rfl : i = 0 := by omega
                  exact List.prefix_refl _
  | i, j + 1, h => by
    rcases Nat.lt_or_eq_of_le h with h' | rfl
    · refine (primS_prefix (show i ≤ j by omega)).trans ?_
      rw [primS]; split
      · exact List.prefix_refl _
      · exact List.prefix_append ..
    · exact List.prefix_refl _
def primesW (many : Nat) : List UInt64 := (primS 398).2.take many
theorem primes_end {j many : Nat} (hj : j ≤ 398) (h1 : (primS j).2.length ≤ many) (h2 : j = 398 ∨ (primS j).2.length = many) : (primS j).2 = primesW many := by
  unfold primesW
  rcases h2 with rfl | h2
  · exact (List.take_of_length_le h1).symm
  · have := primS_prefix hj
    rw [← h2]
    exact List.prefix_iff_eq_take.1 this
theorem mark_more {n k : Nat} (hn : 0 < n) : n + k * n < 400 ↔ k < 399 / n := by
  have : n + k * n = (k + 1) * n := by rw [Nat.add_mul]; omega
  rw [this, Nat.lt_div_iff_mul_lt hn]
  rw [Nat.add_mul]
  have h := Nat.le_div_iff_mul_le (x := k + 1) (y := 399) hn
  constructor
  · intro h; omega
  · intro h; omega

theorem overW_append : ∀ (q r : Nat) (n : List UInt32) (a b : List UInt8), a.length = 64 * q → overW (q + r) n (a ++ b) = overW r (overW q n a) b
  | 0, r, n, a, b, h => by
    have : a = [] := List.eq_nil_of_length_eq_zero (by omega)
    subst this; simp [overW]
  | q + 1, r, n, a, b, h => by
    rw [show q + 1 + r = (q + r) + 1 by omega, overW, overW, List.take_append_of_le_length (by omega), List.drop_append_of_le_length (by omega)]
    exact overW_append q r _ _ b (by simp; omega)

theorem sha_whole (bs : List UInt8) : shaW bs = bytesW (overW ((bs ++ tailW bs.length).length / 64) seedsW (bs ++ tailW bs.length)) 32 := by
  have ht := tailW_length bs.length
  simp only [shaW, endW, Nat.zero_add]
  have e : bs ++ tailW bs.length = bs.take (64 * (bs.length / 64)) ++ (bs.drop (64 * (bs.length / 64)) ++ tailW bs.length) := by
    rw [← List.append_assoc, List.take_append_drop]
  have h1 : (bs.take (64 * (bs.length / 64))).length = 64 * (bs.length / 64) := by simp; omega
  have h2 : (bs ++ tailW bs.length).length / 64 = bs.length / 64 + (bs.drop (64 * (bs.length / 64)) ++ tailW bs.length).length / 64 := by
    simp only [List.length_append, List.length_drop]; omega
  rw [h2, e, overW_append _ _ _ _ _ h1]

theorem zeros_eq (n : Nat) : (if (64 - (n + 9) % 64) = 64 then 0 else 64 - (n + 9) % 64) = zerosW n := by
  unfold zerosW; split <;> omega

end Go.Kx
/- Own library, part K3: the salts and seeds are roots of primes. -/
namespace Go.Kx
open Go
theorem salts_are : (primesW 64).map (fun p => rootW p true) = saltsW := by decide +kernel
theorem seeds_are : (primesW 8).map (fun p => rootW p false) = seedsW := by decide +kernel

end Go.Kx
/- Own library, part Sl: passphrases' slots, in plain Lean. -/
set_option linter.unusedSimpArgs false
namespace Go.Kx
open Go
variable {P : Program} {ops : Array Oper} {D : Option (Nat → Prop)} {Q : Exit → Act → World → Prop} {w0 w w' : World} {M : List Nat} {H H' : List Ent}
  {a : Act} {n : Nat} {L : List (Nat × Value)} {rest : List (Bool × Oper)} {d : Nat} {ty : TypeId} {pos : String} {aft : Array Edge} {x y z : Operand} {u v r : Value}
def slotT : List UInt8 := [115, 108, 111, 116]
def okp (p : List UInt8) : Bool := decide (1 ≤ p.length) && decide (p.length ≤ 48)
def okr (z : Int) : Bool := decide (1 ≤ z) && decide (z ≤ 4096)
def phrZ (p : List UInt8) : List UInt8 := if okp p then phrW p else []
def passE (p : List UInt8) : Nat := if okp p then 0 else 2
def keyZ (b a : List UInt8) (z : Int) : List UInt8 := if okr z then keyW b a z.toNat 32 else []
def roundE (z : Int) : Nat := if okr z then 0 else 2
theorem phrZ_len (p : List UInt8) : (phrZ p).length ≤ 49 := by
  unfold phrZ; split
  · rename_i h; simp [okp] at h; simp [phrW]; omega
  · simp
def kK (p a : List UInt8) (z : Int) : List UInt8 := if okp p && okr z then keyW (phrW p) a z.toNat 32 else List.replicate 32 0
def kE (p : List UInt8) (z : Int) : Nat := if okp p && okr z then 0 else 2
theorem vh (p a : List UInt8) (z : Int) : (kK p a z).length = 32 := by unfold kK; split <;> simp
def keyS (p : List UInt8) (s : So) : List UInt8 := kK p s.2.2.1 s.2.1
def opS (p : List UInt8) (s : So) : Bool := s.1 && unwB (keyS p s) slotT 0 s.2.2.2.1 s.2.2.2.2
def arS (p : List UInt8) (s : So) : List UInt8 := wrapD (keyS p s) slotT 0 s.2.2.2.1
theorem arS_len {p : List UInt8} {s : So} (h : OkS s) : (arS p s).length = 32 := wrapD_len h.2.2.1
def mayS (h : Hd) (p : List UInt8) : Bool := okp p && decide (checkH h = 0)
def unl (h : Hd) (p : List UInt8) : List UInt8 × Nat × Nat :=
  if !mayS h p then (List.replicate 32 0, 0, 2) else if opS p h.s0 then (arS p h.s0, 0, 0) else if opS p h.s1 then (arS p h.s1, 1, 0) else if opS p h.s2 then (arS p h.s2, 2, 0) else if opS p h.s3 then (arS p h.s3, 3, 0) else (List.replicate 32 0, 0, 12)
theorem unl_len {h : Hd} (k : OkHd h) (p : List UInt8) : (unl h p).1.length = 32 := by
  unfold unl
  split
  · simp
  split
  · exact arS_len k.s0
  split
  · exact arS_len k.s1
  split
  · exact arS_len k.s2
  split
  · exact arS_len k.s3
  · simp
def usedL (h : Hd) : List Nat := (((if h.s0.1 then [0] else []) ++ (if h.s1.1 then [1] else [])) ++ (if h.s2.1 then [2] else [])) ++ (if h.s3.1 then [3] else [])
theorem usedL_lt {h : Hd} : ∀ i, i ∈ usedL h → i < 4 := by
  intro i hi
  unfold usedL at hi
  simp only [List.mem_append] at hi
  rcases hi with ((hi | hi) | hi) | hi <;> (split at hi <;> simp at hi <;> omega)
theorem usedL_len {h : Hd} : (usedL h).length ≤ 4 := by
  unfold usedL
  cases h.s0.1 <;> cases h.s1.1 <;> cases h.s2.1 <;> cases h.s3.1 <;> simp
def freeS (h : Hd) : Int := if !h.s0.1 then 0 else if !h.s1.1 then 1 else if !h.s2.1 then 2 else if !h.s3.1 then 3 else -1
def getS (h : Hd) : Nat → So
  | 0 => h.s0
  | 1 => h.s1
  | 2 => h.s2
  | _ => h.s3
def setS (h : Hd) : Nat → So → Hd
  | 0, s => { h with s0 := s }
  | 1, s => { h with s1 := s }
  | 2, s => { h with s2 := s }
  | _, s => { h with s3 := s }
theorem setS_ok {h : Hd} {s : So} (k : OkHd h) (ks : OkS s) : ∀ i, OkHd (setS h i s)
  | 0 => ⟨k.m, k.r, k.v0, k.v1, ks, k.s1, k.s2, k.s3⟩
  | 1 => ⟨k.m, k.r, k.v0, k.v1, k.s0, ks, k.s2, k.s3⟩
  | 2 => ⟨k.m, k.r, k.v0, k.v1, k.s0, k.s1, ks, k.s3⟩
  | _ + 3 => ⟨k.m, k.r, k.v0, k.v1, k.s0, k.s1, k.s2, ks⟩
/-- The used ones of the first so many slots. -/
def usedP (h : Hd) : Nat → List Nat
  | 0 => []
  | j + 1 => usedP h j ++ if (getS h j).1 then [j] else []
theorem usedP_all {h : Hd} : usedP h 4 = usedL h := by simp [usedP, usedL, getS]
theorem usedP_len (h : Hd) : ∀ j, (usedP h j).length ≤ j := by
  intro j
  induction j with
  | zero => exact Nat.le_refl _
  | succ j ih =>
    rw [usedP, List.length_append]
    split
    · simp; omega
    · simp; omega
def saltS (h : Hd) (b : List UInt8) : Bool := ((h.s0.1 && decide (h.s0.2.2.1 = b) || h.s1.1 && decide (h.s1.2.2.1 = b)) || h.s2.1 && decide (h.s2.2.2.1 = b)) || h.s3.1 && decide (h.s3.2.2.1 = b)
def thereS (h : Hd) (p b : List UInt8) : Bool := saltS h b || decide ((unl h p).2.2 = 0)
/-- Is a used slot of the first so many in the list of that salt? -/
def saltI (h : Hd) (b : List UInt8) (i : Nat) : Prop := ∀ j, j < i → ¬ (getS h ((usedL h).getD j 0)).2.2.1 = b
theorem saltS_no {h : Hd} {b : List UInt8} (k : saltI h b (usedL h).length) : saltS h b = false := by
  have key : ∀ i, i ∈ usedL h → ¬ (getS h i).2.2.1 = b := by
    intro i hi
    obtain ⟨j, hj, rfl⟩ := List.mem_iff_getElem.1 hi
    have := k j hj
    simpa [List.getD, hj] using this
  have k0 : h.s0.1 = true → ¬ h.s0.2.2.1 = b := fun e => key 0 (by simp [usedL, e])
  have k1 : h.s1.1 = true → ¬ h.s1.2.2.1 = b := fun e => key 1 (by simp [usedL, e])
  have k2 : h.s2.1 = true → ¬ h.s2.2.2.1 = b := fun e => key 2 (by simp [usedL, e])
  have k3 : h.s3.1 = true → ¬ h.s3.2.2.1 = b := fun e => key 3 (by simp [usedL, e])
  simp only [saltS, Bool.or_eq_false_iff, Bool.and_eq_false_imp, decide_eq_false_iff_not]
  exact ⟨⟨⟨k0, k1⟩, k2⟩, k3⟩
theorem usedL_getS {h : Hd} {i : Nat} (hi : i ∈ usedL h) : (getS h i).1 = true := by
  unfold usedL at hi
  simp only [List.mem_append] at hi
  rcases hi with ((hi | hi) | hi) | hi
  · by_cases e : h.s0.1 = true
    · simp [e] at hi; subst hi; exact e
    · simp [e] at hi
  · by_cases e : h.s1.1 = true
    · simp [e] at hi; subst hi; exact e
    · simp [e] at hi
  · by_cases e : h.s2.1 = true
    · simp [e] at hi; subst hi; exact e
    · simp [e] at hi
  · by_cases e : h.s3.1 = true
    · simp [e] at hi; subst hi; exact e
    · simp [e] at hi
theorem saltS_yes {h : Hd} {b : List UInt8} {i : Nat} (hi : i ∈ usedL h) (e : (getS h i).2.2.1 = b) : saltS h b = true := by
  have hu := usedL_getS hi
  have hl := usedL_lt i hi
  match i, hl with
  | 0, _ => simp only [getS] at hu e; simp [saltS, hu, e]
  | 1, _ => simp only [getS] at hu e; simp [saltS, hu, e]
  | 2, _ => simp only [getS] at hu e; simp [saltS, hu, e]
  | 3, _ => simp only [getS] at hu e; simp [saltS, hu, e]
def newS (p b : List UInt8) (z : Int) (x : List UInt8) : So := (true, z, b, wrapD (kK p b z) slotT 0 x, tagB (kK p b z) slotT 0 (wrapD (kK p b z) slotT 0 x))
theorem newS_ok {p b x : List UInt8} {z : Int} (hz : In64 z) (hb : b.length = 16) (hx : x.length = 32) : OkS (newS p b z x) := ⟨hz, hb, wrapD_len hx, tagB_len ..⟩
def addS (h : Hd) (x p b : List UInt8) (z : Int) : Hd × Int × Nat :=
  if !mayS h p then (zH, 0, 2) else if !decide (kE p z = 0) then (zH, 0, 2) else if thereS h p b then (zH, 0, 6) else if freeS h < 0 then (zH, 0, 7) else (setS h (freeS h).toNat (newS p b z x), freeS h, 0)
theorem addS_ok {h : Hd} {x p b : List UInt8} {z : Int} (k : OkHd h) (hz : In64 z) (hb : b.length = 16) (hx : x.length = 32) : OkHd (addS h x p b z).1 := by
  unfold addS
  split
  · exact zH_ok
  split
  · exact zH_ok
  split
  · exact zH_ok
  split
  · exact zH_ok
  · exact setS_ok k (newS_ok hz hb hx) _
theorem passE_zero {p : List UInt8} : passE p = 0 ↔ okp p = true := by unfold passE; split <;> simp_all
theorem roundE_zero {z : Int} : roundE z = 0 ↔ okr z = true := by unfold roundE; split <;> simp_all
theorem passE_no {p : List UInt8} (h : ¬ passE p = 0) : okp p = false := by cases e : okp p <;> simp_all [passE_zero]
theorem roundE_no {z : Int} (h : ¬ roundE z = 0) : okr z = false := by cases e : okr z <;> simp_all [roundE_zero]
theorem kE_two {p : List UInt8} {z : Int} (h : ¬ kE p z = 0) : kE p z = 2 := by
  unfold kE at *
  split at h <;> simp_all
theorem op_unused {p : List UInt8} {s : So} (h : s.1 = false) : opS p s = false := by simp [opS, h]
theorem op_no {p : List UInt8} {s : So} (h : ¬ unwE (kK p s.2.2.1 s.2.1) slotT 0 s.2.2.2.1 s.2.2.2.2 = 0) : opS p s = false := by
  have : unwB (keyS p s) slotT 0 s.2.2.2.1 s.2.2.2.2 = false := by
    unfold unwE at h
    cases e : unwB (kK p s.2.2.1 s.2.1) slotT 0 s.2.2.2.1 s.2.2.2.2
    · exact e
    · rw [e] at h; exact absurd rfl h
  simp [opS, this]
theorem op_yes {p : List UInt8} {s : So} (hu : s.1 = true) (h : unwE (kK p s.2.2.1 s.2.1) slotT 0 s.2.2.2.1 s.2.2.2.2 = 0) : opS p s = true ∧ unwK (kK p s.2.2.1 s.2.1) slotT 0 s.2.2.2.1 s.2.2.2.2 = arS p s := by
  have e : unwB (kK p s.2.2.1 s.2.1) slotT 0 s.2.2.2.1 s.2.2.2.2 = true := by
    unfold unwE at h
    cases e : unwB (kK p s.2.2.1 s.2.1) slotT 0 s.2.2.2.1 s.2.2.2.2
    · rw [e] at h; cases h
    · rfl
  refine ⟨by simp only [opS, keyS, hu, e, Bool.and_self], ?_⟩
  rw [unwK, e]; rfl
theorem saltI_zero {h : Hd} {b : List UInt8} : saltI h b 0 := fun _ hj => absurd hj (Nat.not_lt_zero _)
theorem saltI_succ {h : Hd} {b : List UInt8} {i : Nat} (k : saltI h b i) (e : ¬ (getS h ((usedL h).getD i 0)).2.2.1 = b) : saltI h b (i + 1) := fun j hj => by
  by_cases hji : j = i
  · subst hji; exact e
  · exact k j (by omega)
theorem usedL_four {h : Hd} {i : Nat} (hi : i < (usedL h).length) : (usedL h).getD i 0 = 0 ∨ (usedL h).getD i 0 = 1 ∨ (usedL h).getD i 0 = 2 ∨ (usedL h).getD i 0 = 3 := by
  have hm : (usedL h).getD i 0 ∈ usedL h := by simp [List.getD, hi]
  have := usedL_lt _ hm
  omega
theorem usedL_mem {h : Hd} {i : Nat} (hi : i < (usedL h).length) : (usedL h).getD i 0 ∈ usedL h := by simp [List.getD, hi]
theorem there_salt {h : Hd} {p b : List UInt8} {i j : Nat} (hi : i < (usedL h).length) (hc : (usedL h).getD i 0 = j) (e : (getS h j).2.2.1 = b) : thereS h p b = true := by
  have hs : saltS h b = true := saltS_yes (usedL_mem hi) (by rw [hc]; exact e)
  simp [thereS, hs]
theorem freeS_five (h : Hd) : freeS h = -1 ∨ freeS h = 0 ∨ freeS h = 1 ∨ freeS h = 2 ∨ freeS h = 3 := by
  unfold freeS
  split
  · simp
  split
  · simp
  split
  · simp
  split <;> simp
theorem chk_slot {h : Hd} (hc : checkH h = 0) (j : Nat) (hj : j < 4) (hu : (getS h j).1 = true) : okr (getS h j).2.1 = true := by
  obtain ⟨hs, hl⟩ := check_ok hc
  simp only [shapedB, Bool.and_eq_true] at hs
  obtain ⟨⟨⟨⟨⟨⟨_, _⟩, h0⟩, h1⟩, h2⟩, h3⟩, _⟩ := hs
  simp only [longB, Bool.or_eq_false_iff, decide_eq_false_iff_not] at hl
  obtain ⟨⟨⟨l0, l1⟩, l2⟩, l3⟩ := hl
  match j, hj with
  | 0, _ => simp only [getS] at hu ⊢; simp only [slotB, hu, if_true, decide_eq_true_eq] at h0; simp [okr]; omega
  | 1, _ => simp only [getS] at hu ⊢; simp only [slotB, hu, if_true, decide_eq_true_eq] at h1; simp [okr]; omega
  | 2, _ => simp only [getS] at hu ⊢; simp only [slotB, hu, if_true, decide_eq_true_eq] at h2; simp [okr]; omega
  | 3, _ => simp only [getS] at hu ⊢; simp only [slotB, hu, if_true, decide_eq_true_eq] at h3; simp [okr]; omega
def intC (i : Nat) : List Value := [.int .i64 (i : Int)]
theorem intCs_one (ls : List Nat) : One (ls.flatMap intC) := fun v hv => by
  obtain ⟨c, _, h⟩ := List.mem_flatMap.1 hv
  simp [intC] at h; subst h; rfl
def opK (p : List UInt8) (s : So) : List UInt8 := if s.1 then unwK (keyS p s) slotT 0 s.2.2.2.1 s.2.2.2.2 else List.replicate 32 0
theorem opK_len {p : List UInt8} {s : So} (h : OkS s) : (opK p s).length = 32 := by
  unfold opK; split
  · exact unwK_len h.2.2.1
  · simp
theorem unwE_op {p : List UInt8} {s : So} (hu : s.1 = true) : decide (((unwE (keyS p s) slotT 0 s.2.2.2.1 s.2.2.2.2 : Nat) : Int) = 0) = opS p s := by
  unfold unwE opS
  rw [hu]
  cases unwB (keyS p s) slotT 0 s.2.2.2.1 s.2.2.2.2 <;> simp
/-! ## The chapter's header -/
def emptyH : Hd := ⟨4, 1, zV, zV, zS, zS, zS, zS⟩
def k7 : List UInt8 := 7 :: List.replicate 31 0
def sa1 : List UInt8 := 1 :: List.replicate 15 0
def sa2 : List UInt8 := 2 :: List.replicate 15 0
def n1T : So := newS [97, 98] sa1 2 k7
def h1T : Hd := setS emptyH 0 n1T
def n2T : So := newS [99, 100] sa2 1 k7
def h2T : Hd := setS h1T 1 n2T
theorem emptyH_ok : OkHd emptyH := ⟨by unfold In64; decide, by unfold In64; decide, zH_ok.v0, zH_ok.v1, zH_ok.s0, zH_ok.s1, zH_ok.s2, zH_ok.s3⟩
theorem h1T_ok : OkHd h1T := setS_ok emptyH_ok (newS_ok (by unfold In64; decide) (by decide) (by decide)) 0
theorem h2T_ok : OkHd h2T := setS_ok h1T_ok (newS_ok (by unfold In64; decide) (by decide) (by decide)) 1
theorem tagB0 (k d : List UInt8) : tagB k slotT 0 d = hmacW (subW k [115, 108, 111, 116, 32, 115, 101, 97, 108, 32, 48]) (plT 66 d) := by rw [seal_slot]; rfl
theorem wrapD0 (k x : List UInt8) : wrapD k slotT 0 x = xorW x (subW k [115, 108, 111, 116, 32, 112, 97, 100, 32, 48]) := by rw [mask_slot]; rfl
/-- The other passphrase does not open the first slot. -/
theorem other_no : unwB (kK [99, 100] sa1 2) slotT 0 n1T.2.2.2.1 n1T.2.2.2.2 = false := by
  have e1 : n1T.2.2.2.1 = wrapD (kK [97, 98] sa1 2) slotT 0 k7 := rfl
  have e2 : n1T.2.2.2.2 = tagB (kK [97, 98] sa1 2) slotT 0 (wrapD (kK [97, 98] sa1 2) slotT 0 k7) := rfl
  rw [e1, e2, unwB, tagB0, tagB0, wrapD0]
  decide +kernel
theorem op_new {p b x : List UInt8} {z : Int} (hx : x.length = 32) : opS p (newS p b z x) = true ∧ arS p (newS p b z x) = x := by
  have h := unw_ok (k := kK p b z) (l := slotT) (n := 0) hx
  refine ⟨?_, wrap_back hx⟩
  show (true && unwB (kK p b z) slotT 0 (wrapD (kK p b z) slotT 0 x) (tagB (kK p b z) slotT 0 (wrapD (kK p b z) slotT 0 x))) = true
  simp [unwB]
theorem op_zS (p : List UInt8) : opS p zS = false := op_unused rfl
theorem may_e : mayS emptyH [97, 98] = true := by decide +kernel
theorem may_1 : mayS h1T [99, 100] = true := by decide +kernel
theorem may_2a : mayS h2T [97, 98] = true := by decide +kernel
theorem may_2b : mayS h2T [99, 100] = true := by decide +kernel
theorem add1T : addS emptyH k7 [97, 98] sa1 2 = (h1T, 0, 0) := by
  have h1 : kE [97, 98] 2 = 0 := by decide
  have h2 : thereS emptyH [97, 98] sa1 = false := by
    have e : (unl emptyH [97, 98]).2.2 = 12 := by
      have h0 : opS [97, 98] emptyH.s0 = false := op_zS _
      have h1 : opS [97, 98] emptyH.s1 = false := op_zS _
      have h2 : opS [97, 98] emptyH.s2 = false := op_zS _
      have h3 : opS [97, 98] emptyH.s3 = false := op_zS _
      simp [unl, may_e, h0, h1, h2, h3]
    have hs : saltS emptyH sa1 = false := by decide +kernel
    simp [thereS, hs, e]
  simp only [addS, may_e, h1, h2]
  rfl
theorem op_other : opS [99, 100] h1T.s0 = false := by
  show (true && unwB (kK [99, 100] sa1 2) slotT 0 n1T.2.2.2.1 n1T.2.2.2.2) = false
  rw [other_no]; rfl
theorem add2T : addS h1T k7 [99, 100] sa2 1 = (h2T, 1, 0) := by
  have h1 : kE [99, 100] 1 = 0 := by decide
  have h2 : thereS h1T [99, 100] sa2 = false := by
    have e : (unl h1T [99, 100]).2.2 = 12 := by
      have h0 : opS [99, 100] h1T.s1 = false := op_zS _
      have h0' : opS [99, 100] h1T.s2 = false := op_zS _
      have h0'' : opS [99, 100] h1T.s3 = false := op_zS _
      simp [unl, may_1, op_other, h0, h0', h0'']
    have hs : saltS h1T sa2 = false := by decide +kernel
    simp [thereS, hs, e]
  simp only [addS, may_1, h1, h2]
  rfl
theorem unl1T : unl h2T [97, 98] = (k7, 0, 0) := by
  have h := op_new (p := [97, 98]) (b := sa1) (x := k7) (z := 2) (by decide)
  have h0 : opS [97, 98] h2T.s0 = true := h.1
  have h1 : arS [97, 98] h2T.s0 = k7 := h.2
  simp [unl, may_2a, h0, h1]
theorem unl2T : unl h2T [99, 100] = (k7, 1, 0) := by
  have h := op_new (p := [99, 100]) (b := sa2) (x := k7) (z := 1) (by decide)
  have h0 : opS [99, 100] h2T.s0 = false := op_other
  have h1 : opS [99, 100] h2T.s1 = true := h.1
  have h2 : arS [99, 100] h2T.s1 = k7 := h.2
  simp [unl, may_2b, h0, h1, h2]
def opensB (h : Hd) (p : List UInt8) (j : Nat) : Bool := decide ((unl h p).1 = k7) && (decide ((unl h p).2.1 = j) && decide ((unl h p).2.2 = 0))
theorem opens1T : opensB h2T [97, 98] 0 = true := by rw [opensB, unl1T]; rfl
theorem opens2T : opensB h2T [99, 100] 1 = true := by rw [opensB, unl2T]; rfl
def largeS (h : Hd) (s : So) : Bool := s.1 && (decide (60 < s.2.1) && decide (checkH h = 0))
def largeB (h : Hd) (p : List UInt8) (z : Int) : Bool := ((largeS h h.s0 || largeS h h.s1) || (largeS h h.s2 || largeS h h.s3)) || (decide (1000 < p.length) || (decide (60 < z) && decide (z ≤ 4096)))
/-- A slice as a pointer to an array. -/
theorem s_toArrV {t e es N m : Nat} {v : Value} {bs : List UInt8} (hE : Env a n L) (hx : ev L x = some v) (hr : (ownW v es m (bv bs)).holds w) (h1 : es = 1) (hm : m = N) (h0 : 0 < N) (ht : P.underlying t = some (.array N e)) (hn : Nat.blt d n = true)
    (k : ∀ a' p, Env a' n ((d, p) :: L) → (cellsAt p (bv bs)).holds w → wpL P ops D Q rest a' w) : wpL P ops D Q ((true, ⟨some d, .sliceToArrayPointer t x, ty, pos, aft, none⟩) :: rest) a w := by
  subst h1 hm
  obtain ⟨hl, ⟨rfl, rfl⟩ | ⟨b, cap, cur, T, fr, rfl, g1, g3, g4, g5, g6⟩⟩ := hr
  · omega
  refine s_toArrP hE hx ht (Nat.le_refl _) hn (fun a' hE' => k a' _ hE' ⟨b, 0, rfl, (Array.getElem?_eq_some_iff.1 g3).1, fun i x hx => ?_⟩)
  rw [Nat.zero_add, cell_of_row w b i _ T fr g3]
  rw [← g5, List.getElem?_take] at hx
  split at hx
  · simpa using hx
  · cases hx
end Go.Kx
/- Own library, part So: what a slot's coming and going changes. -/
set_option linter.unusedSimpArgs false
namespace Go.Kx
open Go
theorem four_cases {i : Nat} (h : i < 4) : i = 0 ∨ i = 1 ∨ i = 2 ∨ i = 3 := by omega
theorem unl_hit {h : Hd} {p : List UInt8} {j : Nat} (hm : mayS h p = true) (hj : j < 4) (ho : opS p (getS h j) = true) (hb : ∀ i, i < j → opS p (getS h i) = false) : unl h p = (arS p (getS h j), j, 0) := by
  rcases four_cases hj with rfl | rfl | rfl | rfl
  · simp only [getS] at ho ⊢
    simp [unl, hm, ho]
  · have h0 := hb 0 (by decide)
    simp only [getS] at ho h0 ⊢
    simp [unl, hm, ho, h0]
  · have h0 := hb 0 (by decide)
    have h1 := hb 1 (by decide)
    simp only [getS] at ho h0 h1 ⊢
    simp [unl, hm, ho, h0, h1]
  · have h0 := hb 0 (by decide)
    have h1 := hb 1 (by decide)
    have h2 := hb 2 (by decide)
    simp only [getS] at ho h0 h1 h2 ⊢
    simp [unl, hm, ho, h0, h1, h2]
theorem unl_none {h : Hd} {p : List UInt8} (hm : mayS h p = true) (hn : ∀ i, i < 4 → opS p (getS h i) = false) : unl h p = (List.replicate 32 0, 0, 12) := by
  have h0 := hn 0 (by decide)
  have h1 := hn 1 (by decide)
  have h2 := hn 2 (by decide)
  have h3 := hn 3 (by decide)
  simp only [getS] at h0 h1 h2 h3
  simp [unl, hm, h0, h1, h2, h3]
theorem none_opens {h : Hd} {p : List UInt8} (hm : mayS h p = true) (e : ¬ (unl h p).2.2 = 0) : ∀ i, i < 4 → opS p (getS h i) = false := by
  have key : ∀ n, ∀ i, i < 4 → i ≤ n → opS p (getS h i) = false := by
    intro n
    induction n with
    | zero =>
      intro i hi hn
      obtain rfl : i = 0 := by omega
      cases hc : opS p (getS h 0) with
      | false => rfl
      | true => exact absurd (by rw [unl_hit hm hi hc (fun i hi => absurd hi (Nat.not_lt_zero _))]) e
    | succ n ih =>
      intro i hi hn
      cases hc : opS p (getS h i) with
      | false => rfl
      | true => exact absurd (by rw [unl_hit hm hi hc (fun k hk => ih k (by omega) (by omega))]) e
  exact fun i hi => key i i hi (Nat.le_refl _)
end Go.Kx
/- Own library, part Sr: which slot opens. -/
namespace Go.Kx
open Go
section
variable {P : Program} {ops : Array Oper} {D : Option (Nat → Prop)} {Q : Exit → Act → World → Prop} {w w' : World}
  {a : Act} {n : Nat} {L : List (Nat × Value)} {rest : List (Bool × Oper)} {d : Nat} {ty : TypeId} {pos : String} {aft : Array Edge} {x : Operand}
end
end Go.Kx
