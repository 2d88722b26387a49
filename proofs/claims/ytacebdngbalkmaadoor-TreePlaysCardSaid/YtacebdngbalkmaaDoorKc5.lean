/- Own library: parts KxHd, KxHl, KxCp, KxHm, KxHn, KxK, KxK2, KxK3, KxRf, KxFm, KxSl. -/
import Derived.Test.YtacebdngbalkmaaDoorKc4
import Derived.RangeFuncNested
import Derived.RangeFuncBound
import Derived.RangeFuncCalls
import Derived.RangeFuncLeaves
import Derived.OrdersIn
import Derived.TacticsIn
import Derived.Lib.LaidTab
import Derived.Lib.ItoaNum
import Derived.Lib.ItoaMem
import Derived.Lib.ItoaLen
import Derived.Shelf.Strconv.Itoa2
set_option linter.unusedSimpArgs false
set_option linter.unusedVariables false
/- Own library, part Hd: headers as bytes, in plain Lean. -/
namespace Go.Kx
open Go
/-- A volume: used, number, data, tag. -/
abbrev Vo := Bool × Nat × List UInt8 × List UInt8
/-- A slot: used, iterations, salt, data, tag. -/
abbrev So := Bool × Int × List UInt8 × List UInt8 × List UInt8
structure Hd where
  m : Int
  r : Int
  v0 : Vo
  v1 : Vo
  s0 : So
  s1 : So
  s2 : So
  s3 : So
def OkV (v : Vo) : Prop := v.2.1 < 18446744073709551616 ∧ v.2.2.1.length = 32 ∧ v.2.2.2.length = 32
def OkS (s : So) : Prop := In64 s.2.1 ∧ s.2.2.1.length = 16 ∧ s.2.2.2.1.length = 32 ∧ s.2.2.2.2.length = 32
structure OkHd (h : Hd) : Prop where
  m : In64 h.m
  r : In64 h.r
  v0 : OkV h.v0
  v1 : OkV h.v1
  s0 : OkS h.s0
  s1 : OkS h.s1
  s2 : OkS h.s2
  s3 : OkS h.s3
def zV : Vo := (false, 0, List.replicate 32 0, List.replicate 32 0)
def zS : So := (false, 0, List.replicate 16 0, List.replicate 32 0, List.replicate 32 0)
def volZ (v : Vo) : Bool := decide (v.1 = false ∧ (v.2.1 : Int) = 0 ∧ v.2.2.1 = List.replicate 32 0 ∧ v.2.2.2 = List.replicate 32 0)
def volB (v : Vo) : Bool := decide (v.2.1 ≤ 4611686018427387904) && (v.1 || volZ v)
def slotZ (s : So) : Bool := decide (s.1 = false ∧ s.2.1 = 0 ∧ s.2.2.1 = List.replicate 16 0 ∧ s.2.2.2.1 = List.replicate 32 0 ∧ s.2.2.2.2 = List.replicate 32 0)
def slotB (s : So) : Bool := if s.1 then decide (1 ≤ s.2.1) else slotZ s
def geoB (m r : Int) : Bool := decide (4 ≤ m) && decide (m ≤ 64) && decide (1 ≤ r) && decide (r ≤ 64)
def shapedB (h : Hd) : Bool := volB h.v0 && volB h.v1 && slotB h.s0 && slotB h.s1 && slotB h.s2 && slotB h.s3 && geoB h.m h.r
def longB (h : Hd) : Bool := decide (4096 < h.s0.2.1) || decide (4096 < h.s1.2.1) || decide (4096 < h.s2.2.1) || decide (4096 < h.s3.2.1)
def checkH (h : Hd) : Nat := if shapedB h && !longB h then 0 else 2
/-- What stands in bytes as a header. -/
def seg (b : List UInt8) (i n : Nat) : List UInt8 := (b.drop i).take n
/-- The sectors. -/
def padH (b : List UInt8) : List UInt8 := b ++ List.replicate 16 0
def cutH (b : List UInt8) : List (List UInt8) := (List.range 8).map fun i => seg (padH b) (64 * i) 64
end Go.Kx
/- Own library, part Hl: parts of rows of rows; a copy into a row of an owned slice. -/
set_option linter.unusedSimpArgs false
namespace Go.Kx
open Go
variable {P : Program} {ops : Array Oper} {D : Option (Nat → Prop)} {Q : Exit → Act → World → Prop} {w0 w w' : World} {M : List Nat} {H H' : List Ent}
  {a : Act} {n : Nat} {L : List (Nat × Value)} {rest : List (Bool × Oper)} {d : Nat} {ty : TypeId} {pos : String} {aft : Array Edge} {x y z : Operand} {u v r : Value}
/-! ## Lists of sectors -/
theorem bvs_one (ls : List (List UInt8)) : One (ls.flatMap bv) := fun v hv => by
  obtain ⟨c, _, h⟩ := List.mem_flatMap.1 hv
  exact bv_one c v h
theorem ok_set {α : Type} {p : α → Prop} {l : List α} {j : Nat} {y : α} (h : ∀ x, x ∈ l → p x) (k : p y) : ∀ x, x ∈ l.set j y → p x := fun x hx => by
  rcases List.mem_or_eq_of_mem_set hx with h' | rfl
  · exact h x h'
  · exact k
@[simp] theorem cutH_len (b : List UInt8) : (cutH b).length = 8 := by simp [cutH]
end Go.Kx
/- Own library, part Cp: a copy of rows into the end of an owned slice. -/
set_option linter.unusedSimpArgs false
namespace Go.Kx
open Go
variable {P : Program} {ops : Array Oper} {D : Option (Nat → Prop)} {Q : Exit → Act → World → Prop} {w0 w w' : World} {M : List Nat} {H H' : List Ent}
  {a : Act} {n : Nat} {L : List (Nat × Value)} {rest : List (Bool × Oper)} {d : Nat} {ty : TypeId} {pos : String} {aft : Array Edge} {x y z : Operand} {u v r : Value}
/-- The end of an owned slice, as a slice. -/
def tailV : Value → Nat → Nat → Value
  | .slice (some a) m c, es, j => .slice (some (a.add (j * es))) (m - j) (c - j)
  | _, _, _ => .slice none 0 0
/-- A copy of rows into the end of an owned slice. -/
theorem s_copyRows {t t2 e by_ es m j q c : Nat} {v : Value} {cs cells : List Value} (hE : Env a n L) (hx : ev L x = some (tailV v es j)) (hy : ev L y = some u) (hM : Mem w0 M w (own v es m cells :: H))
    (hr : (rd u es q c cs).holds w) (hq : q ≤ m - j) (hj : j < m) (h1 : One cs) (ht : SlT P t e es by_) (hX : ∀ X, D = some X → ∀ b, b ∈ valBlocks v → X b) (hn : Nat.blt d n = true)
    (kk : ∀ a' w', Env a' n ((d, .int .i64 (q : Int)) :: L) → Mem w0 M w' (own v es m (wr (j * es) cs cells) :: H) → wpL P ops D Q rest a' w') :
    wpL P ops D Q ((false, ⟨some d, .call { callee := .builtin .copy, args := #[x, y], argTypes := #[t, t2] }, ty, pos, aft, none⟩) :: rest) a w := by
  obtain ⟨h0, ⟨rfl, rfl⟩ | ⟨b, cap, cur, T, fr, rfl, g1, g2, g3, g4, g5, g6⟩⟩ := hM.holds _ (List.mem_cons_self ..)
  · omega
  have hcl : cs.length = q * es := hr.1
  have hb := (Array.getElem?_eq_some_iff.1 g3).1
  have hcap : m * es ≤ cap * es := Nat.mul_le_mul_right _ g1
  have hqe : q * es ≤ (m - j) * es := Nat.mul_le_mul_right _ hq
  have hje : j * es + (m - j) * es = m * es := by rw [← Nat.add_mul]; congr 1; omega
  have hst := run_storeCells (P := P) (o := j * es) cs 0 _ w g3 (by simpa using g6) (by rw [hcl]; omega) h1
  have hfc := firstCells_rd (P := P) hr (m := q) (Nat.le_refl q)
  rw [List.take_of_length_le (by omega)] at hfc
  have hlen := lenOf_rd (P := P) hr
  simp only [tailV, Addr.add_mid, Nat.zero_add] at hx
  have hwl : (wr (j * es) cs cur.toList).length = cur.size := by rw [wr_length (by simp; omega)]; simp
  refine b_val hE hn (v := .int .i64 (q : Int)) (w' := setBlk w b (.cells (wr (j * es) cs cur.toList).toArray T fr)) ?_ (sta_of_setBlk (fun X hD => hX X hD b (by simp [valBlocks]))) (fun a' hE' => kk a' _ hE' ?_)
  · obtain ⟨hu, hs, _, _⟩ := ht
    simp only [Nat.add_zero] at hst
    have hmin : Nat.min (m - j) q = q := Nat.min_eq_right hq
    have hmin' : min (m - j) q = q := Nat.min_eq_right hq
    have hmin3 : Nat.min q (m - j) = q := Nat.min_eq_left hq
    have hmin4 : min q (m - j) = q := Nat.min_eq_left hq
    simp [execOp, resolve, invoke, builtin, hE.eval hx, hE.eval hy, Builtin.copy_, run_underlying hu, run_sizeOf hs, Sem.run_bind, hlen, hmin, hmin', hmin3, hmin4, hfc, hst]
    exact ⟨rfl, by simp [wr]⟩
  · refine Mem.act (es := [own (.slice (some ⟨b, 0, none⟩) m cap) es m cells]) (es' := [own (.slice (some ⟨b, 0, none⟩) m cap) es m (wr (j * es) cs cells)]) hM rfl rfl rfl (by simp) (fun b' hb' hne => setBlk_other fun e => hne _ (List.mem_cons_self ..) (by simp [own, valBlocks, e])) ?_ ?_ ?_ ?_ (List.pairwise_singleton ..)
    · intro e he; rw [List.mem_singleton.1 he]
      refine ⟨by rw [wr_length (by rw [hcl]; omega)]; exact h0, .inr ⟨b, cap, (wr (j * es) cs cur.toList).toArray, T, fr, rfl, g1, g2, setBlk_same hb, ?_, ?_, ?_⟩⟩
      · simpa [hwl] using g4
      · rw [← g5]
        have e1 : cur.toList = cur.toList.take (m * es) ++ cur.toList.drop (m * es) := (List.take_append_drop _ _).symm
        have hlt : (cur.toList.take (m * es)).length = m * es := by simp; omega
        show List.take (m * es) (wr (j * es) cs cur.toList) = _
        conv => lhs; rw [e1]
        rw [wr_append_left (by rw [hcl]; omega)]
        rw [List.take_left' (by rw [wr_length (by rw [hcl]; omega)]; exact hlt)]
      · simpa [hwl] using g6
    · intro e he b' hb'; rw [List.mem_singleton.1 he] at hb'; exact .inl ⟨_, List.mem_cons_self .., hb'⟩
    · intro e he b' hb'; rw [List.mem_singleton.1 he] at hb'; cases hb'
    · intro e he b' hb'; rw [List.mem_singleton.1 he] at hb'; cases hb'
theorem s_tailRows {t es m j : Nat} {lo : Operand} {cs : List Value} (hE : Env a n L) (hx : ev L x = some v) (hr : (own v es m cs).holds w) (ht : slT P t = some es) (hl : SArg L (some lo) 0 j) (hj : j < m) (hn : Nat.blt d n = true)
    (k : ∀ a', Env a' n ((d, tailV v es j) :: L) → wpL P ops D Q rest a' w) : wpL P ops D Q ((true, ⟨some d, .slice t x (some lo) none none, ty, pos, aft, none⟩) :: rest) a w := by
  obtain ⟨e, hu, hs⟩ := slT_spec ht
  obtain ⟨h0, ⟨rfl, rfl⟩ | ⟨b, cap, cur, T, fr, rfl, h1, h3⟩⟩ := hr
  · omega
  · refine s_val hE hn (Flo.of_all (fun w => ?_) w) k
    have hb := sliceBounds_ok (P := P) (lo := some lo) (hi := none) (mx := none) (l := j) (h := m) (m := cap) (len := m) (cap := cap) (b := true) hE hl rfl rfl (by simp) (by omega) (by omega) (by omega)
    simp only [execOp, Instr.sliceAt, Instr.slice, hE.eval hx, Sem.run_bind, run_underlying hu, Result.andThen_ok, hb, run_sizeOf hs, Sem.run_pure, tailV]
    simp [show cap ≠ j by omega]
end Go.Kx
/- Own library, part Hm: a copy of whatever length into a part of a block; headers of what is short. -/
set_option linter.unusedSimpArgs false
namespace Go.Kx
open Go
variable {P : Program} {ops : Array Oper} {D : Option (Nat → Prop)} {Q : Exit → Act → World → Prop} {w0 w w' : World} {M : List Nat} {H H' : List Ent}
  {a : Act} {n : Nat} {L : List (Nat × Value)} {rest : List (Bool × Oper)} {d : Nat} {ty : TypeId} {pos : String} {aft : Array Edge} {x y z : Operand} {u v r : Value}
/-! ## Parts of slices of rows -/
theorem flat_take {α : Type} {f : α → List Value} {es : Nat} : ∀ {ls : List α} {h : Nat}, (∀ x, x ∈ ls → (f x).length = es) → h ≤ ls.length → (ls.flatMap f).take (h * es) = (ls.take h).flatMap f
  | _, 0, _, _ => by simp
  | [], h + 1, _, hh => by simp at hh
  | x :: ls, h + 1, hl, hh => by
    have hx := hl x (.head _)
    rw [List.flatMap_cons, List.take_succ_cons, List.flatMap_cons, ← flat_take (fun y hy => hl y (.tail _ hy)) (by simpa using hh)]
    rw [show (h + 1) * es = (f x).length + h * es by rw [hx, Nat.add_mul, Nat.one_mul, Nat.add_comm], List.take_length_add_append]
theorem rd_takeR {α : Type} {f : α → List Value} {es h c : Nat} {ls : List α} {v : Value} (hl : ∀ x, x ∈ ls → (f x).length = es) (hh : h ≤ ls.length) (hr : (rd v es (h - 0) c (((ls.flatMap f).drop (0 * es)).take ((h - 0) * es))).holds w) : (rd v es (ls.take h).length c ((ls.take h).flatMap f)).holds w := by
  have e1 : (ls.take h).length = h - 0 := by simp; omega
  have e2 : ((ls.flatMap f).drop (0 * es)).take ((h - 0) * es) = (ls.take h).flatMap f := by
    rw [Nat.zero_mul, List.drop_zero, Nat.sub_zero]; exact flat_take hl hh
  rw [e1, ← e2]; exact hr
/-! ## The reference's headers -/
def cut8 (b : List UInt8) : List (List UInt8) := (List.range 8).map fun i => seg b (64 * i) 64
@[simp] theorem cut8_len (b : List UInt8) : (cut8 b).length = 8 := by simp [cut8]
/-! ## What is got of sectors -/
/-! ## Bytes that are turned -/
end Go.Kx
/- Own library, part Hn: a header that comes in as an argument. -/
set_option linter.unusedSimpArgs false
namespace Go.Kx
open Go
open Go.ChangeShapes Go.WideShapes Go.ChangeAt Go.RowKit
variable {P : Program} {W : World}
theorem split_at {cs : List Value} (n : Nat) : cs = cs.take n ++ cs.drop n := (List.take_append_drop n cs).symm
theorem seg2 {cs : List Value} {a b : Nat} (h : cs.length = a + b) : cs = (cs.drop 0).take a ++ (cs.drop a).take b := by
  conv => lhs; rw [split_at (cs := cs) a]
  rw [List.drop_zero, List.take_of_length_le (l := cs.drop a) (by simp; omega)]
/-- The fields of a struct of 2, 3, 4 fields. -/
def fieldsL (P : Program) (fs : Array Field) : List (Nat × Nat × Nat) := fs.toList.map (fun f => (f.type, f.offset, P.cellsOf f.type))
theorem dec_f2 {t s t0 t1 n0 n1 : Nat} {fs : Array Field} {R0 R1 : List Value → Prop} (hu : P.underlying t = some (.struct fs)) (hs : P.cellsOf t = s) (hl : fieldsL P fs = [(t0, 0, n0), (t1, n0, n1)]) (hn : s = n0 + n1)
    (h0 : Dec P W t0 R0) (h1 : Dec P W t1 R1) : Dec P W t (fun cs => ∃ a b, cs = a ++ b ∧ R0 a ∧ R1 b) :=
  (dec_structL [(t0, 0, n0, R0), (t1, n0, n1, R1)] hu hs hl (by
    intro p hp; simp only [List.mem_cons, List.not_mem_nil, or_false] at hp
    rcases hp with rfl | rfl
    · exact h0
    · exact h1)).mono fun cs h => ⟨_, _, seg2 (h.1.trans hn), h.2 _ (.head _), h.2 _ (.tail _ (.head _))⟩
/-- The types' numbers. -/
structure HdT (P : Program) where
  (th tg tvs tv tss ts tx tk tt ta ti tb tn te : Nat)
  (fh fg fv fs fx : Array Field)
  uh : P.underlying th = some (.struct fh)
  ug : P.underlying tg = some (.struct fg)
  uvs : P.underlying tvs = some (.array 2 tv)
  uv : P.underlying tv = some (.struct fv)
  uss : P.underlying tss = some (.array 4 ts)
  us : P.underlying ts = some (.struct fs)
  ux : P.underlying tx = some (.struct fx)
  uk : P.underlying tk = some (.array 32 te)
  ut : P.underlying tt = some (.array 32 te)
  ua : P.underlying ta = some (.array 16 te)
  ui : P.underlying ti = some (.int .i64)
  ub : P.underlying tb = some .bool
  un : P.underlying tn = some (.int .u64)
  ue : P.underlying te = some (.int .u8)
  ch : P.cellsOf th = 462
  cg : P.cellsOf tg = 2
  cvs : P.cellsOf tvs = 2 * 66
  cv : P.cellsOf tv = 66
  css : P.cellsOf tss = 4 * 82
  cs : P.cellsOf ts = 82
  cx : P.cellsOf tx = 64
  ck : P.cellsOf tk = 32 * 1
  ct : P.cellsOf tt = 32 * 1
  ca : P.cellsOf ta = 16 * 1
  ce : P.cellsOf te = 1
  lh : fieldsL P fh = [(tg, 0, 2), (tvs, 2, 132), (tss, 134, 328)]
  lg : fieldsL P fg = [(ti, 0, 1), (ti, 1, 1)]
  lv : fieldsL P fv = [(tb, 0, 1), (tn, 1, 1), (tx, 2, 64)]
  ls : fieldsL P fs = [(tb, 0, 1), (ti, 1, 1), (ta, 2, 16), (tx, 18, 64)]
  lx : fieldsL P fx = [(tk, 0, 32), (tt, 32, 32)]
end Go.Kx
/- Own library, part K: what the document's SHA-256 computes is what the given one computes; append of new memory. -/
namespace Go.Kx
open Go
variable {P : Program} {ops : Array Oper} {D : Option (Nat → Prop)} {Q : Exit → Act → World → Prop} {w0 w w' : World} {M : List Nat} {H H' : List Ent}
  {a : Act} {n : Nat} {L : List (Nat × Value)} {rest : List (Bool × Oper)} {d : Nat} {ty : TypeId} {pos : String} {aft : Array Edge} {x y z : Operand} {u v r : Value}

/-! ## Words, more -/

theorem wd_elem {l : List UInt32} {j : Nat} (h : j < l.length) : ((wd l).drop (j * 1)).take 1 = [wV (l.getD j 0)] := by
  apply List.ext_getElem?
  intro i
  cases i with
  | zero => simp [wd, List.getD, h]
  | succ i => simp; omega

theorem bin_rem32 {t : TypeId} {x y : UInt32} (h : y.toNat ≠ 0) : Bin P .rem t (wV x) (wV y) (wV (x % y)) := by
  have := bin_rem_nat (P := P) (t := t) (k := .u32) (m := x.toNat) h
  unfold wV; rw [UInt32.toNat_mod]; exact this
theorem bin_quo32 {t : TypeId} {x y : UInt32} (h : y.toNat ≠ 0) : Bin P .quo t (wV x) (wV y) (wV (x / y)) := by
  have := bin_quo_nat (P := P) (t := t) (k := .u32) (m := x.toNat) h (wrap_u32_lt (Nat.lt_of_le_of_lt (Nat.div_le_self _ _) x.toNat_lt))
  unfold wV; rw [UInt32.toNat_div]; exact this

theorem shrW_toNat (x : UInt32) (k : Nat) : (shrW x k).toNat = x.toNat / 2 ^ k := UInt32.toNat_ofNat_of_lt' (Nat.lt_of_le_of_lt (Nat.div_le_self _ _) x.toNat_lt)
theorem shlW_toNat (x : UInt32) (k : Nat) : (shlW x k).toNat = x.toNat * 2 ^ k % 2 ^ 32 := by simp [shlW]

theorem one_shl {k : Nat} (h : k < 32) : (shlW 1 k).toNat = 2 ^ k := by
  rw [shlW_toNat]
  have : 2 ^ k < 2 ^ 32 := Nat.pow_lt_pow_right (by omega) h
  simp only [UInt32.toNat_one, Nat.one_mul]
  exact Nat.mod_eq_of_lt this

theorem cut_eq {x : UInt32} {k : Nat} (h : k < 32) : x / shlW 1 k = shrW x k := by
  apply UInt32.toNat_inj.1
  rw [UInt32.toNat_div, one_shl h, shrW_toNat]

theorem rot_eq {x : UInt32} {k : Nat} (h0 : 0 < k) (h : k < 32) : shrW x k + shlW (x % shlW 1 k) (32 - k) = rotW x k := by
  have hx := x.toNat_lt
  have e32 : 2 ^ 32 = 2 ^ k * 2 ^ (32 - k) := by rw [← Nat.pow_add]; congr 1; omega
  have hlow : x.toNat % 2 ^ k * 2 ^ (32 - k) < 2 ^ 32 := by
    rw [e32]; exact Nat.mul_lt_mul_of_pos_right (Nat.mod_lt _ (Nat.two_pow_pos k)) (Nat.two_pow_pos _)
  have hhi : x.toNat / 2 ^ k < 2 ^ (32 - k) := by
    apply Nat.div_lt_of_lt_mul; rw [← e32]; exact hx
  have hm : x.toNat * 2 ^ (32 - k) % 2 ^ 32 = x.toNat % 2 ^ k * 2 ^ (32 - k) := by
    rw [e32, Nat.mul_comm (2 ^ k), Nat.mul_comm x.toNat, Nat.mul_mod_mul_left, Nat.mul_comm]
  have hs1 : (shlW (x % shlW 1 k) (32 - k)).toNat = x.toNat % 2 ^ k * 2 ^ (32 - k) := by
    rw [shlW_toNat, UInt32.toNat_mod, one_shl h, Nat.mod_eq_of_lt hlow]
  have hor : x.toNat / 2 ^ k ||| x.toNat % 2 ^ k * 2 ^ (32 - k) = x.toNat / 2 ^ k + x.toNat % 2 ^ k * 2 ^ (32 - k) := by
    have := Nat.two_pow_add_eq_or_of_lt hhi (x.toNat % 2 ^ k)
    rw [Nat.or_comm, Nat.mul_comm (x.toNat % 2 ^ k), ← this]
    omega
  have hlt : x.toNat / 2 ^ k + x.toNat % 2 ^ k * 2 ^ (32 - k) < 2 ^ 32 := by
    rw [← hor]; exact Nat.or_lt_two_pow (Nat.lt_of_le_of_lt (Nat.div_le_self _ _) hx) hlow
  apply UInt32.toNat_inj.1
  rw [UInt32.toNat_add, hs1, shrW_toNat, rotW, UInt32.toNat_or, shrW_toNat, shlW_toNat, hm, hor]
  exact Nat.mod_eq_of_lt hlt

def bitW (x : UInt32) (i : Nat) : UInt32 := shrW x i % 2
theorem bitW_eq (x : UInt32) (i : Nat) : bitW x i = if x.toNat.testBit i then 1 else 0 := by
  apply UInt32.toNat_inj.1
  rw [bitW, UInt32.toNat_mod, shrW_toNat, Nat.testBit_eq_decide_div_mod_eq]
  have h2 : (2 : UInt32).toNat = 2 := rfl
  rw [h2]
  by_cases h : x.toNat / 2 ^ i % 2 = 1
  · simp [h]
  · have : x.toNat / 2 ^ i % 2 = 0 := by omega
    simp [this]

/-- Bits from the top on, one behind the other. -/
def accW (f : Nat → UInt32) : Nat → UInt32
  | 0 => 0
  | j + 1 => 2 * accW f j + f (31 - j)
theorem accW_bits (x : UInt32) : ∀ j, j ≤ 32 → accW (bitW x) j = shrW x (32 - j)
  | 0, _ => by
    apply UInt32.toNat_inj.1
    rw [shrW_toNat]
    have := x.toNat_lt
    simp [accW]; omega
  | j + 1, h => by
    apply UInt32.toNat_inj.1
    have hx := x.toNat_lt
    have ih := accW_bits x j (by omega)
    have h2 : (2 : UInt32).toNat = 2 := rfl
    rw [accW, ih, UInt32.toNat_add, UInt32.toNat_mul, shrW_toNat, shrW_toNat, bitW, UInt32.toNat_mod, shrW_toNat, h2]
    have e1 : 32 - j = (31 - j) + 1 := by omega
    have e2 : 32 - (j + 1) = 31 - j := by omega
    rw [e1, e2, Nat.pow_succ, ← Nat.div_div_eq_div_mul]
    have hlt : x.toNat / 2 ^ (31 - j) < 2 ^ 32 := Nat.lt_of_le_of_lt (Nat.div_le_self _ _) hx
    omega
theorem accW_all (x : UInt32) : accW (bitW x) 32 = x := by
  rw [accW_bits x 32 (Nat.le_refl _)]
  apply UInt32.toNat_inj.1
  rw [shrW_toNat]; simp
theorem accW_congr {f g : Nat → UInt32} (h : ∀ i, f i = g i) : ∀ j, accW f j = accW g j
  | 0 => rfl
  | j + 1 => by rw [accW, accW, accW_congr h j, h]

def chB (e f g : UInt32) (i : Nat) : UInt32 := if bitW e i = 1 then bitW f i else bitW g i
def majB (a b c : UInt32) (i : Nat) : UInt32 := (bitW a i + bitW b i + bitW c i) / 2

theorem ch_eq (e f g : UInt32) : accW (chB e f g) 32 = g ^^^ (e &&& (f ^^^ g)) := by
  rw [← accW_all (g ^^^ (e &&& (f ^^^ g)))]
  refine accW_congr (fun i => ?_) 32
  simp only [chB, bitW_eq, UInt32.toNat_xor, UInt32.toNat_and, Nat.testBit_xor, Nat.testBit_and]
  cases e.toNat.testBit i <;> cases f.toNat.testBit i <;> cases g.toNat.testBit i <;> decide
theorem maj_eq (a b c : UInt32) : accW (majB a b c) 32 = ((a &&& b) ||| (a &&& c)) ||| (b &&& c) := by
  rw [← accW_all (((a &&& b) ||| (a &&& c)) ||| (b &&& c))]
  refine accW_congr (fun i => ?_) 32
  simp only [majB, bitW_eq, UInt32.toNat_or, UInt32.toNat_and, Nat.testBit_or, Nat.testBit_and]
  cases a.toNat.testBit i <;> cases b.toNat.testBit i <;> cases c.toNat.testBit i <;> decide

theorem be4_eq (a b c e : UInt8) : beW [a, b, c, e] = UInt32.ofNat a.toNat * 16777216 + UInt32.ofNat b.toNat * 65536 + UInt32.ofNat c.toNat * 256 + UInt32.ofNat e.toNat := by
  apply UInt32.toNat_inj.1
  have h1 := a.toNat_lt
  have h2 := b.toNat_lt
  have h3 := c.toNat_lt
  have h4 := e.toNat_lt
  have k1 : (16777216 : UInt32).toNat = 16777216 := rfl
  have k2 : (65536 : UInt32).toNat = 65536 := rfl
  have k3 : (256 : UInt32).toNat = 256 := rfl
  simp only [beW, List.foldl, UInt32.toNat_add, UInt32.toNat_mul, UInt32.toNat_ofNat', k1, k2, k3, UInt32.toNat_zero]
  omega

/-! ## The reference's numbers go round -/

def refW (n : List UInt32) (i : Nat) : List UInt32 := [gW n 0 i, gW n 1 i, gW n 2 i, gW n 3 i, gW n 4 i, gW n 5 i, gW n 6 i, gW n 7 i]

theorem gW_set_ne {n : List UInt32} {k i j : Nat} {x : UInt32} (h : whoI k i ≠ j) : gW (n.set j x) k i = gW n k i := by
  simp [gW, List.getD, List.getElem?_set_ne (Ne.symm h)]
theorem gW_set_eq {n : List UInt32} {k i j : Nat} {x : UInt32} (h : whoI k i = j) (hn : n.length = 8) : gW (n.set j x) k i = x := by
  have : j < n.length := by have := whoI_lt k i; omega
  simp [gW, List.getD, h, this]
theorem gW_next {n : List UInt32} {k i : Nat} (h : i < 64) : gW n (k + 1) (i + 1) = gW n k i := by
  have : whoI (k + 1) (i + 1) = whoI k i := by unfold whoI; congr 1; omega
  unfold gW; rw [this]

theorem ref_step {n : List UInt32} {s m : UInt32} {i : Nat} (hi : i < 64) (hn : n.length = 8) :
    refW (stepW n s m i) (i + 1) = [pW n s m i + (((rotW (gW n 0 i) 2 ^^^ rotW (gW n 0 i) 13) ^^^ rotW (gW n 0 i) 22) + mostW n i), gW n 0 i, gW n 1 i, gW n 2 i, gW n 3 i + pW n s m i, gW n 4 i, gW n 5 i, gW n 6 i] := by
  have ne : ∀ k l : Nat, k < 8 → l < 8 → k ≠ l → whoI k i ≠ whoI l i := by
    intro k l hk hl hkl; unfold whoI; omega
  have h0 : whoI 0 (i + 1) = whoI 7 i := by unfold whoI; omega
  have g0 : gW (stepW n s m i) 0 (i + 1) = pW n s m i + ((rotW (gW n 0 i) 2 ^^^ rotW (gW n 0 i) 13) ^^^ rotW (gW n 0 i) 22) + mostW n i := by
    unfold stepW
    exact gW_set_eq h0 (by simpa using hn)
  have g4 : gW (stepW n s m i) 4 (i + 1) = gW n 3 i + pW n s m i := by
    rw [gW_next hi]; unfold stepW
    rw [gW_set_ne (ne 3 7 (by omega) (by omega) (by omega)), gW_set_eq rfl hn]
  have gk : ∀ k, k < 7 → k ≠ 3 → gW (stepW n s m i) (k + 1) (i + 1) = gW n k i := by
    intro k hk h3
    rw [gW_next hi]; unfold stepW
    rw [gW_set_ne (ne k 7 (by omega) (by omega) (by omega)), gW_set_ne (ne k 3 (by omega) (by omega) h3)]
  unfold refW
  rw [g0, g4, gk 0 (by omega) (by omega), gk 1 (by omega) (by omega), gk 2 (by omega) (by omega), gk 4 (by omega) (by omega), gk 5 (by omega) (by omega), gk 6 (by omega) (by omega), UInt32.add_assoc]

theorem ref_start {n : List UInt32} (hn : n.length = 8) : refW n 0 = n := by
  match n, hn with
  | [a, b, c, d, e, f, g, h], _ => rfl
theorem ref_end {n : List UInt32} (hn : n.length = 8) : refW n 64 = n := by
  match n, hn with
  | [a, b, c, d, e, f, g, h], _ => rfl

/-- The first k sums. -/
def sumT (was n : List UInt32) : Nat → List UInt32
  | 0 => []
  | k + 1 => sumT was n k ++ [n.getD k 0 + was.getD k 0]
@[simp] theorem sumT_length (was n : List UInt32) : ∀ k, (sumT was n k).length = k
  | 0 => rfl
  | k + 1 => by simp [sumT, sumT_length was n k]
theorem sumT_all {was n : List UInt32} (hn : n.length = 8) : sumT was n 8 = sumW was n 8 := by
  match n, hn with
  | [a, b, c, d, e, f, g, h], _ => rfl

/-! ## Bytes of numbers -/

theorem bytes4 {n : List UInt32} {i : Nat} : bytesW n (4 * i + 4) = bytesW n (4 * i) ++ [UInt8.ofNat (n.getD i 0 / 16777216).toNat, UInt8.ofNat (n.getD i 0 / 65536).toNat, UInt8.ofNat (n.getD i 0 / 256).toNat, UInt8.ofNat (n.getD i 0).toNat] := by
  have e : bytesW n (4 * i + 4) = bytesW n (4 * i) ++ [UInt8.ofNat (shrW (n.getD (4 * i / 4) 0) (24 - 4 * i % 4 * 8)).toNat] ++ [UInt8.ofNat (shrW (n.getD ((4 * i + 1) / 4) 0) (24 - (4 * i + 1) % 4 * 8)).toNat] ++
      [UInt8.ofNat (shrW (n.getD ((4 * i + 2) / 4) 0) (24 - (4 * i + 2) % 4 * 8)).toNat] ++ [UInt8.ofNat (shrW (n.getD ((4 * i + 3) / 4) 0) (24 - (4 * i + 3) % 4 * 8)).toNat] := rfl
  rw [e]
  have a1 : 4 * i / 4 = i := by omega
  have a2 : (4 * i + 1) / 4 = i := by omega
  have a3 : (4 * i + 2) / 4 = i := by omega
  have a4 : (4 * i + 3) / 4 = i := by omega
  have b1 : 24 - 4 * i % 4 * 8 = 24 := by omega
  have b2 : 24 - (4 * i + 1) % 4 * 8 = 16 := by omega
  have b3 : 24 - (4 * i + 2) % 4 * 8 = 8 := by omega
  have b4 : 24 - (4 * i + 3) % 4 * 8 = 0 := by omega
  rw [a1, a2, a3, a4, b1, b2, b3, b4]
  simp only [shrW_toNat, UInt32.toNat_div, List.append_assoc, List.cons_append, List.nil_append]
  have k1 : (16777216 : UInt32).toNat = 16777216 := rfl
  have k2 : (65536 : UInt32).toNat = 65536 := rfl
  have k3 : (256 : UInt32).toNat = 256 := rfl
  rw [k1, k2, k3]
  simp

theorem set4 {b : List UInt8} {i : Nat} {p q r s : UInt8} (hb : b.length = 4 * i) (hi : i < 8) :
    ((((b ++ List.replicate (32 - 4 * i) 0).set (4 * i) p).set (4 * i + 1) q).set (4 * i + 2) r).set (4 * i + 3) s = b ++ [p, q, r, s] ++ List.replicate (32 - (4 * i + 4)) 0 := by
  obtain ⟨k, hk⟩ : ∃ k, 32 - 4 * i = k + 4 := ⟨32 - 4 * i - 4, by omega⟩
  rw [hk, show 32 - (4 * i + 4) = k by omega]
  have e : List.replicate (k + 4) (0 : UInt8) = 0 :: 0 :: 0 :: 0 :: List.replicate k 0 := rfl
  rw [e, List.set_append_right _ _ (by omega), hb, List.set_append_right _ _ (by omega), hb, List.set_append_right _ _ (by omega), hb, List.set_append_right _ _ (by omega), hb]
  simp

/-! ## append(s, make([]byte, n)...) -/

theorem run_appendZ {t xt ts e m m' c : Nat} {p : Option Addr} {ie : TypeInfo} (hu : P.underlying t = some (.slice e)) (hie : P.info? e = some ie) (hs : ie.size = 1) (hb : ie.bytes = 1) (hz : ie.zero = some (.int .u8 0)) (hxt : P.underlying xt = some (.int .i64)) (hts : P.underlying ts = some .string)
    (h63 : m + m' ≤ 1000000) (hmc : m ≤ c) (w : World) :
    (Builtin.append_ #[t, xt] ty #[.slice p m c, .int .i64 (m' : Int)]).run P w = (Builtin.append_ #[t, ts] ty #[.slice p m c, .string ⟨Array.replicate m' 0⟩]).run P w := by
  have hw : IntKind.i64.wrap (m' : Int) = (m' : Int) := wrap_i64 (by omega) (by omega)
  have hneg : ¬ ((m' : Int) < 0) := by omega
  have h48 : ¬ ((281474976710656 : Int) < (m' : Int)) := by omega
  have h63' : ¬ (9223372036854775807 < ((m : Int) + (m' : Int))) := by omega
  have hsz : (⟨Array.replicate m' 0⟩ : ByteArray).size = m' := by simp [ByteArray.size]
  have hzc : Builtin.zeroCells (Value.cells (.int .u8 0)) m' = (List.replicate m' (Value.int .u8 0)).toArray := by
    apply Array.ext'
    simp only [Builtin.zeroCells, Value.cells]
    apply List.ext_getElem?
    intro i
    by_cases hi : i < m'
    · simp [hi, Nat.mod_one]
    · simp [hi]
  have hfc : ∀ w, (Builtin.firstCells 1 m' (.string ⟨Array.replicate m' 0⟩)).run P w = .ok (List.replicate m' (Value.int .u8 0)).toArray w := by
    intro w
    have e : (ByteArray.extract ⟨Array.replicate m' 0⟩ 0 m').data.map (fun b => Value.int .u8 b.toNat) = (List.replicate m' (Value.int .u8 0)).toArray := by
      apply Array.ext'
      simp [ByteArray.data_extract]
    simp only [Builtin.firstCells, e, Sem.run_pure]
  have hap : ∀ w, (if m' * 1 = 0 then (pure #[] : Sem (Array Value)) else do pure (Builtin.zeroCells (← zeroValue e).cells m')).run P w = .ok (List.replicate m' (Value.int .u8 0)).toArray w := by
    intro w
    by_cases h0 : m' = 0
    · subst h0; simp
    · have : ¬ (m' * 1 = 0) := by omega
      simp [this, zeroValue, typeInfo, hie, hz, hzc, Sem.run_bind]
  by_cases h0 : m' = 0
  · subst h0
    have hs0 : (⟨#[]⟩ : ByteArray).size = 0 := rfl
    have hf0 : ∀ w, (Builtin.firstCells 1 0 (.string ⟨#[]⟩)).run P w = .ok #[] w := fun w => by simpa using hfc w
    simp [Builtin.append_, run_underlying hu, run_underlying hxt, run_underlying hts, sizeOf, typeInfo, zeroValue, hie, hs, hb, hz, asInt, asIntOf, (show IntKind.i64.wrap 0 = 0 by decide), hmc, hs0, Builtin.lenOf, hf0]
  · have hpos : ¬ ((m' : Int) ≤ 0) := by omega
    have hpos' : ¬ (m' ≤ 0) := by omega
    by_cases hroom : m + m' ≤ c
    · simp [Builtin.append_, run_underlying hu, run_underlying hxt, run_underlying hts, sizeOf, typeInfo, zeroValue, hie, hs, hb, hz, asInt, asIntOf, hw, hneg, h48, hroom, hsz, Builtin.lenOf, hfc, hpos, hpos', h0, hzc]
      skip
    · have hfit : ¬ (281474976710656 < Builtin.nextslicecap (m + m') c * 1) := by have := growslice_fits (need := m + m') (old := c) (bytes := 1) (by omega) (by omega); omega
      simp only [Nat.mul_one] at hfit
      simp [Builtin.append_, run_underlying hu, run_underlying hxt, run_underlying hts, sizeOf, typeInfo, zeroValue, hie, hs, hb, hz, asInt, asIntOf, hw, hneg, h48, hroom, hsz, Builtin.lenOf, hfc, h63', hfit, hpos, hpos', h0, hzc]
      skip

theorem s_appendZ {t xt ts e m m' : Nat} {bs : List UInt8} (hE : Env a n L) (hx : ev L x = some v) (hy : ev L y = some (.int .i64 (m' : Int))) (hM : Mem w0 M w (own v 1 m (bv bs) :: H)) (ht : SlT P t e 1 1)
    (hz : (P.info? e).bind (·.zero) = some (.int .u8 0)) (hxt : P.underlying xt = some (.int .i64)) (hts : P.underlying ts = some .string) (hD : D = none) (h63 : m + m' ≤ 1000000) (hn : Nat.blt d n = true)
    (k : ∀ a' v' w', Env a' n ((d, v') :: L) → Mem w0 M w' (own v' 1 (m + m') (bv (bs ++ List.replicate m' 0)) :: H) → wpL P ops D Q rest a' w') :
    wpL P ops D Q ((false, ⟨some d, .call { callee := .builtin .append, args := #[x, y], argTypes := #[t, xt] }, ty, pos, aft, none⟩) :: rest) a w := by
  subst hD
  have hA : ∃ v' w', (Builtin.append_ #[t, xt] ty #[v, .int .i64 (m' : Int)]).run P w = .ok v' w' ∧ Appended w w' v v' 1 (m + m') (bv bs ++ bv (List.replicate m' 0)) := by
    have ht' := ht
    obtain ⟨hu, hs, hb, _⟩ := ht
    obtain ⟨ie, hie⟩ : ∃ ie, P.info? e = some ie := by cases h : P.info? e with | none => simp [h] at hs | some i => exact ⟨i, rfl⟩
    simp only [hie, Option.map_some, Option.some.injEq, Option.bind_some] at hs hb hz
    have hown := hM.get 0 rfl
    obtain ⟨p, c, hv⟩ : ∃ p c, v = .slice p m c := own_slice hown
    obtain ⟨c', hrd⟩ := own_rd hown
    have hmc : m ≤ c := by
      have := rd_len hrd
      rcases hrd.2 with ⟨q, h1, h2, h3⟩ | ⟨b, o, h1, h2, _⟩
      · omega
      · rw [hv] at h1; cases h1; exact h2
    have hsrc : Src P 1 ts (.string ⟨Array.replicate m' 0⟩) m' (bv (List.replicate m' 0)) w := by
      have := Src.str (P := P) (w := w) hts ⟨Array.replicate m' 0⟩
      simpa [ByteArray.size] using this
    obtain ⟨v', w', hr, hA⟩ := run_append (ty := ty) ht' hown hsrc (by rw [maxLen_eq]; omega) (by omega)
    refine ⟨v', w', ?_, hA⟩
    rw [hv, run_appendZ hu hie hs hb hz hxt hts h63 hmc]
    rw [hv] at hr; exact hr
  obtain ⟨v', w', hr, hA⟩ := hA
  refine b_val hE hn (v := v') (w' := w') ?_ trivial (fun a' hE' => k a' v' w' hE' ?_)
  · simp [execOp, resolve, invoke, builtin, hE.eval hx, hE.eval hy, hr]
  · have := hM.append hA
    rw [← bv_append] at this
    exact this

end Go.Kx
/- Own library, part K2: numbers of 64 bits; the reference's primes and roots, in plain Lean. -/
namespace Go.Kx
open Go
variable {P : Program} {ops : Array Oper} {D : Option (Nat → Prop)} {Q : Exit → Act → World → Prop} {w0 w w' : World} {M : List Nat} {H H' : List Ent}
  {a : Act} {n : Nat} {L : List (Nat × Value)} {rest : List (Bool × Oper)} {d : Nat} {ty : TypeId} {pos : String} {aft : Array Edge} {x y z : Operand} {u v r : Value}

def vV (x : UInt64) : Value := .int .u64 (x.toNat : Int)
theorem wrap_u64_ofNat (m : Nat) : IntKind.u64.wrap (m : Int) = ((UInt64.ofNat m).toNat : Int) := by
  rw [IntKind.wrap_u64]; simp
theorem wrap_u64_lt {m : Nat} (h : m < 2 ^ 64) : IntKind.u64.wrap (m : Int) = (m : Int) := by
  rw [wrap_u64_ofNat, UInt64.toNat_ofNat_of_lt' h]
theorem bin_add64 {t : TypeId} {x y : UInt64} : Bin P .add t (vV x) (vV y) (vV (x + y)) :=
  bin_add (by
    have := wrap_u64_ofNat (x.toNat + y.toNat)
    rw [Int.natCast_add] at this
    rw [this, UInt64.ofNat_add]; simp)
theorem bin_mul64 {t : TypeId} {x y : UInt64} : Bin P .mul t (vV x) (vV y) (vV (x * y)) :=
  bin_mul (by
    have := wrap_u64_ofNat (x.toNat * y.toNat)
    rw [Int.natCast_mul] at this
    rw [this, UInt64.ofNat_mul]; simp)
theorem bin_and64 {t : TypeId} {x y : UInt64} : Bin P .and t (vV x) (vV y) (vV (x &&& y)) := bin_of rfl fun w => by
  have e : (BitVec.ofInt IntKind.u64.bits (x.toNat : Int) &&& BitVec.ofInt IntKind.u64.bits (y.toNat : Int)).toNat = (x &&& y).toNat := by
    show (BitVec.ofInt 64 (x.toNat : Int) &&& BitVec.ofInt 64 (y.toNat : Int)).toNat = _
    simp [BitVec.toNat_and]
  simp only [vV, binOp, Op.intBits]
  rw [if_neg (by simp), e, wrap_u64_lt (UInt64.toNat_lt _)]; rfl
def shrV (x : UInt64) (k : Nat) : UInt64 := UInt64.ofNat (x.toNat / 2 ^ k)
def shlV (x : UInt64) (k : Nat) : UInt64 := UInt64.ofNat (x.toNat * 2 ^ k)
theorem bin_shr64 {t : TypeId} {x : UInt64} {k' : IntKind} {s : Nat} {j : Int} (hj : j = (s : Int)) (hs : s ≤ 64) : Bin P .shr t (vV x) (.int k' j) (vV (shrV x s)) := by
  have h := bin_shr_nat (P := P) (t := t) (k := .u64) (k' := k') (m := x.toNat) hj hs
  have e : (shrV x s).toNat = x.toNat / 2 ^ s := UInt64.toNat_ofNat_of_lt' (Nat.lt_of_le_of_lt (Nat.div_le_self _ _) x.toNat_lt)
  unfold vV; rw [e]; exact h
theorem bin_shl64 {t : TypeId} {x : UInt64} {k' : IntKind} {s : Nat} {j : Int} (hj : j = (s : Int)) (hs : s ≤ 64) : Bin P .shl t (vV x) (.int k' j) (vV (shlV x s)) := bin_of rfl fun w => by
  subst hj
  have h1 : ¬ ((s : Int) < 0) := by omega
  have h2 : min (s : Int).toNat IntKind.u64.bits = s := by show min s 64 = s; omega
  simp only [vV, binOp, Op.shift, h1, if_false, h2]
  have e : (x.toNat : Int) * 2 ^ s = ((x.toNat * 2 ^ s : Nat) : Int) := by simp
  rw [e, wrap_u64_ofNat]; rfl
theorem bin_rem64 {t : TypeId} {x y : UInt64} (h : y.toNat ≠ 0) : Bin P .rem t (vV x) (vV y) (vV (x % y)) := by
  have := bin_rem_nat (P := P) (t := t) (k := .u64) (m := x.toNat) h
  unfold vV; rw [UInt64.toNat_mod]; exact this

def vd (l : List UInt64) : List Value := l.map vV
@[simp] theorem vd_length (l : List UInt64) : (vd l).length = l.length := by simp [vd]
theorem vd_append (a b : List UInt64) : vd (a ++ b) = vd a ++ vd b := by simp [vd]
theorem vd_one (l : List UInt64) : One (vd l) := fun v hv => by
  obtain ⟨x, _, rfl⟩ := List.mem_map.1 hv; rfl
theorem vd_elem {l : List UInt64} {j : Nat} (h : j < l.length) : ((vd l).drop (j * 1)).take 1 = [vV (l.getD j 0)] := by
  apply List.ext_getElem?
  intro i
  cases i with
  | zero => simp [vd, List.getD, h]
  | succ i => simp; omega
def bl (l : List Bool) : List Value := l.map .bool
@[simp] theorem bl_length (l : List Bool) : (bl l).length = l.length := by simp [bl]
theorem bl_elem {l : List Bool} {j : Nat} (h : j < l.length) : ((bl l).drop (j * 1)).take 1 = [.bool (l.getD j false)] := by
  apply List.ext_getElem?
  intro i
  cases i with
  | zero => simp [bl, List.getD, h]
  | succ i => simp; omega
theorem bl_set {l : List Bool} {j : Nat} {b : Bool} (h : j < l.length) : wr (j * 1) [.bool b] (bl l) = bl (l.set j b) := by
  rw [Nat.mul_one, wr_set (by simpa using h)]
  simp [bl, List.map_set]

/-- The upper half of a product, as it is reckoned. -/
def mulHi (x y : UInt64) : UInt64 :=
  (shrV x 32 * shrV y 32 + shrV (shrV x 32 * (y &&& 4294967295) + shrV ((x &&& 4294967295) * (y &&& 4294967295)) 32) 32) +
    shrV (((shrV x 32 * (y &&& 4294967295) + shrV ((x &&& 4294967295) * (y &&& 4294967295)) 32) &&& 4294967295) + (x &&& 4294967295) * shrV y 32) 32

def leB (high low limit : UInt64) : Bool := decide ((high.toNat : Int) < (limit.toNat : Int)) || (decide ((high.toNat : Int) = (limit.toNat : Int)) && decide ((low.toNat : Int) = 0))
def withinB (x p : UInt64) (cube : Bool) : Bool :=
  match cube with
  | true => leB (mulHi x x * x + mulHi (x * x) x) (x * x * x) (p * 4294967296)
  | false => leB (mulHi x x) (x * x) p

def rootX (p : UInt64) (cube : Bool) : Nat → UInt64
  | 0 => 0
  | j + 1 => match withinB (rootX p cube j + shlV 1 (37 - j)) p cube with
    | true => rootX p cube j + shlV 1 (37 - j)
    | false => rootX p cube j
def rootW (p : UInt64) (cube : Bool) : UInt32 := UInt32.ofNat (rootX p cube 38 % 4294967296).toNat

def markB (n : Nat) : Nat → List Bool → List Bool
  | 0, l => l
  | k + 1, l => (markB n k l).set (n + k * n) true
@[simp] theorem markB_length (n : Nat) (l : List Bool) : ∀ k, (markB n k l).length = l.length
  | 0 => rfl
  | k + 1 => by simp [markB, markB_length n l k]

def primS : Nat → List Bool × List UInt64
  | 0 => (List.replicate 400 false, [])
  | j + 1 => match (primS j).1.getD (2 + j) false with
    | true => primS j
    | false => (markB (2 + j) (399 / (2 + j)) (primS j).1, (primS j).2 ++ [UInt64.ofNat (2 + j)])
theorem primS_length : ∀ j, (primS j).1.length = 400
  | 0 => by show (List.replicate 400 false).length = 400; exact List.length_replicate ..
  | j + 1 => by
    rw [primS]; split
    · exact primS_length j
    · simp [primS_length j]
theorem primS_prefix : ∀ {i j : Nat}, i ≤ j → (primS i).2 <+: (primS j).2
  | i, 0, h => by obtain rfl : i = 0 := by omega
                  exact List.prefix_refl _
  | i, j + 1, h => by
    rcases Nat.lt_or_eq_of_le h with h' | rfl
    · refine (primS_prefix (show i ≤ j by omega)).trans ?_
      rw [primS]; split
      · exact List.prefix_refl _
      · exact List.prefix_append ..
    · exact List.prefix_refl _
def primesW (many : Nat) : List UInt64 := (primS 398).2.take many
theorem primes_end {j many : Nat} (hj : j ≤ 398) (h1 : (primS j).2.length ≤ many) (h2 : j = 398 ∨ (primS j).2.length = many) : (primS j).2 = primesW many := by
  unfold primesW
  rcases h2 with rfl | h2
  · exact (List.take_of_length_le h1).symm
  · have := primS_prefix hj
    rw [← h2]
    exact List.prefix_iff_eq_take.1 this
theorem mark_more {n k : Nat} (hn : 0 < n) : n + k * n < 400 ↔ k < 399 / n := by
  have : n + k * n = (k + 1) * n := by rw [Nat.add_mul]; omega
  rw [this, Nat.lt_div_iff_mul_lt hn]
  rw [Nat.add_mul]
  have h := Nat.le_div_iff_mul_le (x := k + 1) (y := 399) hn
  constructor
  · intro h; omega
  · intro h; omega

theorem overW_append : ∀ (q r : Nat) (n : List UInt32) (a b : List UInt8), a.length = 64 * q → overW (q + r) n (a ++ b) = overW r (overW q n a) b
  | 0, r, n, a, b, h => by
    have : a = [] := List.eq_nil_of_length_eq_zero (by omega)
    subst this; simp [overW]
  | q + 1, r, n, a, b, h => by
    rw [show q + 1 + r = (q + r) + 1 by omega, overW, overW, List.take_append_of_le_length (by omega), List.drop_append_of_le_length (by omega)]
    exact overW_append q r _ _ b (by simp; omega)

theorem sha_whole (bs : List UInt8) : shaW bs = bytesW (overW ((bs ++ tailW bs.length).length / 64) seedsW (bs ++ tailW bs.length)) 32 := by
  have ht := tailW_length bs.length
  simp only [shaW, endW, Nat.zero_add]
  have e : bs ++ tailW bs.length = bs.take (64 * (bs.length / 64)) ++ (bs.drop (64 * (bs.length / 64)) ++ tailW bs.length) := by
    rw [← List.append_assoc, List.take_append_drop]
  have h1 : (bs.take (64 * (bs.length / 64))).length = 64 * (bs.length / 64) := by simp; omega
  have h2 : (bs ++ tailW bs.length).length / 64 = bs.length / 64 + (bs.drop (64 * (bs.length / 64)) ++ tailW bs.length).length / 64 := by
    simp only [List.length_append, List.length_drop]; omega
  rw [h2, e, overW_append _ _ _ _ _ h1]

theorem zeros_eq (n : Nat) : (if (64 - (n + 9) % 64) = 64 then 0 else 64 - (n + 9) % 64) = zerosW n := by
  unfold zerosW; split <;> omega

end Go.Kx
/- Own library, part K3: the salts and seeds are roots of primes. -/
namespace Go.Kx
open Go
theorem salts_are : (primesW 64).map (fun p => rootW p true) = saltsW := by decide +kernel
theorem seeds_are : (primesW 8).map (fun p => rootW p false) = seedsW := by decide +kernel

end Go.Kx
/- Own library, part Rf: a loop over an iterator: its body's walk, in a round. -/
set_option linter.unusedSimpArgs false
set_option linter.unusedVariables false
namespace Go.Kx
open Go
/-- The fence of a round: whatever else is as wide as can be. -/
abbrev Rd (l : Nat) : Fence := Fence.wide.inRound l
def noDefer (o : Oper) : Bool := match o.op with | .defer _ => false | _ => true
theorem noDefer_spec {o : Oper} (h : noDefer o = true) : ∀ c, o.op ≠ .defer c := fun c e => by simp [noDefer, e] at h
variable {P : Program} {ops : Array Oper} {Q : Exit → Act → World → Prop} {a : Act} {w : World} {l n : Nat}
theorem rowsIn_wide {row : String} {args : Array Value} {R : Value → World → Prop} (h : Rows P row args w R) : RowsIn (Rd l) n P row args w R :=
  fun c cs _ => let ⟨v, w', r, s⟩ := h c cs; ⟨v, w', r, stepsIn_wide.2 s⟩
theorem op_round {o : Oper} {K : Act → World → Prop} (hd : noDefer o = true) (hq : ¬ LetsOut Q) (h : o.wp P a w K Q) : o.wpIn (Rd l) n P a w K Q := by
  refine ⟨fun _ _ => trivial, ?_⟩
  rw [show (Rd l).round = some l from rfl, Oper.semAt_some l _ _ (noDefer_spec hd)]
  unfold Oper.wp at h
  generalize (execOp a.eval o).run P w = r at *
  cases r with
  | ok x w' =>
    cases x with
    | enter f args =>
      exact ⟨fun h' => by simp [Fence.wide] at h', callsIn_wide.2 (Calls.mono h fun e w'' he => by cases e <;> exact he)⟩
    | row r args => exact ⟨fun h' => by simp [Fence.wide] at h', rowsIn_wide h⟩
    | round => exact h.elim
    | _ => exact h
  | halt x w' => cases x <;> exact h
theorem list_round : ∀ {r : List Oper} {a : Act} {w : World}, r.all noDefer = true → ¬ LetsOut Q → wpList P ops Q r a w → wpListIn (Rd l) n P ops Q r a w
  | [], _, _, _, _, h => h
  | o :: r, a, w, hd, hq, h => by
    simp only [List.all_cons, Bool.and_eq_true] at hd
    simp only [wpList] at h
    simp only [wpListIn]
    split
    · rename_i hw
      simp only [hw, if_true] at h
      rcases h with h | h
      · exact op_round hd.1 hq (Oper.wp_mono (fun a w h => list_round hd.2 hq h) h)
      · exact absurd h.2 hq
    · rename_i hw
      simp only [hw] at h
      exact ⟨fun _ _ => trivial, list_round hd.2 hq h⟩
theorem any_round : ∀ (fuel : Nat) {listed : Array Bool} {a : Act} {w : World}, ops.toList.all noDefer = true → ¬ LetsOut Q → wpAny P .any ops Q fuel listed a w → wpAnyIn (Rd l) n P .any ops Q fuel listed a w
  | 0, _, _, _, _, _, h => h
  | fuel + 1, listed, a, w, hd, hq, h => by
    refine ⟨h.1, fun i hi => ?_⟩
    have h := h.2 i hi
    unfold Go.wpOp at h
    unfold wpOpIn
    split
    · rename_i e
      simp only [e] at h
      exact any_round fuel hd hq h
    · rename_i o e
      simp only [e] at h
      have hm : noDefer o = true := List.all_eq_true.1 hd o (by have := Array.mem_of_getElem? e; simpa using this)
      split
      · rename_i hw
        simp only [hw, if_true] at h
        rcases h with h | h
        · exact op_round hm hq (Oper.wp_mono (fun a w h => any_round fuel hd hq h) h)
        · exact absurd h.2 hq
      · rename_i hw
        simp only [hw] at h
        exact ⟨fun _ _ => trivial, any_round fuel hd hq h⟩
/-! ## The rules of code, in a round -/
section
variable {id : Nat} {D : Option (Nat → Prop)} {X2 : Nat → Prop} {w0 : World} {M : List Nat} {H : List Ent}
theorem rp_plain (fs : List Bool) {r : List (Bool × Oper)} (_hl : List.zip fs ops.toList = r) (hs : r.map (·.2) = ops.toList) (hd : ops.toList.all noDefer = true) (hq : ¬ LetsOut Q)
    (h : wpL P ops none Q r a w) : (Code.region id ops false).wpIn (Rd l) n P Q a w :=
  wpIn_region_list (list_round hd hq (by rw [← hs]; exact wpList_of_wpL r a w h))
theorem rp_treeM (hM : Mem w0 M w H) (hm : P.follows .mixedOrders = true) (X1 X2 : Nat → Prop) (pl : Pl) (c : List (Nat × Bool)) (T : List (Nat × List (Nat × Nat))) (hc : treeOk ops pl c T = true) (hd : ops.toList.all noDefer = true) (hq : ¬ LetsOut Q)
    (h : ∀ w', Mem w0 M w' H → w'.heap = w.heap → obl P ops X2 Q pl X1 c a w') : (Code.region id ops true).wpIn (Rd l) n P Q a w := by
  have h := h _ hM.drew rfl
  simp only [treeOk, Bool.and_eq_true, List.all_eq_true] at hc
  obtain ⟨⟨⟨⟨⟨⟨k1, k2⟩, k3⟩, k4⟩, k5⟩, k6⟩, k7⟩ := hc
  have hlen := Nat.eq_of_beq_eq_true k2
  have hops : opsOk ops := fun o ho => ⟨(k5 o ho).1, fun e he hb => by
    have := (k5 o ho).2
    have := Array.all_eq_true_iff_forall_mem.1 this e he
    simpa [hb] using this⟩
  have hin : ∀ p ∈ c, p.1 < ops.size := fun p hp => by have := (k1 p hp).1; simpa using this
  refine wpIn_region_any hm (any_round _ hd hq (wpAny_of_tree k4 hops ops.size pl X1 [] c [] _ a _ hlen.symm (by simp) k7 (List.Sublist.refl _) .nil (fun _ h => by cases h) ?_ h))
  refine ⟨fun p hp => ⟨hin p hp, by simp [hin p hp], by have := (k1 p hp).2; simpa using this⟩, fun i hi => .inr ?_, (pairsOk_spec k3).imp (fun h => ⟨by simpa using h.1, h.2⟩), fun j e hj => ?_⟩
  · obtain ⟨p, hp, he⟩ := List.any_eq_true.1 (k6 i (List.mem_range.2 hi))
    exact ⟨p, hp, Nat.eq_of_beq_eq_true he⟩
  · exfalso
    rcases Nat.lt_or_ge j ops.size with h' | h' <;> simp [h'] at hj
end
/-! ## Memory between two rounds -/
def Celd (e : Ent) : Prop := ∀ w, e.holds w → ∀ b, b ∈ e.fp ∨ b ∈ e.ro → ∃ o : Obj, w.heap[b]? = some o ∧ o.isCells = true
theorem celd_blk {b T : Nat} {ss : List (List Value)} {ns : List Nat} : Celd (blk b ss ns T) := fun w h b' hb => by
  obtain ⟨_, fr, h, _⟩ := h
  simp [blk] at hb; subst hb; exact ⟨_, h, rfl⟩
theorem celd_blkR {b T : Nat} {ss : List (List Value)} {ns : List Nat} : Celd (blkR b ss ns T) := fun w h b' hb => by
  obtain ⟨_, fr, h, _⟩ := h
  simp [blkR] at hb; subst hb; exact ⟨_, h, rfl⟩
theorem celd_own {v : Value} {es n : Nat} {cs : List Value} : Celd (own v es n cs) := fun w h b hb => by
  obtain ⟨_, ⟨rfl, _⟩ | ⟨b', cap, cur, T, fr, rfl, _, _, h3, _⟩⟩ := h
  · simp [own, valBlocks] at hb
  · simp [own, valBlocks] at hb; subst hb; exact ⟨_, h3, rfl⟩
theorem celd_ownW {v : Value} {es n : Nat} {cs : List Value} : Celd (ownW v es n cs) := fun w h b hb => by
  obtain ⟨_, ⟨rfl, _⟩ | ⟨b', cap, cur, T, fr, rfl, _, h3, _⟩⟩ := h
  · simp [ownW, valBlocks] at hb
  · simp [ownW, valBlocks] at hb; subst hb; exact ⟨_, h3, rfl⟩
theorem cell_isCells {w : World} {b o : Nat} {x : Value} (h : w.cell? ⟨b, o, none⟩ = some x) : ∃ ob : Obj, w.heap[b]? = some ob ∧ ob.isCells = true := by
  unfold World.cell? at h
  cases hb : w.heap[b]? with
  | none => simp [hb] at h
  | some ob =>
    cases ob <;> first | exact ⟨_, rfl, rfl⟩ | (simp [hb] at h)
theorem celd_cells {p x : Value} {cs : List Value} : Celd (cellsAt p (x :: cs)) := fun w h b hb => by
  obtain ⟨b', o, rfl, _, h3⟩ := h
  simp [cellsAt, valBlocks] at hb; subst hb
  exact cell_isCells (h3 0 x rfl)
theorem celd_glb {g : Nat} : Celd (glb g) := celd_cells
section
variable {w0 w w' : World} {M : List Nat} {H H' : List Ent}
theorem Mem.grown {row : Option Nat} {B : Nat} (hM : Mem w0 M w H) (hc : ∀ e, e ∈ H → Celd e) (hg : w.grownBy w' row) (hr : ∀ r, row = some r → B ≤ r ∧ ∃ o : Obj, w.heap[r]? = some o ∧ o.isCells = false) (hB : w0.heap.size ≤ B) : Mem w0 M w' H :=
  ⟨hg.os.trans hM.os, hg.tape.trans hM.tape, hg.output.trans hM.output, Nat.le_trans hM.size hg.size,
   fun b hb hm => (hg.block b (Nat.lt_of_lt_of_le hb hM.size) (fun e => by have := (hr b e.symm).1; omega)).trans (hM.frame b hb hm),
   fun e he => e.loc w w' (hM.holds e he) fun b hb => hg.block b (e.old w (hM.holds e he) b hb) fun e' => (by
     obtain ⟨o, h1, h2⟩ := hc e he w (hM.holds e he) b hb
     obtain ⟨o', h3, h4⟩ := (hr b e'.symm).2
     rw [h1] at h3; cases h3; rw [h2] at h4; cases h4),
   hM.new, hM.self, hM.apart⟩
theorem Mem.rebase (hM : Mem w0 M w H) : Mem w (H.flatMap Ent.fp) w H :=
  Mem.start w hM.holds (fun e he b hb => List.mem_flatMap.2 ⟨e, he, hb⟩) hM.self hM.apart
theorem Mem.back (hM : Mem w0 M w H) (h : Mem w (H.flatMap Ent.fp) w' H') : Mem w0 M w' H' :=
  ⟨h.os.trans hM.os, h.tape.trans hM.tape, h.output.trans hM.output, Nat.le_trans hM.size h.size,
   fun b hb hm => (h.frame b (Nat.lt_of_lt_of_le hb hM.size) (fun hf => by
     obtain ⟨e, he, hbe⟩ := List.mem_flatMap.1 hf
     rcases hM.new e he b hbe with h1 | h1
     · exact hm h1
     · omega)).trans (hM.frame b hb hm),
   h.holds, fun e he b hb => (by
     rcases h.new e he b hb with h1 | h1
     · obtain ⟨e', he', hbe⟩ := List.mem_flatMap.1 h1
       exact hM.new e' he' b hbe
     · exact .inr (Nat.le_trans hM.size h1)),
   h.self, h.apart⟩
theorem Mem.keeps {B : Nat} (hM : Mem w0 M w H) (hc : ∀ e, e ∈ H → Celd e) (h : Mem w (H.flatMap Ent.fp) w' H') : KeepsFrom B w w' :=
  ⟨h.size, fun k o _ hk ho => (h.frame k (Array.getElem?_eq_some_iff.1 hk).1 (fun hf => by
    obtain ⟨e, he, hbe⟩ := List.mem_flatMap.1 hf
    obtain ⟨o', h1, h2⟩ := hc e he w (hM.holds e he) k (.inl hbe)
    rw [hk] at h1; cases h1; rw [h2] at ho; cases ho)).trans hk⟩
end
/-! ## The loop -/
/-- What a loop over an iterator leaves of an activation: a mark among its deferred calls. -/
def marked (a : Act) (D : Nat) : Act := { a with defers := a.defers ++ [{ target := .collected D, args := #[] }] }
theorem wp_range {α : Type} {g : Operand} {p n gf N : Nat} {assign body : Code} {Q : Exit → Act → World → Prop} {a : Act} {w : World} {L : List (Nat × Value)} {lb : Array Value} {f : α → Value} {S Sp : List α → Prop}
    (hE : Env a n L) (hg : ev L g = some (.func (.func gf) #[] lb)) (eg : ∀ args w, (callFunc gf args).run P w = .ok (.enter gf args) w)
    (hseq : SeqStopsK Fence.wide 0 P gf lb (fun x => #[f x]) (fun _ _ => True) S Sp N w) (hp : Nat.blt p n = true)
    (I : List α → World → Prop) (Ix : Code → List α → World → Prop) (hI : OwnFrom w.heap.size I) (hIx : ∀ c, OwnFrom w.heap.size (Ix c)) (h0 : I [] w) (L1 : α → List (Nat × Value))
    (hassign : ∀ (l : Nat) (x : α) (a : Act) (W : World) (K : Act → World → Prop), Env a n ((p, f x) :: L) → (∀ a', Env a' n (L1 x) → K a' W) → assign.wpIn (Rd l) 0 P (Exit.then K (fun _ _ _ => False)) a W)
    (hbody : ∀ (l : Nat) (pre : List α) (x : α) (a' : Act) (W : World), I pre W → pre.length < N → Env a' n (L1 x) → body.wpIn (Rd l) 0 P (ownPostG w.heap.size (fun _ _ => True) I Ix (pre ++ [x]) W) a' W)
    (hdone : ∀ (D : Nat) (xs : List α) (W : World), w.heap.size ≤ D → S xs → I xs W → W.heap[D]? = some (.deferred (some [])) → Q .normal (marked a D) W)
    (hstop : ∀ (D : Nat) (c : Code) (pre : List α) (W : World), w.heap.size ≤ D → Sp pre → Ix c pre W → W.heap[D]? = some (.deferred (some [])) → c.wp P Q (marked a D) W) :
    (Code.rangeFunc g #[p] assign body).wp P Q a w := by
  refine (wpIn_wide (n := 1)).1 (wpIn_rangeFunc_ownH (F := Fence.wide) (n := 1) rfl (Nat.le_refl 1) (hE.eval hg) trivial eg (w0 := w) hseq (fun _ _ => trivial) (fun _ _ _ _ _ _ _ _ => trivial) (Go.RowKit.Below.refl _ _) (fun _ => rfl) I Ix hI hIx h0 (fun x a' _ => Env a' n (L1 x)) (fun x a' s W W' row hs _ _ => hs) ?_ ?_ ?_ ?_)
  · intro l pre x W K hpre hK
    have he : Env { tmps := (#[p].zip #[f x]).foldl (fun t (p, v) => t.setIfInBounds p v) a.tmps, defers := [] } n ((p, f x) :: L) := by
      have := hE.put (f x) (d := p) (by simpa using hp)
      have h2 : a.put (some p) (f x) = { tmps := a.tmps.setIfInBounds p (f x), defers := [] } := by simp [Act.put, hE.defers]
      rw [h2] at this
      simpa using this
    exact hassign l x _ W K he (fun a' h => hK a' W (KeepsFrom.refl _ _) trivial hpre h)
  · intro l pre x a' W _ _ hpre hx hlt
    exact hbody l pre x a' W hpre hlt hx
  · intro D xs W hle hS hi hD
    have := hdone D xs W hle hS hi hD
    simpa [marked, hE.defers] using this
  · intro D c pre W hle hS hi hD
    have := hstop D c pre W hle hS hi hD
    rw [wpIn_wide]
    simpa [marked, hE.defers] using this
theorem marked_put {a : Act} {D : Nat} {d : Option Nat} {v : Value} : (marked a D).put d v = marked (a.put d v) D := by cases d <;> rfl
theorem op_marked {o : Oper} {a : Act} {w : World} {D : Nat} {K : Act → World → Prop} (h : o.wp P a w (fun a w => K (marked a D) w) (fun e a w => Q e (marked a D) w)) : o.wp P (marked a D) w K Q := by
  unfold Oper.wp at *
  show o.upon P (marked a D) K Q ((execOp a.eval o).run P w)
  generalize (execOp a.eval o).run P w = r at *
  cases r with
  | ok x w' =>
    cases x with
    | enter f args =>
      refine Calls.mono h fun e w'' he => ?_
      cases e with
      | returned v => show K ((marked a D).put o.dst v) w''; rw [marked_put]; exact he
      | panicked c => exact he
      | outgrown => obtain ⟨a, w, he⟩ := he; exact ⟨_, w, he⟩
    | value v => show K ((marked a D).put o.dst v) w'; rw [marked_put]; exact h
    | skip => show K ((marked a D).put o.dst undef) w'; rw [marked_put]; exact h
    | defer d =>
      show K ((marked { a with defers := d :: a.defers } D).put o.dst undef) w'
      rw [marked_put]; exact h
    | row r args =>
      refine Rows.mono h fun v w'' he => ?_
      show K ((marked a D).put o.dst v) w''
      rw [marked_put]; exact he
    | _ => exact h.elim
  | halt x w' => cases x <;> exact h
theorem list_marked {D : Nat} : ∀ {r : List Oper} {a : Act} {w : World}, wpList P ops (fun e a w => Q e (marked a D) w) r a w → wpList P ops Q r (marked a D) w
  | [], _, _, h => h
  | o :: r, a, w, h => by
    simp only [wpList] at h
    show wpList P ops Q (o :: r) (marked a D) w
    simp only [wpList]
    show if Region.wanted o (yielded ops a.tmps) then _ else _
    split
    · rename_i hw
      simp only [hw, if_true] at h
      exact h.imp (fun h => op_marked (Oper.wp_mono (fun a w h => list_marked h) h)) (fun ⟨h1, a, w, h2⟩ => ⟨h1, _, w, h2⟩)
    · rename_i hw
      simp only [hw] at h
      rw [marked_put]
      exact list_marked h
theorem mp_plain {id D : Nat} {a : Act} {w : World} (fs : List Bool) {r : List (Bool × Oper)} (_hl : List.zip fs ops.toList = r) (hs : r.map (·.2) = ops.toList)
    (h : wpL P ops none (fun e a w => Q e (marked a D) w) r a w) : (Code.region id ops false).wp P Q (marked a D) w :=
  wp_region_list (list_marked (by rw [← hs]; exact wpList_of_wpL r a w h))
theorem f_enterM {f : FuncId} {fn : Func} {c : Code} {args : List Value} {w : World} {R : Ending → World → Prop} (n : Nat) (hf : P.funcs[f]? = some fn) (hb : fn.body = some c) (hn : fn.ntmps = n) (hle : Nat.ble args.length n = true)
    (h : ∀ a, Env a n (numb 0 args) → c.wp P (bodyPostM Fence.wide 0 P fn R) a w) : Calls P f args.toArray w R := by
  refine (callsIn_wide (n := 0)).1 (callsIn_of_wp_marks hf hb trivial (wpIn_wide.2 (h _ ?_)) rfl)
  rw [hn]
  exact Env.enter args n (Nat.le_of_ble_eq_true hle)
theorem post_M {fn : Func} {R : Ending → World → Prop} {e : Exit} {a : Act} {w : World} (h : bodyPost P fn R e a w) : bodyPostM Fence.wide 0 P fn R e a w := by
  cases e <;> simp only [bodyPost] at h <;> simp only [bodyPostM] <;> first | exact h | (obtain ⟨h1, h2⟩ := h; rw [h1]; exact h2)
theorem f_ret2M {fn : Func} {R : Ending → World → Prop} {a : Act} {W : World} {n D t1 t2 : Nat} {L : List (Nat × Value)} {v1 v2 : Value} (hE : Env a n L) (hr : fn.results = #[.tmp t1, .tmp t2]) (h1 : lk t1 L = some v1) (h2 : lk t2 L = some v2) (hD : W.heap[D]? = some (.deferred (some [])))
    (hR : R (.returned (.tuple #[v1, v2])) (W.putObj D (.deferred none))) : bodyPostM Fence.wide 0 P fn R .ret (marked a D) W := by
  have k1 := hE.at_ _ _ h1
  have k2 := hE.at_ _ _ h2
  simp only [bodyPostM, marked, hE.defers, List.nil_append]
  refine ⟨by simp, .inl ⟨_, _, rfl, run_takeDeferred hD, ?_⟩⟩
  exact ⟨_, by simp [results, hr, k1, k2], hR⟩
/-! ## A call of yield -/
theorem yin_val {o : Oper} {r : List Oper} {a : Act} {w : World} {v : Value} (hw : o.guard = none) (hd : noDefer o = true) (h : (execOp a.eval o).run P w = .ok (.value v) w) (k : wpListIn Fence.wide 0 P ops Q r (a.put o.dst v) w) : wpListIn Fence.wide 0 P ops Q (o :: r) a w := by
  simp only [wpListIn, Region.wanted, hw, if_true]
  refine ⟨fun _ _ => trivial, ?_⟩
  rw [show Fence.wide.round = none from rfl, Oper.semAt_none, h]
  exact k
theorem wp_yieldR {id n d1 d2 d3 d4 x y l t4 ty1 ty2 ty3 ty4 : Nat} {tys : Array TypeId} {p1 p2 p3 p4 : String} {f1 f2 f3 f4 : Array Edge} {a : Act} {w : World} {L : List (Nat × Value)} {u : Value} {R : Ending → World → Prop} (hE : Env a n L) (hx : lk x L = some (.func (.yield l) #[] #[])) (hy : lk y L = some u)
    (hl : (Nat.blt d1 n && Nat.blt d2 n && Nat.blt d3 n && Nat.blt d4 n && !(Nat.beq d1 y) && !(Nat.beq d2 d1)) = true) (hY : YieldAt Fence.wide 0 P l #[u] w R) (hR : ∀ e w', R e w' → ∃ b, e = .returned (.bool b))
    (k : ∀ (b : Bool) (a' : Act) (w' : World), R (.returned (.bool b)) w' → Env a' n ((d4, .bool (!b)) :: (d3, .bool b) :: (d2, u) :: (d1, .func (.yield l) #[] #[]) :: L) → Q .normal a' w') :
    (Code.region id #[⟨some d1, .move (.tmp x), ty1, p1, f1, none⟩, ⟨some d2, .move (.tmp y), ty2, p2, f2, none⟩, ⟨some d3, .call { callee := .value (.tmp d1), args := #[.tmp d2], argTypes := tys }, ty3, p3, f3, none⟩, ⟨some d4, .unOp .not t4 (.tmp d3), ty4, p4, f4, none⟩] false).wp P Q a w := by
  simp only [Bool.and_eq_true, Bool.not_eq_true'] at hl
  obtain ⟨⟨⟨⟨⟨l1, l2⟩, l3⟩, l4⟩, l5⟩, l6⟩ := hl
  obtain ⟨fn, tmps, assign, body, hy', hr⟩ := hY
  refine (wpIn_wide (n := 0)).1 (wpIn_region_list ?_)
  have E1 := hE.put (.func (.yield l) #[] #[]) (blt_lt l1)
  have e1 : lk y ((d1, Value.func (.yield l) #[] #[]) :: L) = some u := by simp only [lk, l5, cond_false]; exact hy
  have E2 := E1.put u (blt_lt l2)
  have e2 : lk d1 ((d2, u) :: (d1, Value.func (.yield l) #[] #[]) :: L) = some (.func (.yield l) #[] #[]) := by simp only [lk, l6, cond_false, Nat.beq_refl, cond_true]
  have e3 : lk d2 ((d2, u) :: (d1, Value.func (.yield l) #[] #[]) :: L) = some u := by simp only [lk, Nat.beq_refl, cond_true]
  refine yin_val (v := .func (.yield l) #[] #[]) rfl rfl (by simp [execOp, hE.eval (x := .tmp x) hx]) ?_
  refine yin_val (v := u) rfl rfl (by have := E1.eval (x := .tmp y) e1; simp only [execOp]; rw [this]; rfl) ?_
  simp only [wpListIn, Region.wanted, if_true]
  refine ⟨fun _ _ => trivial, ?_⟩
  rw [show Fence.wide.round = none from rfl, Oper.semAt_none]
  have hrun : (execOp (((a.put (some d1) (.func (.yield l) #[] #[])).put (some d2) u)).eval ⟨some d3, .call { callee := .value (.tmp d1), args := #[.tmp d2], argTypes := tys }, ty3, p3, f3, none⟩).run P w = .ok (.round l fn tmps assign body) w := by
    simp only [execOp, resolve, E2.eval (x := .tmp d1) e2]
    simp [Deferred.ofValue, invoke, E2.eval (x := .tmp d2) e3, hy']
  rw [hrun]
  refine ⟨fun h => by simp [Fence.wide] at h, hr.mono fun e w' he => ?_⟩
  obtain ⟨b, rfl⟩ := hR e w' he
  have E3 := E2.put (.bool b) (blt_lt l3)
  show Oper.wpIn Fence.wide 0 P _ _ w' _ Q
  refine ⟨fun _ _ => trivial, ?_⟩
  have hrun2 : (execOp ((((a.put (some d1) (.func (.yield l) #[] #[])).put (some d2) u)).put (some d3) (.bool b)).eval ⟨some d4, .unOp .not t4 (.tmp d3), ty4, p4, f4, none⟩).run P w' = .ok (.value (.bool (!b))) w' := by
    have := E3.eval (x := .tmp d3) (v := .bool b) (by simp only [ev, lk, Nat.beq_refl, cond_true])
    simp only [execOp]
    rw [this]
    simp [Op.unary]
  rw [show Fence.wide.round = none from rfl, Oper.semAt_none, hrun2]
  exact k b _ w' he (E3.put (.bool (!b)) (blt_lt l4))
/-! ## What a walk over a loop cites -/
def CeldL (H : List Ent) : Prop := ∀ e, e ∈ H → Celd e
theorem celdL_nil : CeldL [] := fun _ h => by cases h
theorem celdL_cons {e : Ent} {H : List Ent} (h : Celd e) (hs : CeldL H) : CeldL (e :: H) := fun f hf => by
  rcases List.mem_cons.1 hf with rfl | hf
  · exact h
  · exact hs f hf
theorem celd_rd {v : Value} {es n c : Nat} {cs : List Value} (hc : cs ≠ []) : Celd (rd v es n c cs) := fun w h b hb => by
  obtain ⟨hl, ⟨p, rfl, rfl, rfl⟩ | ⟨b', o, rfl, h1, h2, h3⟩⟩ := h
  · simp at hl; exact absurd hl hc
  · have hcl : 0 < cs.length := List.length_pos_iff.2 hc
    have hn : 0 < n := by rcases Nat.eq_zero_or_pos n with rfl | h; · omega
                          · exact h
    have hb' : b = b' := by
      rcases hb with hb | hb
      · cases hb
      · have := rdB_sub hb; simpa [valBlocks] using this
    subst hb'
    exact cell_isCells (h3 0 _ (List.getElem?_eq_getElem hcl))
theorem Mem.taken {w0 W : World} {M : List Nat} {H : List Ent} {D : Nat} {o o' : Obj} (hM : Mem w0 M W H) (hc : CeldL H) (hD : W.heap[D]? = some o) (ho : o.isCells = false) (hle : w0.heap.size ≤ D) : Mem w0 M (W.putObj D o') H :=
  hM.grown (B := w0.heap.size) hc (grownBy_putObj' W D o') (fun r e => by cases e; exact ⟨hle, o, hD, ho⟩) (Nat.le_refl _)
end Go.Kx
/- Own library, part Fm: numbers as decimal texts. -/
set_option linter.unusedSimpArgs false
namespace Go.Kx
open Go
variable {P : Program} {w w' : World}
abbrev decW (u : Nat) : List UInt8 := Lib.decDigits u
theorem decW_zero : decW 0 = [48] := by rw [decW, Lib.decDigits_one (by decide)]; rfl
/-! ## Boxes -/
def padT : List UInt8 := [112, 97, 100]
def sealT : List UInt8 := [115, 101, 97, 108]
def boxL (l q : List UInt8) (n : Nat) : List UInt8 := (((l ++ [32]) ++ q) ++ [32]) ++ decW n
def maskB (k l : List UInt8) (n : Nat) : List UInt8 := subW k (boxL l padT n)
def sealB (k l : List UInt8) (n : Nat) : List UInt8 := subW k (boxL l sealT n)
@[simp] theorem maskB_len (k l : List UInt8) (n : Nat) : (maskB k l n).length = 32 := subW_length ..
@[simp] theorem sealB_len (k l : List UInt8) (n : Nat) : (sealB k l n).length = 32 := subW_length ..
def tagB (k l : List UInt8) (n : Nat) (d : List UInt8) : List UInt8 := hmacW (sealB k l n) (plT 66 d)
@[simp] theorem tagB_len (k l : List UInt8) (n : Nat) (d : List UInt8) : (tagB k l n d).length = 32 := hmacW_length ..
def wrapD (k l : List UInt8) (n : Nat) (x : List UInt8) : List UInt8 := xorW x (maskB k l n)
def unwB (k l : List UInt8) (n : Nat) (d t : List UInt8) : Bool := decide (tagB k l n d = t)
/-! ## The last digits of a number -/
def tailD (n : Nat) : Nat → List UInt8
  | 0 => []
  | i + 1 => UInt8.ofNat (48 + n / 10 ^ i % 10) :: tailD n i
@[simp] theorem tailD_len (n i : Nat) : (tailD n i).length = i := by
  induction i with
  | zero => rfl
  | succ i ih => simp [tailD, ih]
/-! ## Boxes, read -/
theorem mask_slot (k : List UInt8) : subW k [115, 108, 111, 116, 32, 112, 97, 100, 32, 48] = maskB k [115, 108, 111, 116] 0 := congrArg (subW k) (by simp [boxL, padT, decW_zero])
theorem seal_slot (k : List UInt8) : subW k [115, 108, 111, 116, 32, 115, 101, 97, 108, 32, 48] = sealB k [115, 108, 111, 116] 0 := congrArg (subW k) (by simp [boxL, sealT, decW_zero])
end Go.Kx
/- Own library, part Sl: passphrases' slots, in plain Lean. -/
set_option linter.unusedSimpArgs false
namespace Go.Kx
open Go
variable {P : Program} {ops : Array Oper} {D : Option (Nat → Prop)} {Q : Exit → Act → World → Prop} {w0 w w' : World} {M : List Nat} {H H' : List Ent}
  {a : Act} {n : Nat} {L : List (Nat × Value)} {rest : List (Bool × Oper)} {d : Nat} {ty : TypeId} {pos : String} {aft : Array Edge} {x y z : Operand} {u v r : Value}
def slotT : List UInt8 := [115, 108, 111, 116]
def okp (p : List UInt8) : Bool := decide (1 ≤ p.length) && decide (p.length ≤ 48)
def okr (z : Int) : Bool := decide (1 ≤ z) && decide (z ≤ 4096)
def kK (p a : List UInt8) (z : Int) : List UInt8 := if okp p && okr z then keyW (phrW p) a z.toNat 32 else List.replicate 32 0
def keyS (p : List UInt8) (s : So) : List UInt8 := kK p s.2.2.1 s.2.1
def opS (p : List UInt8) (s : So) : Bool := s.1 && unwB (keyS p s) slotT 0 s.2.2.2.1 s.2.2.2.2
def getS (h : Hd) : Nat → So
  | 0 => h.s0
  | 1 => h.s1
  | 2 => h.s2
  | _ => h.s3
def setS (h : Hd) : Nat → So → Hd
  | 0, s => { h with s0 := s }
  | 1, s => { h with s1 := s }
  | 2, s => { h with s2 := s }
  | _, s => { h with s3 := s }
def newS (p b : List UInt8) (z : Int) (x : List UInt8) : So := (true, z, b, wrapD (kK p b z) slotT 0 x, tagB (kK p b z) slotT 0 (wrapD (kK p b z) slotT 0 x))
def intC (i : Nat) : List Value := [.int .i64 (i : Int)]
theorem intCs_one (ls : List Nat) : One (ls.flatMap intC) := fun v hv => by
  obtain ⟨c, _, h⟩ := List.mem_flatMap.1 hv
  simp [intC] at h; subst h; rfl
/-! ## The chapter's header -/
def emptyH : Hd := ⟨4, 1, zV, zV, zS, zS, zS, zS⟩
def k7 : List UInt8 := 7 :: List.replicate 31 0
def sa1 : List UInt8 := 1 :: List.replicate 15 0
def sa2 : List UInt8 := 2 :: List.replicate 15 0
def n1T : So := newS [97, 98] sa1 2 k7
def h1T : Hd := setS emptyH 0 n1T
def n2T : So := newS [99, 100] sa2 1 k7
def h2T : Hd := setS h1T 1 n2T
theorem tagB0 (k d : List UInt8) : tagB k slotT 0 d = hmacW (subW k [115, 108, 111, 116, 32, 115, 101, 97, 108, 32, 48]) (plT 66 d) := by rw [seal_slot]; rfl
theorem wrapD0 (k x : List UInt8) : wrapD k slotT 0 x = xorW x (subW k [115, 108, 111, 116, 32, 112, 97, 100, 32, 48]) := by rw [mask_slot]; rfl
end Go.Kx
