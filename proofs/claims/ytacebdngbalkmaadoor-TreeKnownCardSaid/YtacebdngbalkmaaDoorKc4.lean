/- Own library: parts KxY2, KxRc, KxWr, KxWx, KxWg, KxWh, KxSt, KxHd, KxHl, KxCp, KxHm, KxHn, KxK, KxK2, KxK3, KxRf, KxFm, KxSl, KxTr. -/
import Derived.Test.YtacebdngbalkmaaDoorKc3
import Derived.Scope
import Derived.RangeFuncNested
import Derived.RangeFuncBound
import Derived.RangeFuncCalls
import Derived.RangeFuncLeaves
import Derived.OrdersIn
import Derived.TacticsIn
import Derived.Lib.LaidTab
import Derived.Lib.ItoaNum
import Derived.Lib.ItoaMem
import Derived.Lib.ItoaLen
import Derived.Shelf.Strconv.Itoa2
set_option linter.unusedSimpArgs false
set_option linter.unusedVariables false
/- Own library, part Y2: lists of rows of one size; slices that are owned or full; cells with histories. -/
namespace Go.Kx
open Go
variable {P : Program} {ops : Array Oper} {D : Option (Nat → Prop)} {Q : Exit → Act → World → Prop} {w0 w w' : World} {M : List Nat} {H H' : List Ent}
  {a : Act} {n : Nat} {L : List (Nat × Value)} {rest : List (Bool × Oper)} {d : Nat} {ty : TypeId} {pos : String} {aft : Array Edge} {x y z : Operand} {u v r : Value}

/-! ## Lists of rows of one size -/

theorem flat_elem {α : Type} {f : α → List Value} {es : Nat} {d : α} : ∀ {xs : List α} {i : Nat}, (∀ x, x ∈ xs → (f x).length = es) → i < xs.length → ((xs.flatMap f).drop (i * es)).take es = f (xs.getD i d)
  | x :: xs, 0, h, _ => by
    rw [List.flatMap_cons, Nat.zero_mul, List.drop_zero]
    exact List.take_left' (h x (.head _))
  | x :: xs, i + 1, h, hi => by
    have := flat_elem (d := d) (xs := xs) (i := i) (fun y hy => h y (.tail _ hy)) (by simpa using hi)
    rw [show (i + 1) * es = es + i * es by rw [Nat.succ_mul]; omega, ← List.drop_drop, List.flatMap_cons, List.drop_left' (h x (.head _))]
    exact this

variable {W : World} {K : Type} {enc : TypeId × Value → K}
/-! ## Two entries are turned by a call -/

/-! ## Slices that are owned, or full -/

/-- Owned (b), or read alone and as long as they may be. -/
def hv (b : Bool) (v : Value) (es m : Nat) (cs : List Value) : Ent := cond b (own v es m cs) (rd v es m m cs)

/-! ## Cells -/

def lst (hs : List Cl) : Cl := hs.getD (hs.length - 1) cl0
@[simp] theorem lst_snoc (hs : List Cl) (c : Cl) : lst (hs ++ [c]) = c := by simp [lst, List.getD]
theorem lst_mem {hs : List Cl} (h : 0 < hs.length) : lst hs ∈ hs := by
  have e : lst hs = hs[hs.length - 1] := by simp only [lst, List.getD]; rw [List.getElem?_eq_getElem (by omega)]; rfl
  rw [e]; exact List.getElem_mem _
def mostC : Nat := 4611686018427387904
structure OkH (c0 : Cl) (hs : List Cl) : Prop where
  ok : ∀ x, x ∈ hs → OkCl x
  pos : 0 < hs.length
  top : (lst hs).1 ≤ mostC
  first : hs.getD 0 cl0 = c0
  step : ∀ k, 1 ≤ k → k < hs.length → (hs.getD k cl0).1 = (hs.getD (k - 1) cl0).1 + 1

theorem OkH.one {c0 : Cl} (h : OkCl c0) (hm : c0.1 ≤ mostC) : OkH c0 [c0] :=
  ⟨fun x hx => by rw [List.mem_singleton.1 hx]; exact h, by simp, hm, rfl, fun k h1 h2 => by simp at h2; omega⟩

theorem OkH.get {c0 : Cl} {hs : List Cl} (k : OkH c0 hs) {i : Nat} (h : i < hs.length) : OkCl (hs.getD i cl0) := by
  have e : hs.getD i cl0 = hs[i] := by simp [List.getD, h]
  rw [e]; exact k.ok _ (List.getElem_mem _)
theorem OkH.last {c0 : Cl} {hs : List Cl} (k : OkH c0 hs) : OkCl (lst hs) := k.ok _ (lst_mem k.pos)
/-- What is done to a cell: a number, and a label. -/
def act (x : Int × List UInt8) : List Value := .int .i64 x.1 :: bv x.2
end Go.Kx
/- Own library, part Rc: root records and writes as bytes, in plain Lean. -/
namespace Go.Kx
open Go
/-! ## Root records and writes -/
/-! What bytes are as a root record. -/
def py (b : List UInt8) : Nat := val ((b.drop 116).take 4)
end Go.Kx
/- Own library, part Wr: lists of rows that are read and appended to; writes as bytes. -/
namespace Go.Kx
open Go
variable {P : Program} {ops : Array Oper} {D : Option (Nat → Prop)} {Q : Exit → Act → World → Prop} {w0 w w' : World} {M : List Nat} {H H' : List Ent}
  {a : Act} {n : Nat} {L : List (Nat × Value)} {rest : List (Bool × Oper)} {d : Nat} {ty : TypeId} {pos : String} {aft : Array Edge} {x y z : Operand} {u v r : Value}

theorem getD_mem {α : Type} {l : List α} {i : Nat} {d : α} (h : i < l.length) : l.getD i d ∈ l := by
  simp [List.getD, h]
theorem Mem.ownRowsL {α : Type} {f : α → List Value} {es k : Nat} {ls ms : List α} {cs : List Value} (hM : Mem w0 M w (own v es (ls.length + k) (ls.flatMap f ++ cs) :: H)) (hk : k = ms.length) (hc : cs = ms.flatMap f) : Mem w0 M w (own v es (ls ++ ms).length ((ls ++ ms).flatMap f) :: H) :=
  hM.ownEq (by simp [hk]) (by simp [hc])
theorem Mem.ownRowsEq {α : Type} {f : α → List Value} {es : Nat} {ls ms : List α} (hM : Mem w0 M w (own v es ls.length (ls.flatMap f) :: H)) (h : ls = ms) : Mem w0 M w (own v es ms.length (ms.flatMap f) :: H) := h ▸ hM
theorem ok_nil {α : Type} {p : α → Prop} : ∀ x, x ∈ ([] : List α) → p x := fun _ h => by cases h
theorem rd_nilR (es : Nat) (w : World) : (rd (.slice none 0 0) es 0 0 []).holds w := ⟨by simp, .inl ⟨none, rfl, rfl, rfl⟩⟩

/-! ## Writes -/
abbrev Wr := Int × Int × List UInt8
def In64 (z : Int) : Prop := -9223372036854775808 ≤ z ∧ z ≤ 9223372036854775807
end Go.Kx
/- Own library, part Wx: a write that comes in. -/
namespace Go.Kx
open Go
variable {P : Program} {W : World}
end Go.Kx
/- Own library, part Wg: bytes as writes; a byte inside a part of a block. -/
namespace Go.Kx
open Go
variable {P : Program} {ops : Array Oper} {D : Option (Nat → Prop)} {Q : Exit → Act → World → Prop} {w0 w w' : World} {M : List Nat} {H H' : List Ent}
  {a : Act} {n : Nat} {L : List (Nat × Value)} {rest : List (Bool × Oper)} {d : Nat} {ty : TypeId} {pos : String} {aft : Array Edge} {x y z : Operand} {u v r : Value}
theorem Mem.blkEq {b T : Nat} {ss ss' : List (List Value)} {ns : List Nat} (hM : Mem w0 M w (blk b ss ns T :: H)) (h : ss = ss') : Mem w0 M w (blk b ss' ns T :: H) := h ▸ hM
/-! ## Writes, read -/
def wAt (bs : List UInt8) (i : Nat) : Wr := (((val ((bs.drop (69 * i)).take 1) : Nat) : Int), ((val ((bs.drop (69 * i + 1)).take 4) : Nat) : Int), (bs.drop (69 * i + 5)).take 64)
def wAts (bs : List UInt8) (n : Nat) : List Wr := (List.range n).map (wAt bs)
@[simp] theorem wAts_len (bs : List UInt8) (i : Nat) : (wAts bs i).length = i := by simp [wAts]
/-! ## Root records -/
end Go.Kx
/- Own library, part Wh: two slices of rows that come in. -/
namespace Go.Kx
open Go
variable {P : Program} {W : World}
end Go.Kx
/- Own library, part St: parts of strings; slices of rows that are made. -/
namespace Go.Kx
open Go
theorem rep_flat {α : Type} {f : α → List Value} {x : α} {n : Nat} {zc : List Value} (h : zc = f x) : (List.replicate n zc).flatten = (List.replicate n x).flatMap f := by
  subst h; rw [List.flatMap_def, List.map_replicate]
theorem ok_rep {α : Type} {p : α → Prop} {x : α} {n : Nat} (h : p x) : ∀ y, y ∈ List.replicate n x → p y := fun y hy => by rw [List.eq_of_mem_replicate hy]; exact h
end Go.Kx
/- Own library, part Hd: headers as bytes, in plain Lean. -/
namespace Go.Kx
open Go
/-- A volume: used, number, data, tag. -/
abbrev Vo := Bool × Nat × List UInt8 × List UInt8
/-- A slot: used, iterations, salt, data, tag. -/
abbrev So := Bool × Int × List UInt8 × List UInt8 × List UInt8
structure Hd where
  m : Int
  r : Int
  v0 : Vo
  v1 : Vo
  s0 : So
  s1 : So
  s2 : So
  s3 : So
def OkV (v : Vo) : Prop := v.2.1 < 18446744073709551616 ∧ v.2.2.1.length = 32 ∧ v.2.2.2.length = 32
def OkS (s : So) : Prop := In64 s.2.1 ∧ s.2.2.1.length = 16 ∧ s.2.2.2.1.length = 32 ∧ s.2.2.2.2.length = 32
structure OkHd (h : Hd) : Prop where
  m : In64 h.m
  r : In64 h.r
  v0 : OkV h.v0
  v1 : OkV h.v1
  s0 : OkS h.s0
  s1 : OkS h.s1
  s2 : OkS h.s2
  s3 : OkS h.s3
def zV : Vo := (false, 0, List.replicate 32 0, List.replicate 32 0)
def zS : So := (false, 0, List.replicate 16 0, List.replicate 32 0, List.replicate 32 0)
def volZ (v : Vo) : Bool := decide (v.1 = false ∧ (v.2.1 : Int) = 0 ∧ v.2.2.1 = List.replicate 32 0 ∧ v.2.2.2 = List.replicate 32 0)
def volB (v : Vo) : Bool := decide (v.2.1 ≤ 4611686018427387904) && (v.1 || volZ v)
def slotZ (s : So) : Bool := decide (s.1 = false ∧ s.2.1 = 0 ∧ s.2.2.1 = List.replicate 16 0 ∧ s.2.2.2.1 = List.replicate 32 0 ∧ s.2.2.2.2 = List.replicate 32 0)
def slotB (s : So) : Bool := if s.1 then decide (1 ≤ s.2.1) else slotZ s
def geoB (m r : Int) : Bool := decide (4 ≤ m) && decide (m ≤ 64) && decide (1 ≤ r) && decide (r ≤ 64)
def shapedB (h : Hd) : Bool := volB h.v0 && volB h.v1 && slotB h.s0 && slotB h.s1 && slotB h.s2 && slotB h.s3 && geoB h.m h.r
def longB (h : Hd) : Bool := decide (4096 < h.s0.2.1) || decide (4096 < h.s1.2.1) || decide (4096 < h.s2.2.1) || decide (4096 < h.s3.2.1)
def checkH (h : Hd) : Nat := if shapedB h && !longB h then 0 else 2
/-- What stands in bytes as a header. -/
def seg (b : List UInt8) (i n : Nat) : List UInt8 := (b.drop i).take n
/-- The sectors. -/
def padH (b : List UInt8) : List UInt8 := b ++ List.replicate 16 0
def cutH (b : List UInt8) : List (List UInt8) := (List.range 8).map fun i => seg (padH b) (64 * i) 64
end Go.Kx
/- Own library, part Hl: parts of rows of rows; a copy into a row of an owned slice. -/
set_option linter.unusedSimpArgs false
namespace Go.Kx
open Go
variable {P : Program} {ops : Array Oper} {D : Option (Nat → Prop)} {Q : Exit → Act → World → Prop} {w0 w w' : World} {M : List Nat} {H H' : List Ent}
  {a : Act} {n : Nat} {L : List (Nat × Value)} {rest : List (Bool × Oper)} {d : Nat} {ty : TypeId} {pos : String} {aft : Array Edge} {x y z : Operand} {u v r : Value}
/-! ## Lists of sectors -/
theorem bvs_one (ls : List (List UInt8)) : One (ls.flatMap bv) := fun v hv => by
  obtain ⟨c, _, h⟩ := List.mem_flatMap.1 hv
  exact bv_one c v h
@[simp] theorem cutH_len (b : List UInt8) : (cutH b).length = 8 := by simp [cutH]
end Go.Kx
/- Own library, part Cp: a copy of rows into the end of an owned slice. -/
set_option linter.unusedSimpArgs false
namespace Go.Kx
open Go
variable {P : Program} {ops : Array Oper} {D : Option (Nat → Prop)} {Q : Exit → Act → World → Prop} {w0 w w' : World} {M : List Nat} {H H' : List Ent}
  {a : Act} {n : Nat} {L : List (Nat × Value)} {rest : List (Bool × Oper)} {d : Nat} {ty : TypeId} {pos : String} {aft : Array Edge} {x y z : Operand} {u v r : Value}
/-- The end of an owned slice, as a slice. -/
def tailV : Value → Nat → Nat → Value
  | .slice (some a) m c, es, j => .slice (some (a.add (j * es))) (m - j) (c - j)
  | _, _, _ => .slice none 0 0
/-- A copy of rows into the end of an owned slice. -/
theorem s_copyRows {t t2 e by_ es m j q c : Nat} {v : Value} {cs cells : List Value} (hE : Env a n L) (hx : ev L x = some (tailV v es j)) (hy : ev L y = some u) (hM : Mem w0 M w (own v es m cells :: H))
    (hr : (rd u es q c cs).holds w) (hq : q ≤ m - j) (hj : j < m) (h1 : One cs) (ht : SlT P t e es by_) (hX : ∀ X, D = some X → ∀ b, b ∈ valBlocks v → X b) (hn : Nat.blt d n = true)
    (kk : ∀ a' w', Env a' n ((d, .int .i64 (q : Int)) :: L) → Mem w0 M w' (own v es m (wr (j * es) cs cells) :: H) → wpL P ops D Q rest a' w') :
    wpL P ops D Q ((false, ⟨some d, .call { callee := .builtin .copy, args := #[x, y], argTypes := #[t, t2] }, ty, pos, aft, none⟩) :: rest) a w := by
  obtain ⟨h0, ⟨rfl, rfl⟩ | ⟨b, cap, cur, T, fr, rfl, g1, g2, g3, g4, g5, g6⟩⟩ := hM.holds _ (List.mem_cons_self ..)
  · omega
  have hcl : cs.length = q * es := hr.1
  have hb := (Array.getElem?_eq_some_iff.1 g3).1
  have hcap : m * es ≤ cap * es := Nat.mul_le_mul_right _ g1
  have hqe : q * es ≤ (m - j) * es := Nat.mul_le_mul_right _ hq
  have hje : j * es + (m - j) * es = m * es := by rw [← Nat.add_mul]; congr 1; omega
  have hst := run_storeCells (P := P) (o := j * es) cs 0 _ w g3 (by simpa using g6) (by rw [hcl]; omega) h1
  have hfc := firstCells_rd (P := P) hr (m := q) (Nat.le_refl q)
  rw [List.take_of_length_le (by omega)] at hfc
  have hlen := lenOf_rd (P := P) hr
  simp only [tailV, Addr.add_mid, Nat.zero_add] at hx
  have hwl : (wr (j * es) cs cur.toList).length = cur.size := by rw [wr_length (by simp; omega)]; simp
  refine b_val hE hn (v := .int .i64 (q : Int)) (w' := setBlk w b (.cells (wr (j * es) cs cur.toList).toArray T fr)) ?_ (sta_of_setBlk (fun X hD => hX X hD b (by simp [valBlocks]))) (fun a' hE' => kk a' _ hE' ?_)
  · obtain ⟨hu, hs, _, _⟩ := ht
    simp only [Nat.add_zero] at hst
    have hmin : Nat.min (m - j) q = q := Nat.min_eq_right hq
    have hmin' : min (m - j) q = q := Nat.min_eq_right hq
    have hmin3 : Nat.min q (m - j) = q := Nat.min_eq_left hq
    have hmin4 : min q (m - j) = q := Nat.min_eq_left hq
    simp [execOp, resolve, invoke, builtin, hE.eval hx, hE.eval hy, Builtin.copy_, run_underlying hu, run_sizeOf hs, Sem.run_bind, hlen, hmin, hmin', hmin3, hmin4, hfc, hst]
    exact ⟨rfl, by simp [wr]⟩
  · refine Mem.act (es := [own (.slice (some ⟨b, 0, none⟩) m cap) es m cells]) (es' := [own (.slice (some ⟨b, 0, none⟩) m cap) es m (wr (j * es) cs cells)]) hM rfl rfl rfl (by simp) (fun b' hb' hne => setBlk_other fun e => hne _ (List.mem_cons_self ..) (by simp [own, valBlocks, e])) ?_ ?_ ?_ ?_ (List.pairwise_singleton ..)
    · intro e he; rw [List.mem_singleton.1 he]
      refine ⟨by rw [wr_length (by rw [hcl]; omega)]; exact h0, .inr ⟨b, cap, (wr (j * es) cs cur.toList).toArray, T, fr, rfl, g1, g2, setBlk_same hb, ?_, ?_, ?_⟩⟩
      · simpa [hwl] using g4
      · rw [← g5]
        have e1 : cur.toList = cur.toList.take (m * es) ++ cur.toList.drop (m * es) := (List.take_append_drop _ _).symm
        have hlt : (cur.toList.take (m * es)).length = m * es := by simp; omega
        show List.take (m * es) (wr (j * es) cs cur.toList) = _
        conv => lhs; rw [e1]
        rw [wr_append_left (by rw [hcl]; omega)]
        rw [List.take_left' (by rw [wr_length (by rw [hcl]; omega)]; exact hlt)]
      · simpa [hwl] using g6
    · intro e he b' hb'; rw [List.mem_singleton.1 he] at hb'; exact .inl ⟨_, List.mem_cons_self .., hb'⟩
    · intro e he b' hb'; rw [List.mem_singleton.1 he] at hb'; cases hb'
    · intro e he b' hb'; rw [List.mem_singleton.1 he] at hb'; cases hb'
theorem s_tailRows {t es m j : Nat} {lo : Operand} {cs : List Value} (hE : Env a n L) (hx : ev L x = some v) (hr : (own v es m cs).holds w) (ht : slT P t = some es) (hl : SArg L (some lo) 0 j) (hj : j < m) (hn : Nat.blt d n = true)
    (k : ∀ a', Env a' n ((d, tailV v es j) :: L) → wpL P ops D Q rest a' w) : wpL P ops D Q ((true, ⟨some d, .slice t x (some lo) none none, ty, pos, aft, none⟩) :: rest) a w := by
  obtain ⟨e, hu, hs⟩ := slT_spec ht
  obtain ⟨h0, ⟨rfl, rfl⟩ | ⟨b, cap, cur, T, fr, rfl, h1, h3⟩⟩ := hr
  · omega
  · refine s_val hE hn (Flo.of_all (fun w => ?_) w) k
    have hb := sliceBounds_ok (P := P) (lo := some lo) (hi := none) (mx := none) (l := j) (h := m) (m := cap) (len := m) (cap := cap) (b := true) hE hl rfl rfl (by simp) (by omega) (by omega) (by omega)
    simp only [execOp, Instr.sliceAt, Instr.slice, hE.eval hx, Sem.run_bind, run_underlying hu, Result.andThen_ok, hb, run_sizeOf hs, Sem.run_pure, tailV]
    simp [show cap ≠ j by omega]
end Go.Kx
/- Own library, part Hm: a copy of whatever length into a part of a block; headers of what is short. -/
set_option linter.unusedSimpArgs false
namespace Go.Kx
open Go
variable {P : Program} {ops : Array Oper} {D : Option (Nat → Prop)} {Q : Exit → Act → World → Prop} {w0 w w' : World} {M : List Nat} {H H' : List Ent}
  {a : Act} {n : Nat} {L : List (Nat × Value)} {rest : List (Bool × Oper)} {d : Nat} {ty : TypeId} {pos : String} {aft : Array Edge} {x y z : Operand} {u v r : Value}
/-! ## Parts of slices of rows -/
/-! ## The reference's headers -/
def cut8 (b : List UInt8) : List (List UInt8) := (List.range 8).map fun i => seg b (64 * i) 64
@[simp] theorem cut8_len (b : List UInt8) : (cut8 b).length = 8 := by simp [cut8]
/-! ## What is got of sectors -/
/-! ## Bytes that are turned -/
end Go.Kx
/- Own library, part Hn: a header that comes in as an argument. -/
set_option linter.unusedSimpArgs false
namespace Go.Kx
open Go
open Go.ChangeShapes Go.WideShapes Go.ChangeAt Go.RowKit
variable {P : Program} {W : World}
/-- The fields of a struct of 2, 3, 4 fields. -/
def fieldsL (P : Program) (fs : Array Field) : List (Nat × Nat × Nat) := fs.toList.map (fun f => (f.type, f.offset, P.cellsOf f.type))
/-- The types' numbers. -/
structure HdT (P : Program) where
  (th tg tvs tv tss ts tx tk tt ta ti tb tn te : Nat)
  (fh fg fv fs fx : Array Field)
  uh : P.underlying th = some (.struct fh)
  ug : P.underlying tg = some (.struct fg)
  uvs : P.underlying tvs = some (.array 2 tv)
  uv : P.underlying tv = some (.struct fv)
  uss : P.underlying tss = some (.array 4 ts)
  us : P.underlying ts = some (.struct fs)
  ux : P.underlying tx = some (.struct fx)
  uk : P.underlying tk = some (.array 32 te)
  ut : P.underlying tt = some (.array 32 te)
  ua : P.underlying ta = some (.array 16 te)
  ui : P.underlying ti = some (.int .i64)
  ub : P.underlying tb = some .bool
  un : P.underlying tn = some (.int .u64)
  ue : P.underlying te = some (.int .u8)
  ch : P.cellsOf th = 462
  cg : P.cellsOf tg = 2
  cvs : P.cellsOf tvs = 2 * 66
  cv : P.cellsOf tv = 66
  css : P.cellsOf tss = 4 * 82
  cs : P.cellsOf ts = 82
  cx : P.cellsOf tx = 64
  ck : P.cellsOf tk = 32 * 1
  ct : P.cellsOf tt = 32 * 1
  ca : P.cellsOf ta = 16 * 1
  ce : P.cellsOf te = 1
  lh : fieldsL P fh = [(tg, 0, 2), (tvs, 2, 132), (tss, 134, 328)]
  lg : fieldsL P fg = [(ti, 0, 1), (ti, 1, 1)]
  lv : fieldsL P fv = [(tb, 0, 1), (tn, 1, 1), (tx, 2, 64)]
  ls : fieldsL P fs = [(tb, 0, 1), (ti, 1, 1), (ta, 2, 16), (tx, 18, 64)]
  lx : fieldsL P fx = [(tk, 0, 32), (tt, 32, 32)]
end Go.Kx
/- Own library, part K: what the document's SHA-256 computes is what the given one computes; append of new memory. -/
namespace Go.Kx
open Go
variable {P : Program} {ops : Array Oper} {D : Option (Nat → Prop)} {Q : Exit → Act → World → Prop} {w0 w w' : World} {M : List Nat} {H H' : List Ent}
  {a : Act} {n : Nat} {L : List (Nat × Value)} {rest : List (Bool × Oper)} {d : Nat} {ty : TypeId} {pos : String} {aft : Array Edge} {x y z : Operand} {u v r : Value}

/-! ## Words, more -/

/-! ## The reference's numbers go round -/

/-- The first k sums. -/
def sumT (was n : List UInt32) : Nat → List UInt32
  | 0 => []
  | k + 1 => sumT was n k ++ [n.getD k 0 + was.getD k 0]
@[simp] theorem sumT_length (was n : List UInt32) : ∀ k, (sumT was n k).length = k
  | 0 => rfl
  | k + 1 => by simp [sumT, sumT_length was n k]
/-! ## Bytes of numbers -/

/-! ## append(s, make([]byte, n)...) -/

end Go.Kx
/- Own library, part K2: numbers of 64 bits; the reference's primes and roots, in plain Lean. -/
namespace Go.Kx
open Go
variable {P : Program} {ops : Array Oper} {D : Option (Nat → Prop)} {Q : Exit → Act → World → Prop} {w0 w w' : World} {M : List Nat} {H H' : List Ent}
  {a : Act} {n : Nat} {L : List (Nat × Value)} {rest : List (Bool × Oper)} {d : Nat} {ty : TypeId} {pos : String} {aft : Array Edge} {x y z : Operand} {u v r : Value}

def vV (x : UInt64) : Value := .int .u64 (x.toNat : Int)
def vd (l : List UInt64) : List Value := l.map vV
@[simp] theorem vd_length (l : List UInt64) : (vd l).length = l.length := by simp [vd]
def bl (l : List Bool) : List Value := l.map .bool
@[simp] theorem bl_length (l : List Bool) : (bl l).length = l.length := by simp [bl]
def markB (n : Nat) : Nat → List Bool → List Bool
  | 0, l => l
  | k + 1, l => (markB n k l).set (n + k * n) true
@[simp] theorem markB_length (n : Nat) (l : List Bool) : ∀ k, (markB n k l).length = l.length
  | 0 => rfl
  | k + 1 => by simp [markB, markB_length n l k]

end Go.Kx
/- Own library, part K3: the salts and seeds are roots of primes. -/
namespace Go.Kx
open Go
end Go.Kx
/- Own library, part Rf: a loop over an iterator: its body's walk, in a round. -/
set_option linter.unusedSimpArgs false
set_option linter.unusedVariables false
namespace Go.Kx
open Go
/-- The fence of a round: whatever else is as wide as can be. -/
abbrev Rd (l : Nat) : Fence := Fence.wide.inRound l
def noDefer (o : Oper) : Bool := match o.op with | .defer _ => false | _ => true
theorem noDefer_spec {o : Oper} (h : noDefer o = true) : ∀ c, o.op ≠ .defer c := fun c e => by simp [noDefer, e] at h
variable {P : Program} {ops : Array Oper} {Q : Exit → Act → World → Prop} {a : Act} {w : World} {l n : Nat}
theorem rowsIn_wide {row : String} {args : Array Value} {R : Value → World → Prop} (h : Rows P row args w R) : RowsIn (Rd l) n P row args w R :=
  fun c cs _ => let ⟨v, w', r, s⟩ := h c cs; ⟨v, w', r, stepsIn_wide.2 s⟩
theorem op_round {o : Oper} {K : Act → World → Prop} (hd : noDefer o = true) (hq : ¬ LetsOut Q) (h : o.wp P a w K Q) : o.wpIn (Rd l) n P a w K Q := by
  refine ⟨fun _ _ => trivial, ?_⟩
  rw [show (Rd l).round = some l from rfl, Oper.semAt_some l _ _ (noDefer_spec hd)]
  unfold Oper.wp at h
  generalize (execOp a.eval o).run P w = r at *
  cases r with
  | ok x w' =>
    cases x with
    | enter f args =>
      exact ⟨fun h' => by simp [Fence.wide] at h', callsIn_wide.2 (Calls.mono h fun e w'' he => by cases e <;> exact he)⟩
    | row r args => exact ⟨fun h' => by simp [Fence.wide] at h', rowsIn_wide h⟩
    | round => exact h.elim
    | _ => exact h
  | halt x w' => cases x <;> exact h
theorem list_round : ∀ {r : List Oper} {a : Act} {w : World}, r.all noDefer = true → ¬ LetsOut Q → wpList P ops Q r a w → wpListIn (Rd l) n P ops Q r a w
  | [], _, _, _, _, h => h
  | o :: r, a, w, hd, hq, h => by
    simp only [List.all_cons, Bool.and_eq_true] at hd
    simp only [wpList] at h
    simp only [wpListIn]
    split
    · rename_i hw
      simp only [hw, if_true] at h
      rcases h with h | h
      · exact op_round hd.1 hq (Oper.wp_mono (fun a w h => list_round hd.2 hq h) h)
      · exact absurd h.2 hq
    · rename_i hw
      simp only [hw] at h
      exact ⟨fun _ _ => trivial, list_round hd.2 hq h⟩
theorem any_round : ∀ (fuel : Nat) {listed : Array Bool} {a : Act} {w : World}, ops.toList.all noDefer = true → ¬ LetsOut Q → wpAny P .any ops Q fuel listed a w → wpAnyIn (Rd l) n P .any ops Q fuel listed a w
  | 0, _, _, _, _, _, h => h
  | fuel + 1, listed, a, w, hd, hq, h => by
    refine ⟨h.1, fun i hi => ?_⟩
    have h := h.2 i hi
    unfold Go.wpOp at h
    unfold wpOpIn
    split
    · rename_i e
      simp only [e] at h
      exact any_round fuel hd hq h
    · rename_i o e
      simp only [e] at h
      have hm : noDefer o = true := List.all_eq_true.1 hd o (by have := Array.mem_of_getElem? e; simpa using this)
      split
      · rename_i hw
        simp only [hw, if_true] at h
        rcases h with h | h
        · exact op_round hm hq (Oper.wp_mono (fun a w h => any_round fuel hd hq h) h)
        · exact absurd h.2 hq
      · rename_i hw
        simp only [hw] at h
        exact ⟨fun _ _ => trivial, any_round fuel hd hq h⟩
/-! ## The rules of code, in a round -/
section
variable {id : Nat} {D : Option (Nat → Prop)} {X2 : Nat → Prop} {w0 : World} {M : List Nat} {H : List Ent}
theorem rp_plain (fs : List Bool) {r : List (Bool × Oper)} (_hl : List.zip fs ops.toList = r) (hs : r.map (·.2) = ops.toList) (hd : ops.toList.all noDefer = true) (hq : ¬ LetsOut Q)
    (h : wpL P ops none Q r a w) : (Code.region id ops false).wpIn (Rd l) n P Q a w :=
  wpIn_region_list (list_round hd hq (by rw [← hs]; exact wpList_of_wpL r a w h))
theorem rp_treeM (hM : Mem w0 M w H) (hm : P.follows .mixedOrders = true) (X1 X2 : Nat → Prop) (pl : Pl) (c : List (Nat × Bool)) (T : List (Nat × List (Nat × Nat))) (hc : treeOk ops pl c T = true) (hd : ops.toList.all noDefer = true) (hq : ¬ LetsOut Q)
    (h : ∀ w', Mem w0 M w' H → w'.heap = w.heap → obl P ops X2 Q pl X1 c a w') : (Code.region id ops true).wpIn (Rd l) n P Q a w := by
  have h := h _ hM.drew rfl
  simp only [treeOk, Bool.and_eq_true, List.all_eq_true] at hc
  obtain ⟨⟨⟨⟨⟨⟨k1, k2⟩, k3⟩, k4⟩, k5⟩, k6⟩, k7⟩ := hc
  have hlen := Nat.eq_of_beq_eq_true k2
  have hops : opsOk ops := fun o ho => ⟨(k5 o ho).1, fun e he hb => by
    have := (k5 o ho).2
    have := Array.all_eq_true_iff_forall_mem.1 this e he
    simpa [hb] using this⟩
  have hin : ∀ p ∈ c, p.1 < ops.size := fun p hp => by have := (k1 p hp).1; simpa using this
  refine wpIn_region_any hm (any_round _ hd hq (wpAny_of_tree k4 hops ops.size pl X1 [] c [] _ a _ hlen.symm (by simp) k7 (List.Sublist.refl _) .nil (fun _ h => by cases h) ?_ h))
  refine ⟨fun p hp => ⟨hin p hp, by simp [hin p hp], by have := (k1 p hp).2; simpa using this⟩, fun i hi => .inr ?_, (pairsOk_spec k3).imp (fun h => ⟨by simpa using h.1, h.2⟩), fun j e hj => ?_⟩
  · obtain ⟨p, hp, he⟩ := List.any_eq_true.1 (k6 i (List.mem_range.2 hi))
    exact ⟨p, hp, Nat.eq_of_beq_eq_true he⟩
  · exfalso
    rcases Nat.lt_or_ge j ops.size with h' | h' <;> simp [h'] at hj
end
/-! ## Memory between two rounds -/
def Celd (e : Ent) : Prop := ∀ w, e.holds w → ∀ b, b ∈ e.fp ∨ b ∈ e.ro → ∃ o : Obj, w.heap[b]? = some o ∧ o.isCells = true
theorem celd_blk {b T : Nat} {ss : List (List Value)} {ns : List Nat} : Celd (blk b ss ns T) := fun w h b' hb => by
  obtain ⟨_, fr, h, _⟩ := h
  simp [blk] at hb; subst hb; exact ⟨_, h, rfl⟩
theorem celd_blkR {b T : Nat} {ss : List (List Value)} {ns : List Nat} : Celd (blkR b ss ns T) := fun w h b' hb => by
  obtain ⟨_, fr, h, _⟩ := h
  simp [blkR] at hb; subst hb; exact ⟨_, h, rfl⟩
theorem celd_own {v : Value} {es n : Nat} {cs : List Value} : Celd (own v es n cs) := fun w h b hb => by
  obtain ⟨_, ⟨rfl, _⟩ | ⟨b', cap, cur, T, fr, rfl, _, _, h3, _⟩⟩ := h
  · simp [own, valBlocks] at hb
  · simp [own, valBlocks] at hb; subst hb; exact ⟨_, h3, rfl⟩
theorem celd_ownW {v : Value} {es n : Nat} {cs : List Value} : Celd (ownW v es n cs) := fun w h b hb => by
  obtain ⟨_, ⟨rfl, _⟩ | ⟨b', cap, cur, T, fr, rfl, _, h3, _⟩⟩ := h
  · simp [ownW, valBlocks] at hb
  · simp [ownW, valBlocks] at hb; subst hb; exact ⟨_, h3, rfl⟩
theorem cell_isCells {w : World} {b o : Nat} {x : Value} (h : w.cell? ⟨b, o, none⟩ = some x) : ∃ ob : Obj, w.heap[b]? = some ob ∧ ob.isCells = true := by
  unfold World.cell? at h
  cases hb : w.heap[b]? with
  | none => simp [hb] at h
  | some ob =>
    cases ob <;> first | exact ⟨_, rfl, rfl⟩ | (simp [hb] at h)
theorem celd_cells {p x : Value} {cs : List Value} : Celd (cellsAt p (x :: cs)) := fun w h b hb => by
  obtain ⟨b', o, rfl, _, h3⟩ := h
  simp [cellsAt, valBlocks] at hb; subst hb
  exact cell_isCells (h3 0 x rfl)
theorem celd_glb {g : Nat} : Celd (glb g) := celd_cells
section
variable {w0 w w' : World} {M : List Nat} {H H' : List Ent}
theorem Mem.grown {row : Option Nat} {B : Nat} (hM : Mem w0 M w H) (hc : ∀ e, e ∈ H → Celd e) (hg : w.grownBy w' row) (hr : ∀ r, row = some r → B ≤ r ∧ ∃ o : Obj, w.heap[r]? = some o ∧ o.isCells = false) (hB : w0.heap.size ≤ B) : Mem w0 M w' H :=
  ⟨hg.os.trans hM.os, hg.tape.trans hM.tape, hg.output.trans hM.output, Nat.le_trans hM.size hg.size,
   fun b hb hm => (hg.block b (Nat.lt_of_lt_of_le hb hM.size) (fun e => by have := (hr b e.symm).1; omega)).trans (hM.frame b hb hm),
   fun e he => e.loc w w' (hM.holds e he) fun b hb => hg.block b (e.old w (hM.holds e he) b hb) fun e' => (by
     obtain ⟨o, h1, h2⟩ := hc e he w (hM.holds e he) b hb
     obtain ⟨o', h3, h4⟩ := (hr b e'.symm).2
     rw [h1] at h3; cases h3; rw [h2] at h4; cases h4),
   hM.new, hM.self, hM.apart⟩
theorem Mem.rebase (hM : Mem w0 M w H) : Mem w (H.flatMap Ent.fp) w H :=
  Mem.start w hM.holds (fun e he b hb => List.mem_flatMap.2 ⟨e, he, hb⟩) hM.self hM.apart
theorem Mem.back (hM : Mem w0 M w H) (h : Mem w (H.flatMap Ent.fp) w' H') : Mem w0 M w' H' :=
  ⟨h.os.trans hM.os, h.tape.trans hM.tape, h.output.trans hM.output, Nat.le_trans hM.size h.size,
   fun b hb hm => (h.frame b (Nat.lt_of_lt_of_le hb hM.size) (fun hf => by
     obtain ⟨e, he, hbe⟩ := List.mem_flatMap.1 hf
     rcases hM.new e he b hbe with h1 | h1
     · exact hm h1
     · omega)).trans (hM.frame b hb hm),
   h.holds, fun e he b hb => (by
     rcases h.new e he b hb with h1 | h1
     · obtain ⟨e', he', hbe⟩ := List.mem_flatMap.1 h1
       exact hM.new e' he' b hbe
     · exact .inr (Nat.le_trans hM.size h1)),
   h.self, h.apart⟩
theorem Mem.keeps {B : Nat} (hM : Mem w0 M w H) (hc : ∀ e, e ∈ H → Celd e) (h : Mem w (H.flatMap Ent.fp) w' H') : KeepsFrom B w w' :=
  ⟨h.size, fun k o _ hk ho => (h.frame k (Array.getElem?_eq_some_iff.1 hk).1 (fun hf => by
    obtain ⟨e, he, hbe⟩ := List.mem_flatMap.1 hf
    obtain ⟨o', h1, h2⟩ := hc e he w (hM.holds e he) k (.inl hbe)
    rw [hk] at h1; cases h1; rw [h2] at ho; cases ho)).trans hk⟩
end
/-! ## The loop -/
/-- What a loop over an iterator leaves of an activation: a mark among its deferred calls. -/
def marked (a : Act) (D : Nat) : Act := { a with defers := a.defers ++ [{ target := .collected D, args := #[] }] }
theorem wp_range {α : Type} {g : Operand} {p n gf N : Nat} {assign body : Code} {Q : Exit → Act → World → Prop} {a : Act} {w : World} {L : List (Nat × Value)} {lb : Array Value} {f : α → Value} {S Sp : List α → Prop}
    (hE : Env a n L) (hg : ev L g = some (.func (.func gf) #[] lb)) (eg : ∀ args w, (callFunc gf args).run P w = .ok (.enter gf args) w)
    (hseq : SeqStopsK Fence.wide 0 P gf lb (fun x => #[f x]) (fun _ _ => True) S Sp N w) (hp : Nat.blt p n = true)
    (I : List α → World → Prop) (Ix : Code → List α → World → Prop) (hI : OwnFrom w.heap.size I) (hIx : ∀ c, OwnFrom w.heap.size (Ix c)) (h0 : I [] w) (L1 : α → List (Nat × Value))
    (hassign : ∀ (l : Nat) (x : α) (a : Act) (W : World) (K : Act → World → Prop), Env a n ((p, f x) :: L) → (∀ a', Env a' n (L1 x) → K a' W) → assign.wpIn (Rd l) 0 P (Exit.then K (fun _ _ _ => False)) a W)
    (hbody : ∀ (l : Nat) (pre : List α) (x : α) (a' : Act) (W : World), I pre W → pre.length < N → Env a' n (L1 x) → body.wpIn (Rd l) 0 P (ownPostG w.heap.size (fun _ _ => True) I Ix (pre ++ [x]) W) a' W)
    (hdone : ∀ (D : Nat) (xs : List α) (W : World), w.heap.size ≤ D → S xs → I xs W → W.heap[D]? = some (.deferred (some [])) → Q .normal (marked a D) W)
    (hstop : ∀ (D : Nat) (c : Code) (pre : List α) (W : World), w.heap.size ≤ D → Sp pre → Ix c pre W → W.heap[D]? = some (.deferred (some [])) → c.wp P Q (marked a D) W) :
    (Code.rangeFunc g #[p] assign body).wp P Q a w := by
  refine (wpIn_wide (n := 1)).1 (wpIn_rangeFunc_ownH (F := Fence.wide) (n := 1) rfl (Nat.le_refl 1) (hE.eval hg) trivial eg (w0 := w) hseq (fun _ _ => trivial) (fun _ _ _ _ _ _ _ _ => trivial) (Go.RowKit.Below.refl _ _) (fun _ => rfl) I Ix hI hIx h0 (fun x a' _ => Env a' n (L1 x)) (fun x a' s W W' row hs _ _ => hs) ?_ ?_ ?_ ?_)
  · intro l pre x W K hpre hK
    have he : Env { tmps := (#[p].zip #[f x]).foldl (fun t (p, v) => t.setIfInBounds p v) a.tmps, defers := [] } n ((p, f x) :: L) := by
      have := hE.put (f x) (d := p) (by simpa using hp)
      have h2 : a.put (some p) (f x) = { tmps := a.tmps.setIfInBounds p (f x), defers := [] } := by simp [Act.put, hE.defers]
      rw [h2] at this
      simpa using this
    exact hassign l x _ W K he (fun a' h => hK a' W (KeepsFrom.refl _ _) trivial hpre h)
  · intro l pre x a' W _ _ hpre hx hlt
    exact hbody l pre x a' W hpre hlt hx
  · intro D xs W hle hS hi hD
    have := hdone D xs W hle hS hi hD
    simpa [marked, hE.defers] using this
  · intro D c pre W hle hS hi hD
    have := hstop D c pre W hle hS hi hD
    rw [wpIn_wide]
    simpa [marked, hE.defers] using this
theorem marked_put {a : Act} {D : Nat} {d : Option Nat} {v : Value} : (marked a D).put d v = marked (a.put d v) D := by cases d <;> rfl
theorem op_marked {o : Oper} {a : Act} {w : World} {D : Nat} {K : Act → World → Prop} (h : o.wp P a w (fun a w => K (marked a D) w) (fun e a w => Q e (marked a D) w)) : o.wp P (marked a D) w K Q := by
  unfold Oper.wp at *
  show o.upon P (marked a D) K Q ((execOp a.eval o).run P w)
  generalize (execOp a.eval o).run P w = r at *
  cases r with
  | ok x w' =>
    cases x with
    | enter f args =>
      refine Calls.mono h fun e w'' he => ?_
      cases e with
      | returned v => show K ((marked a D).put o.dst v) w''; rw [marked_put]; exact he
      | panicked c => exact he
      | outgrown => obtain ⟨a, w, he⟩ := he; exact ⟨_, w, he⟩
    | value v => show K ((marked a D).put o.dst v) w'; rw [marked_put]; exact h
    | skip => show K ((marked a D).put o.dst undef) w'; rw [marked_put]; exact h
    | defer d =>
      show K ((marked { a with defers := d :: a.defers } D).put o.dst undef) w'
      rw [marked_put]; exact h
    | row r args =>
      refine Rows.mono h fun v w'' he => ?_
      show K ((marked a D).put o.dst v) w''
      rw [marked_put]; exact he
    | _ => exact h.elim
  | halt x w' => cases x <;> exact h
theorem list_marked {D : Nat} : ∀ {r : List Oper} {a : Act} {w : World}, wpList P ops (fun e a w => Q e (marked a D) w) r a w → wpList P ops Q r (marked a D) w
  | [], _, _, h => h
  | o :: r, a, w, h => by
    simp only [wpList] at h
    show wpList P ops Q (o :: r) (marked a D) w
    simp only [wpList]
    show if Region.wanted o (yielded ops a.tmps) then _ else _
    split
    · rename_i hw
      simp only [hw, if_true] at h
      exact h.imp (fun h => op_marked (Oper.wp_mono (fun a w h => list_marked h) h)) (fun ⟨h1, a, w, h2⟩ => ⟨h1, _, w, h2⟩)
    · rename_i hw
      simp only [hw] at h
      rw [marked_put]
      exact list_marked h
theorem mp_plain {id D : Nat} {a : Act} {w : World} (fs : List Bool) {r : List (Bool × Oper)} (_hl : List.zip fs ops.toList = r) (hs : r.map (·.2) = ops.toList)
    (h : wpL P ops none (fun e a w => Q e (marked a D) w) r a w) : (Code.region id ops false).wp P Q (marked a D) w :=
  wp_region_list (list_marked (by rw [← hs]; exact wpList_of_wpL r a w h))
theorem f_enterM {f : FuncId} {fn : Func} {c : Code} {args : List Value} {w : World} {R : Ending → World → Prop} (n : Nat) (hf : P.funcs[f]? = some fn) (hb : fn.body = some c) (hn : fn.ntmps = n) (hle : Nat.ble args.length n = true)
    (h : ∀ a, Env a n (numb 0 args) → c.wp P (bodyPostM Fence.wide 0 P fn R) a w) : Calls P f args.toArray w R := by
  refine (callsIn_wide (n := 0)).1 (callsIn_of_wp_marks hf hb trivial (wpIn_wide.2 (h _ ?_)) rfl)
  rw [hn]
  exact Env.enter args n (Nat.le_of_ble_eq_true hle)
theorem post_M {fn : Func} {R : Ending → World → Prop} {e : Exit} {a : Act} {w : World} (h : bodyPost P fn R e a w) : bodyPostM Fence.wide 0 P fn R e a w := by
  cases e <;> simp only [bodyPost] at h <;> simp only [bodyPostM] <;> first | exact h | (obtain ⟨h1, h2⟩ := h; rw [h1]; exact h2)
theorem f_ret2M {fn : Func} {R : Ending → World → Prop} {a : Act} {W : World} {n D t1 t2 : Nat} {L : List (Nat × Value)} {v1 v2 : Value} (hE : Env a n L) (hr : fn.results = #[.tmp t1, .tmp t2]) (h1 : lk t1 L = some v1) (h2 : lk t2 L = some v2) (hD : W.heap[D]? = some (.deferred (some [])))
    (hR : R (.returned (.tuple #[v1, v2])) (W.putObj D (.deferred none))) : bodyPostM Fence.wide 0 P fn R .ret (marked a D) W := by
  have k1 := hE.at_ _ _ h1
  have k2 := hE.at_ _ _ h2
  simp only [bodyPostM, marked, hE.defers, List.nil_append]
  refine ⟨by simp, .inl ⟨_, _, rfl, run_takeDeferred hD, ?_⟩⟩
  exact ⟨_, by simp [results, hr, k1, k2], hR⟩
theorem f_ret1M {fn : Func} {R : Ending → World → Prop} {a : Act} {W : World} {n D t1 : Nat} {L : List (Nat × Value)} {v1 : Value} (hE : Env a n L) (hr : fn.results = #[.tmp t1]) (h1 : lk t1 L = some v1) (hD : W.heap[D]? = some (.deferred (some [])))
    (hR : R (.returned v1) (W.putObj D (.deferred none))) : bodyPostM Fence.wide 0 P fn R .ret (marked a D) W := by
  have k1 := hE.at_ _ _ h1
  simp only [bodyPostM, marked, hE.defers, List.nil_append]
  refine ⟨by simp, .inl ⟨_, _, rfl, run_takeDeferred hD, ?_⟩⟩
  exact ⟨_, by simp [results, hr, k1], hR⟩
/-! ## A call of yield -/
theorem yin_val {o : Oper} {r : List Oper} {a : Act} {w : World} {v : Value} (hw : o.guard = none) (hd : noDefer o = true) (h : (execOp a.eval o).run P w = .ok (.value v) w) (k : wpListIn Fence.wide 0 P ops Q r (a.put o.dst v) w) : wpListIn Fence.wide 0 P ops Q (o :: r) a w := by
  simp only [wpListIn, Region.wanted, hw, if_true]
  refine ⟨fun _ _ => trivial, ?_⟩
  rw [show Fence.wide.round = none from rfl, Oper.semAt_none, h]
  exact k
theorem wp_yieldR {id n d1 d2 d3 d4 x y l t4 ty1 ty2 ty3 ty4 : Nat} {tys : Array TypeId} {p1 p2 p3 p4 : String} {f1 f2 f3 f4 : Array Edge} {a : Act} {w : World} {L : List (Nat × Value)} {u : Value} {R : Ending → World → Prop} (hE : Env a n L) (hx : lk x L = some (.func (.yield l) #[] #[])) (hy : lk y L = some u)
    (hl : (Nat.blt d1 n && Nat.blt d2 n && Nat.blt d3 n && Nat.blt d4 n && !(Nat.beq d1 y) && !(Nat.beq d2 d1)) = true) (hY : YieldAt Fence.wide 0 P l #[u] w R) (hR : ∀ e w', R e w' → ∃ b, e = .returned (.bool b))
    (k : ∀ (b : Bool) (a' : Act) (w' : World), R (.returned (.bool b)) w' → Env a' n ((d4, .bool (!b)) :: (d3, .bool b) :: (d2, u) :: (d1, .func (.yield l) #[] #[]) :: L) → Q .normal a' w') :
    (Code.region id #[⟨some d1, .move (.tmp x), ty1, p1, f1, none⟩, ⟨some d2, .move (.tmp y), ty2, p2, f2, none⟩, ⟨some d3, .call { callee := .value (.tmp d1), args := #[.tmp d2], argTypes := tys }, ty3, p3, f3, none⟩, ⟨some d4, .unOp .not t4 (.tmp d3), ty4, p4, f4, none⟩] false).wp P Q a w := by
  simp only [Bool.and_eq_true, Bool.not_eq_true'] at hl
  obtain ⟨⟨⟨⟨⟨l1, l2⟩, l3⟩, l4⟩, l5⟩, l6⟩ := hl
  obtain ⟨fn, tmps, assign, body, hy', hr⟩ := hY
  refine (wpIn_wide (n := 0)).1 (wpIn_region_list ?_)
  have E1 := hE.put (.func (.yield l) #[] #[]) (blt_lt l1)
  have e1 : lk y ((d1, Value.func (.yield l) #[] #[]) :: L) = some u := by simp only [lk, l5, cond_false]; exact hy
  have E2 := E1.put u (blt_lt l2)
  have e2 : lk d1 ((d2, u) :: (d1, Value.func (.yield l) #[] #[]) :: L) = some (.func (.yield l) #[] #[]) := by simp only [lk, l6, cond_false, Nat.beq_refl, cond_true]
  have e3 : lk d2 ((d2, u) :: (d1, Value.func (.yield l) #[] #[]) :: L) = some u := by simp only [lk, Nat.beq_refl, cond_true]
  refine yin_val (v := .func (.yield l) #[] #[]) rfl rfl (by simp [execOp, hE.eval (x := .tmp x) hx]) ?_
  refine yin_val (v := u) rfl rfl (by have := E1.eval (x := .tmp y) e1; simp only [execOp]; rw [this]; rfl) ?_
  simp only [wpListIn, Region.wanted, if_true]
  refine ⟨fun _ _ => trivial, ?_⟩
  rw [show Fence.wide.round = none from rfl, Oper.semAt_none]
  have hrun : (execOp (((a.put (some d1) (.func (.yield l) #[] #[])).put (some d2) u)).eval ⟨some d3, .call { callee := .value (.tmp d1), args := #[.tmp d2], argTypes := tys }, ty3, p3, f3, none⟩).run P w = .ok (.round l fn tmps assign body) w := by
    simp only [execOp, resolve, E2.eval (x := .tmp d1) e2]
    simp [Deferred.ofValue, invoke, E2.eval (x := .tmp d2) e3, hy']
  rw [hrun]
  refine ⟨fun h => by simp [Fence.wide] at h, hr.mono fun e w' he => ?_⟩
  obtain ⟨b, rfl⟩ := hR e w' he
  have E3 := E2.put (.bool b) (blt_lt l3)
  show Oper.wpIn Fence.wide 0 P _ _ w' _ Q
  refine ⟨fun _ _ => trivial, ?_⟩
  have hrun2 : (execOp ((((a.put (some d1) (.func (.yield l) #[] #[])).put (some d2) u)).put (some d3) (.bool b)).eval ⟨some d4, .unOp .not t4 (.tmp d3), ty4, p4, f4, none⟩).run P w' = .ok (.value (.bool (!b))) w' := by
    have := E3.eval (x := .tmp d3) (v := .bool b) (by simp only [ev, lk, Nat.beq_refl, cond_true])
    simp only [execOp]
    rw [this]
    simp [Op.unary]
  rw [show Fence.wide.round = none from rfl, Oper.semAt_none, hrun2]
  exact k b _ w' he (E3.put (.bool (!b)) (blt_lt l4))
/-! ## What a walk over a loop cites -/
def CeldL (H : List Ent) : Prop := ∀ e, e ∈ H → Celd e
theorem celdL_nil : CeldL [] := fun _ h => by cases h
theorem celdL_cons {e : Ent} {H : List Ent} (h : Celd e) (hs : CeldL H) : CeldL (e :: H) := fun f hf => by
  rcases List.mem_cons.1 hf with rfl | hf
  · exact h
  · exact hs f hf
theorem celd_rd {v : Value} {es n c : Nat} {cs : List Value} (hc : cs ≠ []) : Celd (rd v es n c cs) := fun w h b hb => by
  obtain ⟨hl, ⟨p, rfl, rfl, rfl⟩ | ⟨b', o, rfl, h1, h2, h3⟩⟩ := h
  · simp at hl; exact absurd hl hc
  · have hcl : 0 < cs.length := List.length_pos_iff.2 hc
    have hn : 0 < n := by rcases Nat.eq_zero_or_pos n with rfl | h; · omega
                          · exact h
    have hb' : b = b' := by
      rcases hb with hb | hb
      · cases hb
      · have := rdB_sub hb; simpa [valBlocks] using this
    subst hb'
    exact cell_isCells (h3 0 _ (List.getElem?_eq_getElem hcl))
theorem Mem.taken {w0 W : World} {M : List Nat} {H : List Ent} {D : Nat} {o o' : Obj} (hM : Mem w0 M W H) (hc : CeldL H) (hD : W.heap[D]? = some o) (ho : o.isCells = false) (hle : w0.heap.size ≤ D) : Mem w0 M (W.putObj D o') H :=
  hM.grown (B := w0.heap.size) hc (grownBy_putObj' W D o') (fun r e => by cases e; exact ⟨hle, o, hD, ho⟩) (Nat.le_refl _)
end Go.Kx
/- Own library, part Fm: numbers as decimal texts. -/
set_option linter.unusedSimpArgs false
namespace Go.Kx
open Go
variable {P : Program} {w w' : World}
abbrev decW (u : Nat) : List UInt8 := Lib.decDigits u
theorem decW_zero : decW 0 = [48] := by rw [decW, Lib.decDigits_one (by decide)]; rfl
/-! ## Boxes -/
def padT : List UInt8 := [112, 97, 100]
def sealT : List UInt8 := [115, 101, 97, 108]
def boxL (l q : List UInt8) (n : Nat) : List UInt8 := (((l ++ [32]) ++ q) ++ [32]) ++ decW n
def maskB (k l : List UInt8) (n : Nat) : List UInt8 := subW k (boxL l padT n)
def sealB (k l : List UInt8) (n : Nat) : List UInt8 := subW k (boxL l sealT n)
@[simp] theorem maskB_len (k l : List UInt8) (n : Nat) : (maskB k l n).length = 32 := subW_length ..
@[simp] theorem sealB_len (k l : List UInt8) (n : Nat) : (sealB k l n).length = 32 := subW_length ..
def tagB (k l : List UInt8) (n : Nat) (d : List UInt8) : List UInt8 := hmacW (sealB k l n) (plT 66 d)
@[simp] theorem tagB_len (k l : List UInt8) (n : Nat) (d : List UInt8) : (tagB k l n d).length = 32 := hmacW_length ..
def wrapD (k l : List UInt8) (n : Nat) (x : List UInt8) : List UInt8 := xorW x (maskB k l n)
def unwB (k l : List UInt8) (n : Nat) (d t : List UInt8) : Bool := decide (tagB k l n d = t)
/-! ## The last digits of a number -/
def tailD (n : Nat) : Nat → List UInt8
  | 0 => []
  | i + 1 => UInt8.ofNat (48 + n / 10 ^ i % 10) :: tailD n i
@[simp] theorem tailD_len (n i : Nat) : (tailD n i).length = i := by
  induction i with
  | zero => rfl
  | succ i ih => simp [tailD, ih]
/-! ## Boxes, read -/
theorem mask_slot (k : List UInt8) : subW k [115, 108, 111, 116, 32, 112, 97, 100, 32, 48] = maskB k [115, 108, 111, 116] 0 := congrArg (subW k) (by simp [boxL, padT, decW_zero])
theorem seal_slot (k : List UInt8) : subW k [115, 108, 111, 116, 32, 115, 101, 97, 108, 32, 48] = sealB k [115, 108, 111, 116] 0 := congrArg (subW k) (by simp [boxL, sealT, decW_zero])
end Go.Kx
/- Own library, part Sl: passphrases' slots, in plain Lean. -/
set_option linter.unusedSimpArgs false
namespace Go.Kx
open Go
variable {P : Program} {ops : Array Oper} {D : Option (Nat → Prop)} {Q : Exit → Act → World → Prop} {w0 w w' : World} {M : List Nat} {H H' : List Ent}
  {a : Act} {n : Nat} {L : List (Nat × Value)} {rest : List (Bool × Oper)} {d : Nat} {ty : TypeId} {pos : String} {aft : Array Edge} {x y z : Operand} {u v r : Value}
def slotT : List UInt8 := [115, 108, 111, 116]
def okp (p : List UInt8) : Bool := decide (1 ≤ p.length) && decide (p.length ≤ 48)
def okr (z : Int) : Bool := decide (1 ≤ z) && decide (z ≤ 4096)
def kK (p a : List UInt8) (z : Int) : List UInt8 := if okp p && okr z then keyW (phrW p) a z.toNat 32 else List.replicate 32 0
def keyS (p : List UInt8) (s : So) : List UInt8 := kK p s.2.2.1 s.2.1
def opS (p : List UInt8) (s : So) : Bool := s.1 && unwB (keyS p s) slotT 0 s.2.2.2.1 s.2.2.2.2
def getS (h : Hd) : Nat → So
  | 0 => h.s0
  | 1 => h.s1
  | 2 => h.s2
  | _ => h.s3
def setS (h : Hd) : Nat → So → Hd
  | 0, s => { h with s0 := s }
  | 1, s => { h with s1 := s }
  | 2, s => { h with s2 := s }
  | _, s => { h with s3 := s }
def newS (p b : List UInt8) (z : Int) (x : List UInt8) : So := (true, z, b, wrapD (kK p b z) slotT 0 x, tagB (kK p b z) slotT 0 (wrapD (kK p b z) slotT 0 x))
def intC (i : Nat) : List Value := [.int .i64 (i : Int)]
theorem intCs_one (ls : List Nat) : One (ls.flatMap intC) := fun v hv => by
  obtain ⟨c, _, h⟩ := List.mem_flatMap.1 hv
  simp [intC] at h; subst h; rfl
/-! ## The chapter's header -/
def emptyH : Hd := ⟨4, 1, zV, zV, zS, zS, zS, zS⟩
def k7 : List UInt8 := 7 :: List.replicate 31 0
def sa1 : List UInt8 := 1 :: List.replicate 15 0
def sa2 : List UInt8 := 2 :: List.replicate 15 0
def n1T : So := newS [97, 98] sa1 2 k7
def h1T : Hd := setS emptyH 0 n1T
def n2T : So := newS [99, 100] sa2 1 k7
def h2T : Hd := setS h1T 1 n2T
theorem tagB0 (k d : List UInt8) : tagB k slotT 0 d = hmacW (subW k [115, 108, 111, 116, 32, 115, 101, 97, 108, 32, 48]) (plT 66 d) := by rw [seal_slot]; rfl
theorem wrapD0 (k x : List UInt8) : wrapD k slotT 0 x = xorW x (subW k [115, 108, 111, 116, 32, 112, 97, 100, 32, 48]) := by rw [mask_slot]; rfl
end Go.Kx
/- Own library, part Tr: a tree of tags, in plain Lean. -/
set_option linter.unusedSimpArgs false
set_option linter.unusedVariables false
namespace Go.Kx
open Go
abbrev Tg := List UInt8
def zTg : Tg := List.replicate 32 0
def nd (k : List UInt8) (j : Nat) (s : List UInt8) : Tg := hmacW k (numT 78 (j : Int) s)
theorem nd_len (k : List UInt8) (j : Nat) (s : List UInt8) : (nd k j s).length = 32 := by simp [nd]
def gT (l : List Tg) (i : Nat) : Tg := l.getD i zTg
theorem gT_set {l : List Tg} {i j : Nat} {x : Tg} (hi : i < l.length) : gT (l.set i x) j = if i = j then x else gT l j := by
  unfold gT
  simp only [List.getD, List.getElem?_set]
  by_cases h : i = j
  · subst h; simp [hi]
  · simp [h]
theorem gT_ext {l l' : List Tg} (hl : l.length = l'.length) (h : ∀ i, i < l.length → gT l i = gT l' i) : l = l' := by
  refine List.ext_getElem hl fun i h1 h2 => ?_
  have := h i h1
  simpa [gT, List.getD, h1, h2] using this
def secA (l : List Tg) (j : Nat) : List UInt8 := gT l (2 * j) ++ gT l (2 * j + 1)
def stepB (k : List UInt8) (l : List Tg) (j : Nat) : List Tg := l.set j (nd k j (secA l j))
@[simp] theorem stepB_length (k : List UInt8) (l : List Tg) (j : Nat) : (stepB k l j).length = l.length := by simp [stepB]
def bld (k : List UInt8) (n : Nat) (l : List Tg) : Nat → List Tg
  | 0 => l
  | i + 1 => stepB k (bld k n l i) (n - 1 - i)
@[simp] theorem bld_length (k : List UInt8) (n : Nat) (l : List Tg) : ∀ i, (bld k n l i).length = l.length
  | 0 => rfl
  | i + 1 => by simp [bld, bld_length k n l i]
def padL (n : Nat) (lv : List Tg) : List Tg := lv ++ List.replicate (n - lv.length) zTg
def base (n : Nat) (lv : List Tg) : List Tg := List.replicate n zTg ++ padL n lv
def allT (k : List UInt8) (n : Nat) (lv : List Tg) : List Tg := bld k n (base n lv) (n - 1)
/-- Consistent at all inner numbers but x. -/
structure CE (k : List UInt8) (n : Nat) (l : List Tg) (x : Nat) : Prop where
  len : l.length = 2 * n
  at_ : ∀ j, 1 ≤ j → j < n → j ≠ x → gT l j = nd k j (secA l j)
theorem secA_set {l : List Tg} {i j : Nat} {x : Tg} (hi : i < l.length) (h1 : i ≠ 2 * j) (h2 : i ≠ 2 * j + 1) : secA (l.set i x) j = secA l j := by
  simp only [secA, gT_set hi, if_neg h1, if_neg h2]
theorem stepB_at {k : List UInt8} {l : List Tg} {j i : Nat} (hj : j < l.length) : gT (stepB k l j) i = if j = i then nd k j (secA l j) else gT l i := gT_set hj
theorem stepB_sec {k : List UInt8} {l : List Tg} {j i : Nat} (hj : j < l.length) (h1 : j ≠ 2 * i) (h2 : j ≠ 2 * i + 1) : secA (stepB k l j) i = secA l i := secA_set hj h1 h2
theorem CE.step {k : List UInt8} {n : Nat} {l : List Tg} {x : Nat} (h : CE k n l x) (h1 : 1 ≤ x) (hx : x < n) : CE k n (stepB k l x) (x / 2) := by
  have hl : x < l.length := by rw [h.len]; omega
  refine ⟨by simp [h.len], fun j hj hn hne => ?_⟩
  rw [stepB_at hl]
  by_cases e : x = j
  · subst e
    rw [if_pos rfl, stepB_sec hl (by omega) (by omega)]
  · rw [if_neg e, stepB_sec hl (by omega) (by omega)]
    exact h.at_ j hj hn (fun e' => e e'.symm)
theorem bld_ce {k : List UInt8} {n : Nat} {l : List Tg} (hl : l.length = 2 * n) : ∀ i, i ≤ n - 1 → ∀ j, 1 ≤ j → n - i ≤ j → j < n → gT (bld k n l i) j = nd k j (secA (bld k n l i) j)
  | 0, _, j, _, h, hn => by omega
  | i + 1, hi, j, hj, h, hn => by
    have hx : n - 1 - i < (bld k n l i).length := by rw [bld_length, hl]; omega
    simp only [bld]
    rw [stepB_at hx, stepB_sec hx (by omega) (by omega)]
    by_cases e : n - 1 - i = j
    · rw [if_pos e, e]
    · rw [if_neg e]; exact bld_ce hl i (by omega) j hj (by omega) hn
theorem bld_out {k : List UInt8} {n : Nat} {l : List Tg} (hl : l.length = 2 * n) : ∀ i, i ≤ n - 1 → ∀ j, (j < n - i ∨ n ≤ j) → gT (bld k n l i) j = gT l j
  | 0, _, _, _ => rfl
  | i + 1, hi, j, h => by
    have hx : n - 1 - i < (bld k n l i).length := by rw [bld_length, hl]; omega
    simp only [bld]
    rw [stepB_at hx, if_neg (by omega)]
    exact bld_out hl i (by omega) j (by omega)
theorem padL_length {n : Nat} {lv : List Tg} (h : lv.length ≤ n) : (padL n lv).length = n := by simp [padL]; omega
theorem base_length {n : Nat} {lv : List Tg} (h : lv.length ≤ n) : (base n lv).length = 2 * n := by simp [base, padL_length h]; omega
theorem base_low {n i : Nat} {lv : List Tg} (h : i < n) : gT (base n lv) i = zTg := by
  simp [gT, base, List.getD, List.getElem?_append_left, h]
theorem base_leaf {n i : Nat} {lv : List Tg} : gT (base n lv) (n + i) = gT (padL n lv) i := by
  simp [gT, base, List.getD, List.getElem?_append_right]
theorem padL_at {n i : Nat} {lv : List Tg} : gT (padL n lv) i = gT lv i := by
  unfold gT padL
  simp only [List.getD]
  by_cases h : i < lv.length
  · rw [List.getElem?_append_left h]
  · rw [List.getElem?_append_right (by omega), List.getElem?_eq_none (l := lv) (by omega), List.getElem?_replicate]
    split <;> rfl
theorem allT_ce {k : List UInt8} {n : Nat} {lv : List Tg} (h : lv.length ≤ n) : CE k n (allT k n lv) 0 :=
  ⟨by simp [allT, base_length h], fun j hj hn _ => bld_ce (base_length h) (n - 1) (Nat.le_refl _) j hj (by omega) hn⟩
theorem allT_leaf {k : List UInt8} {n i : Nat} {lv : List Tg} (h : lv.length ≤ n) : gT (allT k n lv) (n + i) = gT lv i := by
  rw [allT, bld_out (base_length h) _ (Nat.le_refl _) _ (.inr (by omega)), base_leaf, padL_at]
theorem allT_zero {k : List UInt8} {n : Nat} {lv : List Tg} (hn : 0 < n) (h : lv.length ≤ n) : gT (allT k n lv) 0 = zTg := by
  rw [allT, bld_out (base_length h) _ (Nat.le_refl _) _ (.inl (by omega)), base_low hn]
theorem ce_unique {k : List UInt8} {n : Nat} {l l' : List Tg} (h : CE k n l 0) (h' : CE k n l' 0) (h0 : gT l 0 = gT l' 0) (hv : ∀ i, n ≤ i → gT l i = gT l' i) : l = l' := by
  refine gT_ext (by rw [h.len, h'.len]) fun i _ => ?_
  have key : ∀ d i, n ≤ i + d → gT l i = gT l' i := by
    intro d
    induction d with
    | zero => intro i hi; exact hv i hi
    | succ d ih =>
      intro i hi
      rcases Nat.lt_or_ge i n with hlt | hge
      · rcases Nat.eq_zero_or_pos i with rfl | hp
        · exact h0
        · rw [h.at_ i hp hlt (by omega), h'.at_ i hp hlt (by omega)]
          simp only [secA]
          rw [ih (2 * i) (by omega), ih (2 * i + 1) (by omega)]
      · exact hv i hge
  exact key n i (by omega)
/-! ## What is set -/
def pathF : Nat → Nat → List Nat
  | 0, _ => []
  | f + 1, m => if m / 2 = 0 then [] else (m / 2) :: pathF f (m / 2)
/-- The numbers above. -/
def pathL (m : Nat) : List Nat := pathF m m
theorem pathF_fuel : ∀ (f g m : Nat), m ≤ f → m ≤ g → pathF f m = pathF g m
  | 0, g, m, hf, hg => by
    obtain rfl : m = 0 := by omega
    cases g <;> simp [pathF]
  | f + 1, 0, m, hf, hg => by
    obtain rfl : m = 0 := by omega
    simp [pathF]
  | f + 1, g + 1, m, hf, hg => by
    simp only [pathF]
    split
    · rfl
    · rw [pathF_fuel f g (m / 2) (by omega) (by omega)]
theorem pathL_zero {m : Nat} (h : m / 2 = 0) : pathL m = [] := by
  cases m with
  | zero => rfl
  | succ m => simp only [pathL, pathF, if_pos h]
theorem pathL_cons {m : Nat} (h : ¬ m / 2 = 0) : pathL m = (m / 2) :: pathL (m / 2) := by
  cases m with
  | zero => simp at h
  | succ m => simp only [pathL, pathF, if_neg h]; rw [pathF_fuel m ((m + 1) / 2) _ (by omega) (Nat.le_refl _)]
theorem pathL_le : ∀ (m x : Nat), x ∈ pathL m → 1 ≤ x ∧ x ≤ m / 2 := by
  intro m
  induction m using Nat.strongRecOn with
  | ind m ih =>
    intro x hx
    by_cases h : m / 2 = 0
    · rw [pathL_zero h] at hx; cases hx
    · rw [pathL_cons h] at hx
      rcases List.mem_cons.1 hx with rfl | hx
      · omega
      · have := ih (m / 2) (by omega) x hx; omega
def runS (k : List UInt8) (l : List Tg) : List Nat → List Nat × List Tg
  | [] => ([], l)
  | j :: ps => if nd k j (secA l j) = gT l j then ([j], l) else (j :: (runS k (stepB k l j) ps).1, (runS k (stepB k l j) ps).2)
def setT (k : List UInt8) (l : List Tg) (m : Nat) (t : Tg) : List Nat × List Tg := if gT l m = t then ([], l) else runS k (l.set m t) (pathL m)
def chg (a b : List Tg) (j : Nat) : Bool := decide (gT a (2 * j) ≠ gT b (2 * j)) || decide (gT a (2 * j + 1) ≠ gT b (2 * j + 1))
theorem runS_spec {k : List UInt8} {n : Nat} {was : List Tg} : ∀ (m : Nat) (l : List Tg), m < 2 * n → 1 ≤ m → CE k n l (m / 2) → (∀ i, i < m → gT l i = gT was i) → gT l m ≠ gT was m →
    (runS k l (pathL m)).1 = (pathL m).filter (chg was (runS k l (pathL m)).2) ∧ CE k n (runS k l (pathL m)).2 0 ∧ (∀ i, m ≤ i → gT (runS k l (pathL m)).2 i = gT l i) ∧ gT (runS k l (pathL m)).2 0 = gT l 0 ∧ (∀ i, i ∉ pathL m → gT (runS k l (pathL m)).2 i = gT l i) := by
  intro m
  induction m using Nat.strongRecOn with
  | ind m ih =>
    intro l hm h1 hc ha hne
    by_cases h : m / 2 = 0
    · rw [pathL_zero h]
      refine ⟨rfl, by rw [h] at hc; exact hc, fun _ _ => rfl, rfl, fun _ _ => rfl⟩
    · rw [pathL_cons h]
      have hj : 1 ≤ m / 2 := by omega
      have hjl : m / 2 < l.length := by rw [hc.len]; omega
      have hchild : ∀ b : List Tg, gT b m = gT l m → chg was b (m / 2) = true := by
        intro b hb
        simp only [chg, Bool.or_eq_true, decide_eq_true_eq]
        rcases Nat.mod_two_eq_zero_or_one m with e | e
        · left; rw [show 2 * (m / 2) = m by omega, hb]; exact fun e => hne e.symm
        · right; rw [show 2 * (m / 2) + 1 = m by omega, hb]; exact fun e => hne e.symm
      simp only [runS]
      by_cases hs : nd k (m / 2) (secA l (m / 2)) = gT l (m / 2)
      · simp only [if_pos hs]
        refine ⟨?_, ⟨hc.len, fun j hj hn _ => ?_⟩, fun _ _ => by trivial, by trivial, fun _ _ => by trivial⟩
        · rw [List.filter_cons, if_pos (hchild l rfl), List.filter_eq_nil_iff.2]
          intro x hx
          have := pathL_le _ x hx
          simp only [chg, Bool.or_eq_true, decide_eq_true_eq, not_or, Decidable.not_not]
          exact ⟨(ha _ (by omega)).symm, (ha _ (by omega)).symm⟩
        · by_cases e : j = m / 2
          · subst e; exact hs.symm
          · exact hc.at_ j hj hn e
      · simp only [if_neg hs]
        obtain ⟨i1, i2, i3, i4, i5⟩ := ih (m / 2) (by omega) (stepB k l (m / 2)) (by omega) hj (hc.step hj (by omega))
          (fun i hi => by rw [stepB_at hjl, if_neg (by omega)]; exact ha i (by omega))
          (by rw [stepB_at hjl, if_pos rfl]; intro e; exact hs (e.trans (ha _ (by omega)).symm))
        have hup : ∀ i, m / 2 < i → gT (runS k (stepB k l (m / 2)) (pathL (m / 2))).2 i = gT l i := fun i hi => by
          rw [i3 i (by omega), stepB_at hjl, if_neg (by omega)]
        refine ⟨?_, i2, fun i hi => hup i (by omega), ?_, fun i hi => ?_⟩
        · rw [List.filter_cons, if_pos (hchild _ (hup m (by omega)))]
          exact congrArg _ i1
        · rw [i4, stepB_at hjl, if_neg (by omega)]
        · have h2 : ¬ (i = m / 2 ∨ i ∈ pathL (m / 2)) := fun e => hi (List.mem_cons.2 e)
          rw [i5 i (fun e => h2 (.inr e)), stepB_at hjl, if_neg (fun e => h2 (.inl e.symm))]
theorem set_ce {k : List UInt8} {n m : Nat} {l : List Tg} {t : Tg} (h : CE k n l 0) (hm : m < 2 * n) (hn : n ≤ m) : CE k n (l.set m t) (m / 2) := by
  have hl : m < l.length := by rw [h.len]; omega
  refine ⟨by simp [h.len], fun j hj hjn hne => ?_⟩
  rw [gT_set hl, if_neg (by omega), secA_set hl (by omega) (by omega)]
  exact h.at_ j hj hjn (by omega)
theorem gT_lv {lv : List Tg} {i j : Nat} {t : Tg} (hi : i < lv.length) : gT (lv.set i t) j = if i = j then t else gT lv j := gT_set hi
theorem chg_self (l : List Tg) (j : Nat) : chg l l j = false := by simp [chg]
theorem setT_all {k : List UInt8} {n i : Nat} {lv : List Tg} {t : Tg} (hlv : lv.length = n) (hi : i < n) :
    (setT k (allT k n lv) (n + i) t).2 = allT k n (lv.set i t) ∧ (setT k (allT k n lv) (n + i) t).1 = (pathL (n + i)).filter (chg (allT k n lv) (allT k n (lv.set i t))) ∧
    ∀ j, j ≠ n + i → j ∉ pathL (n + i) → gT (allT k n (lv.set i t)) j = gT (allT k n lv) j := by
  have hle : lv.length ≤ n := by omega
  have hc := allT_ce (k := k) hle
  have hl : n + i < (allT k n lv).length := by rw [hc.len]; omega
  unfold setT
  by_cases h : gT (allT k n lv) (n + i) = t
  · have hlv2 : lv.set i t = lv := by
      rw [allT_leaf hle] at h
      refine gT_ext (by simp) fun j hj => ?_
      rw [gT_lv (by omega)]
      split
      · rename_i e; subst e; exact h.symm
      · rfl
    simp only [if_pos h]
    rw [hlv2]
    refine ⟨by trivial, (List.filter_eq_nil_iff.2 fun x _ => by simp [chg_self]).symm, fun _ _ _ => by trivial⟩
  · simp only [if_neg h]
    obtain ⟨i1, i2, i3, i4, i5⟩ := runS_spec (k := k) (n := n) (was := allT k n lv) (n + i) ((allT k n lv).set (n + i) t) (by omega) (by omega) (set_ce hc (by omega) (by omega))
      (fun j hj => by rw [gT_set hl, if_neg (by omega)]) (by rw [gT_set hl, if_pos rfl]; exact fun e => h e.symm)
    have e2 : (runS k ((allT k n lv).set (n + i) t) (pathL (n + i))).2 = allT k n (lv.set i t) := by
      refine ce_unique i2 (allT_ce (by simp; omega)) ?_ fun j hj => ?_
      · rw [i4, gT_set hl, if_neg (by omega), allT_zero (by omega) hle, allT_zero (by omega) (by simp; omega)]
      · rw [i5 j (fun e => by have := pathL_le _ _ e; omega), gT_set hl]
        obtain ⟨q, rfl⟩ : ∃ q, j = n + q := ⟨j - n, by omega⟩
        rw [allT_leaf hle, allT_leaf (by simp; omega), gT_lv (by omega)]
        by_cases e : i = q
        · subst e; simp
        · rw [if_neg (by omega), if_neg e]
    refine ⟨e2, by rw [← e2]; exact i1, fun j h1 h2 => ?_⟩
    rw [← e2, i5 j h2, gT_set hl, if_neg (fun e => h1 e.symm)]
theorem padL_full {n : Nat} {lv : List Tg} (h : lv.length = n) : padL n lv = lv := by simp [padL, h]
theorem allT_pad {k : List UInt8} {n : Nat} {lv : List Tg} (h : lv.length ≤ n) : allT k n (padL n lv) = allT k n lv := by
  unfold allT base; rw [padL_full (padL_length h)]
/-! ## All are tags -/
def OkTs (l : List Tg) : Prop := ∀ t, t ∈ l → t.length = 32
theorem zTg_len : zTg.length = 32 := List.length_replicate
theorem OkTs.get {l : List Tg} (h : OkTs l) (i : Nat) : (gT l i).length = 32 := by
  unfold gT
  rcases Nat.lt_or_ge i l.length with hi | hi
  · exact h _ (by simp [List.getD, hi])
  · rw [List.getD, List.getElem?_eq_none hi]; exact zTg_len
theorem OkTs.set {l : List Tg} (h : OkTs l) {i : Nat} {t : Tg} (ht : t.length = 32) : OkTs (l.set i t) := fun x hx => by
  rcases List.mem_or_eq_of_mem_set hx with hx | rfl
  · exact h x hx
  · exact ht
theorem OkTs.stepB {k : List UInt8} {l : List Tg} (h : OkTs l) (j : Nat) : OkTs (stepB k l j) := h.set (nd_len ..)
theorem OkTs.bld {k : List UInt8} {n : Nat} {l : List Tg} (h : OkTs l) : ∀ i, OkTs (bld k n l i)
  | 0 => h
  | i + 1 => (OkTs.bld h i).stepB _
theorem OkTs.rep (n : Nat) : OkTs (List.replicate n zTg) := fun t ht => by rw [List.eq_of_mem_replicate ht]; exact zTg_len
theorem OkTs.app {l l' : List Tg} (h : OkTs l) (h' : OkTs l') : OkTs (l ++ l') := fun t ht => (List.mem_append.1 ht).elim (h t) (h' t)
theorem OkTs.pad {n : Nat} {l : List Tg} (h : OkTs l) : OkTs (padL n l) := h.app (.rep _)
theorem OkTs.base {n : Nat} {l : List Tg} (h : OkTs l) : OkTs (base n l) := (OkTs.rep n).app h.pad
theorem OkTs.all {k : List UInt8} {n : Nat} {l : List Tg} (h : OkTs l) : OkTs (allT k n l) := h.base.bld _
theorem OkTs.runS {k : List UInt8} : ∀ (ps : List Nat) {l : List Tg}, OkTs l → OkTs (runS k l ps).2
  | [], _, h => h
  | j :: ps, l, h => by
    simp only [Go.Kx.runS]
    split
    · exact h
    · exact OkTs.runS ps (h.stepB j)
theorem secA_len {l : List Tg} (h : OkTs l) (j : Nat) : (secA l j).length = 64 := by simp [secA, h.get]
end Go.Kx
