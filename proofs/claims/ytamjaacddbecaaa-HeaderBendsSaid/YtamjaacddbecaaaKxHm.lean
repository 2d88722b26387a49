/- Own library, part Hm: a copy of whatever length into a part of a block; headers of what is short. -/
import Derived.Test.YtamjaacddbecaaaKxHl
set_option linter.unusedSimpArgs false
set_option linter.unusedVariables false
set_option linter.unusedSimpArgs false
namespace Go.Kx
open Go
variable {P : Program} {ops : Array Oper} {D : Option (Nat → Prop)} {Q : Exit → Act → World → Prop} {w0 w w' : World} {M : List Nat} {H H' : List Ent}
  {a : Act} {n : Nat} {L : List (Nat × Value)} {rest : List (Bool × Oper)} {d : Nat} {ty : TypeId} {pos : String} {aft : Array Edge} {x y z : Operand} {u v r : Value}
theorem wrSeg_part : ∀ {ss : List (List Value)} {k : Nat} {vs g : List Value}, ss[k]? = some g → wrSeg k 0 vs ss = ss.set k (vs ++ g.drop vs.length)
  | [], k, vs, g, h => by simp at h
  | g' :: ss, 0, vs, g, h => by
    simp at h; subst h
    simp [wrSeg, wr]
  | g' :: ss, k + 1, vs, g, h => by
    simp only [wrSeg, List.set_cons_succ]
    rw [wrSeg_part (by simpa using h)]
theorem cpyG_eq {src old : List UInt8} {l : Nat} (h : old.length = l) : (bv src).take (min src.length l) ++ (bv old).drop (min src.length l) = bv (src.take l ++ old.drop src.length) := by
  simp only [bv, ← List.map_take, ← List.map_drop, ← List.map_append]
  congr 2
  · by_cases k : src.length ≤ l
    · rw [Nat.min_eq_left k, List.take_of_length_le (Nat.le_refl _), List.take_of_length_le k]
    · rw [Nat.min_eq_right (by omega)]
  · by_cases k : src.length ≤ l
    · rw [Nat.min_eq_left k]
    · rw [Nat.min_eq_right (by omega), List.drop_of_length_le (by omega), List.drop_of_length_le (by omega)]
/-- A copy into a part of a block. -/
theorem s_copySegG {t t2 e by_ b o c T l l' : Nat} (k : Nat) {ss : List (List Value)} {ns : List Nat} {old src : List UInt8} (hE : Env a n L) (hx : ev L x = some (.slice (some ⟨b, o, none⟩) l l')) (hy : ev L y = some u) (hM : Mem w0 M w (blk b ss ns T :: H))
    (hr : (rd u 1 src.length c (bv src)).holds w) (ht : SlT P t e 1 by_) (hg : ss[k]? = some (bv old)) (hol : old.length = l) (ho : (ns.take k).sum = o) (hX : ∀ X, D = some X → X b) (hn : Nat.blt d n = true)
    (kk : ∀ a' w', Env a' n ((d, .int .i64 ((min src.length l : Nat) : Int)) :: L) → Mem w0 M w' (blk b (ss.set k (bv (src.take l ++ old.drop src.length))) ns T :: H) → wpL P ops D Q rest a' w') :
    wpL P ops D Q ((false, ⟨some d, .call { callee := .builtin .copy, args := #[x, y], argTypes := #[t, t2] }, ty, pos, aft, none⟩) :: rest) a w := by
  have htl : ((bv src).take (min src.length l)).length = min src.length l := by rw [List.length_take, bv_length]; omega
  have hgl : (bv old).length = l := by rw [bv_length]; exact hol
  obtain ⟨fr, hh, hf, hle, hM'⟩ := blk_store (k := k) (j := 0) (vs := (bv src).take (min src.length l)) (g := bv old) (o := o) hM hg (by omega) (by simpa using ho)
  have hone : One ((bv src).take (min src.length l)) := fun v hv => bv_one _ v (List.mem_of_mem_take hv)
  have hst := run_storeCells (P := P) (o := o) ((bv src).take (min src.length l)) 0 _ w hh (by simpa using hf) (by simpa using hle) hone
  have hfc := firstCells_rd (P := P) hr (Nat.min_le_left src.length l)
  have hlen := lenOf_rd (P := P) hr
  have e : wrSeg k 0 ((bv src).take (min src.length l)) ss = ss.set k (bv (src.take l ++ old.drop src.length)) := by
    rw [wrSeg_part hg, htl, cpyG_eq hol]
  rw [e] at hM'
  refine b_val hE hn (v := .int .i64 ((min src.length l : Nat) : Int)) ?_ (sta_of_setBlk hX) (fun a' hE' => kk a' _ hE' hM')
  obtain ⟨hu, hs, _, _⟩ := ht
  simp only [Nat.add_zero] at hst
  simp only [Nat.mul_one] at hfc
  have hmin : Nat.min src.length l = min src.length l := rfl
  simp [execOp, resolve, invoke, builtin, hE.eval hx, hE.eval hy, Builtin.copy_, run_underlying hu, run_sizeOf hs, Sem.run_bind, hlen, hmin, hfc, hst]
  try rfl
theorem cpyG_len {src old : List UInt8} {l : Nat} (h : old.length = l) : (src.take l ++ old.drop src.length).length = l := by
  simp; omega
theorem tNum_short {bs : List UInt8} {torn : Bool} {x : Int} : (tNum bs torn x).2.1.length ≤ bs.length := by
  unfold tNum; split
  · simp
  · exact Nat.le_refl _
theorem tBytes_short {bs : List UInt8} {torn : Bool} {x : Int} : (tBytes bs torn x).1.length ≤ bs.length ∧ (tBytes bs torn x).2.1.length ≤ bs.length := by
  unfold tBytes; split
  · simp; omega
  · simp
/-- A cell of a row of an owned slice. -/
theorem s_indexElem {t l j o m es q : Nat} {i : Int} {k' : IntKind} {cs : List Value} {row : List UInt8} (hE : Env a n L) (hx : ev L x = some (elemP v o)) (hr : (own v es m cs).holds w) (hm : 0 < m) (hc : (cellsAt (elemP v o) (bv row)).holds w) (hy : ev L y = some (.int k' i)) (ht : arrT P t = some (l, 1))
    (hi : i = (j : Int)) (hj : j < l) (hl : row.length = l) (hq : o + j = q) (hn : Nat.blt d n = true)
    (k : ∀ a', Env a' n ((d, elemP v q) :: L) → (cellsAt (elemP v q) [bV (row.getD j 0)]).holds w → wpL P ops D Q rest a' w) : wpL P ops D Q ((true, ⟨some d, .indexAddr t x y, ty, pos, aft, none⟩) :: rest) a w := by
  obtain ⟨h0, ⟨rfl, rfl⟩ | ⟨b, cap, cur, T, fr, rfl, h1, h2, h3⟩⟩ := hr
  · omega
  obtain ⟨b', o', e, g1, g2⟩ := hc
  simp only [elemP, Addr.add_mid, Nat.zero_add, Value.pointer.injEq, Option.some.injEq, Addr.mk.injEq] at e hx
  obtain ⟨rfl, rfl, _⟩ := e
  refine s_indexArr hE hx hy ht hi hj hn (fun a' hE' => k a' ?_ ?_)
  · simpa [elemP, Addr.add_mid, ← hq] using hE'
  · refine ⟨b, q, by simp [elemP, Addr.add_mid], g1, fun i x hx => ?_⟩
    cases i with
    | zero =>
      have := g2 j (bV (row.getD j 0)) (by rw [bv, List.getElem?_map, List.getElem?_eq_getElem (by omega)]; simp [List.getD, show j < row.length by omega])
      simp only [List.getElem?_cons_zero, Option.some.injEq] at hx
      rw [← hx, ← hq]; exact this
    | succ i => simp at hx
/-- One byte of a row is written. -/
theorem rows_wr1 {x : UInt8} : ∀ {ls : List (List UInt8)} {j k : Nat}, (∀ x, x ∈ ls → x.length = 64) → j < ls.length → k < 64 → wr (j * 64 + k) [bV x] (ls.flatMap bv) = (ls.set j ((ls.getD j []).set k x)).flatMap bv
  | [], j, _, _, h, _ => by simp at h
  | r :: ls, 0, k, hl, _, hk => by
    have hx := hl r (.head _)
    simp only [List.set_cons_zero, List.flatMap_cons, List.getD_cons_zero]
    rw [Nat.zero_mul, Nat.zero_add, wr_append_left (by simp; omega)]
    congr 1
    rw [wr_set (by rw [bv_length]; omega), bv, bv, List.map_set]
  | r :: ls, j + 1, k, hl, h, hk => by
    have hx : (bv r).length = 64 := (bv_length _).trans (hl r (.head _))
    simp only [List.set_cons_succ, List.flatMap_cons, List.getD_cons_succ]
    rw [← rows_wr1 (fun y hy => hl y (.tail _ hy)) (by simpa using h) hk]
    unfold wr
    rw [show (j + 1) * 64 + k = 64 + (j * 64 + k) by omega, Nat.add_assoc, ← hx, List.take_length_add_append, List.drop_length_add_append]
    simp only [List.append_assoc]
theorem Mem.rowsWr1 {ls : List (List UInt8)} {x : UInt8} {j k q : Nat} {v : Value} (hM : Mem w0 M w (own v 64 ls.length (wr q [bV x] (ls.flatMap bv)) :: H)) (hq : q = j * 64 + k) (hl : ∀ x, x ∈ ls → x.length = 64) (hj : j < ls.length) (hk : k < 64) : Mem w0 M w (own v 64 (ls.set j ((ls.getD j []).set k x)).length ((ls.set j ((ls.getD j []).set k x)).flatMap bv) :: H) := by
  subst hq
  rw [rows_wr1 hl hj hk] at hM
  simpa using hM
theorem row64 {ls : List (List UInt8)} {j : Nat} {d : List UInt8} (hl : ∀ x, x ∈ ls → x.length = 64) (hj : j < ls.length) : (ls.getD j d).length = 64 := by
  have : ls.getD j d ∈ ls := by simp [List.getD, hj]
  exact hl _ this
/-! ## Parts of slices of rows -/
/-! ## The reference's headers -/
def cut8 (b : List UInt8) : List (List UInt8) := (List.range 8).map fun i => seg b (64 * i) 64
@[simp] theorem cut8_len (b : List UInt8) : (cut8 b).length = 8 := by simp [cut8]
/-! ## What is got of sectors -/
theorem getHH_ok {l : List (List UInt8)} (h : ∀ x, x ∈ l → x.length = 64) : OkHd (getHH l) := by
  unfold getHH
  split
  · rename_i g
    simp only [Bool.and_eq_true] at g
    have h8 := (getOkH_facts g.1).1
    exact readH_ok (by rw [flats_len h]; omega)
  · exact zH_ok
theorem getHL_ok {l : List (List UInt8)} (hg : getOkH l = true) (hl : longB (readH l.flatten) = false) : getHH l = readH l.flatten ∧ getEH l = 0 := by simp [getHH, getEH, hg, hl]
theorem getHL_long {l : List (List UInt8)} (hg : getOkH l = true) (hl : longB (readH l.flatten) = true) : getHH l = zH ∧ getEH l = 3 := by simp [getHH, getEH, hg, hl]
theorem getHL_bad {l : List (List UInt8)} (hg : getOkH l = false) : getHH l = zH ∧ getEH l = 4 := by simp [getHH, getEH, hg]
theorem getE_zero {l : List (List UInt8)} (h : getEH l = 0) : getOkH l = true ∧ longB (readH l.flatten) = false ∧ getHH l = readH l.flatten := by
  unfold getEH at h
  split at h
  · rename_i g
    split at h
    · cases h
    · rename_i k
      have k' : longB (readH l.flatten) = false := by simpa using k
      exact ⟨g, k', (getHL_ok g k').1⟩
  · cases h
/-- What is put is got. -/
theorem put_get {h : Hd} (k : OkHd h) (hc : checkH h = 0) : getHH (putH h) = h ∧ getEH (putH h) = 0 ∧ (putH h).length = 8 := by
  obtain ⟨hs, hl⟩ := check_ok hc
  have e : putH h = cutH (layH h) := if_pos hc
  have hf : (putH h).flatten = padH (layH h) := by rw [e, cutH_flat (layH_len k)]
  have hr : readH (putH h).flatten = h := by rw [hf, padH]; exact readH_lay k hs hl
  have h8 : (putH h).length = 8 := by rw [e]; exact cutH_len _
  have hg : getOkH (putH h) = true := by simp only [getOkH, Bool.and_eq_true, decide_eq_true_eq]; rw [hr]; exact ⟨⟨h8, hs⟩, hf.symm⟩
  obtain ⟨a, b⟩ := getHL_ok hg (by rw [hr]; exact hl)
  exact ⟨a.trans hr, b, h8⟩
theorem chunks_seg : ∀ {l : List (List UInt8)}, (∀ x, x ∈ l → x.length = 64) → ((List.range l.length).map fun i => seg l.flatten (64 * i) 64) = l
  | [], _ => rfl
  | x :: l, h => by
    have hx := h x (.head _)
    rw [List.length_cons, List.range_succ_eq_map, List.map_cons, List.map_map]
    have ih := chunks_seg (l := l) fun y hy => h y (.tail _ hy)
    have e : ((fun i => seg (x :: l).flatten (64 * i) 64) ∘ Nat.succ) = fun i => seg l.flatten (64 * i) 64 := by
      funext i
      show seg (x :: l).flatten (64 * (i + 1)) 64 = _
      rw [List.flatten_cons, show 64 * (i + 1) = 64 + 64 * i by omega, seg_skip hx]
    rw [e, ih, List.flatten_cons, Nat.mul_zero, seg, List.drop_zero, List.take_left' hx]
/-- What is got is put as just these sectors. -/
theorem get_put {l : List (List UInt8)} (hl : ∀ x, x ∈ l → x.length = 64) (h : getEH l = 0) : putH (getHH l) = l ∧ checkH (getHH l) = 0 := by
  obtain ⟨g, k, e⟩ := getE_zero h
  obtain ⟨h8, hs, hp⟩ := getOkH_facts g
  have hc : checkH (readH l.flatten) = 0 := by simp [checkH, hs, k]
  rw [e]
  refine ⟨?_, hc⟩
  have := chunks_seg hl
  rw [h8] at this
  rw [putH, if_pos hc, cutH, hp]
  exact this
/-! ## Bytes that are turned -/
def benR (b : List (List UInt8)) (x : Nat × Nat) : List (List UInt8) := b.set (x.1 % 512 / 64) ((b.getD (x.1 % 512 / 64) []).set (x.1 % 512 % 64) ((b.getD (x.1 % 512 / 64) (List.replicate 64 0)).getD (x.1 % 512 % 64) 0 ^^^ UInt8.ofNat x.2))
def bends (b : List (List UInt8)) (l : List (Nat × Nat)) : List (List UInt8) := l.foldl benR b
theorem bends_step {b : List (List UInt8)} {l : List (Nat × Nat)} {i : Nat} (h : i < l.length) : bends b (l.take (i + 1)) = benR (bends b (l.take i)) (l.getD i (0, 0)) := by
  rw [take_snocG (d := (0, 0)) h, bends, List.foldl_append]; rfl
theorem benR_ok {b : List (List UInt8)} {x : Nat × Nat} (h : b.length = 8 ∧ ∀ y, y ∈ b → y.length = 64) : (benR b x).length = 8 ∧ ∀ y, y ∈ benR b x → y.length = 64 := by
  refine ⟨by simp [benR, h.1], ok_set h.2 ?_⟩
  rw [List.length_set]; exact row64 h.2 (by omega)
theorem bends_ok : ∀ {l : List (Nat × Nat)} {b : List (List UInt8)}, (b.length = 8 ∧ ∀ y, y ∈ b → y.length = 64) → (bends b l).length = 8 ∧ ∀ y, y ∈ bends b l → y.length = 64
  | [], _, h => h
  | _ :: l, _, h => bends_ok (l := l) (benR_ok h)
def pairC (x : Nat × Nat) : List Value := [.int .u16 (x.1 : Int), .int .u16 (x.2 : Int)]
def OkPair (x : Nat × Nat) : Prop := x.1 < 65536 ∧ x.2 < 65536
/-- Turned, or the same. -/
theorem bend_same {h : Hd} {b : List (List UInt8)} (k : OkHd h) (hc : checkH h = 0) (hl : ∀ x, x ∈ b → x.length = 64) : (getEH b = 0 ∧ getHH b = h) ↔ putH h = b := by
  constructor
  · rintro ⟨e, rfl⟩; exact (get_put hl e).1
  · rintro rfl; exact ⟨(put_get k hc).2.1, (put_get k hc).1⟩
def takeEq (a b : List (List UInt8)) (i : Nat) : Bool := decide (a.take i = b.take i)
theorem takeEq_zero {a b : List (List UInt8)} : true = takeEq a b 0 := by simp [takeEq]
theorem takeEq_succ {a b : List (List UInt8)} {i : Nat} {d : List UInt8} (h : takeEq a b i = true) (ha : i < a.length) (hb : i < b.length) : decide (a.getD i d = b.getD i d) = takeEq a b (i + 1) := by
  have h' := of_decide_eq_true h
  rw [takeEq, take_snocG (d := d) ha, take_snocG (d := d) hb, h']
  refine decide_eq_decide.2 ⟨fun e => by rw [e], fun e => ?_⟩
  have := List.append_cancel_left e
  simpa using this
theorem takeEq_no {a b : List (List UInt8)} {i : Nat} (h : takeEq a b i = false) : false = takeEq a b (i + 1) := by
  have h' := of_decide_eq_false h
  refine (decide_eq_false fun e => h' ?_).symm
  have := congrArg (List.take i) e
  simpa [List.take_take] using this
theorem takeEq_end {a b : List (List UInt8)} (ha : a.length = 8) (hb : b.length = 8) : takeEq a b 8 = decide (a = b) := by
  rw [takeEq, List.take_of_length_le (by omega), List.take_of_length_le (by omega)]
end Go.Kx
