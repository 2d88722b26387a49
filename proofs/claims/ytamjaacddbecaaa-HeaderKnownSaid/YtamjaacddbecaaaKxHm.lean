/- Own library, part Hm: a copy of whatever length into a part of a block; headers of what is short. -/
import Derived.Test.YtamjaacddbecaaaKxHl
set_option linter.unusedSimpArgs false
set_option linter.unusedVariables false
set_option linter.unusedSimpArgs false
namespace Go.Kx
open Go
variable {P : Program} {ops : Array Oper} {D : Option (Nat → Prop)} {Q : Exit → Act → World → Prop} {w0 w w' : World} {M : List Nat} {H H' : List Ent}
  {a : Act} {n : Nat} {L : List (Nat × Value)} {rest : List (Bool × Oper)} {d : Nat} {ty : TypeId} {pos : String} {aft : Array Edge} {x y z : Operand} {u v r : Value}
theorem wrSeg_part : ∀ {ss : List (List Value)} {k : Nat} {vs g : List Value}, ss[k]? = some g → wrSeg k 0 vs ss = ss.set k (vs ++ g.drop vs.length)
  | [], k, vs, g, h => by simp at h
  | g' :: ss, 0, vs, g, h => by
    simp at h; subst h
    simp [wrSeg, wr]
  | g' :: ss, k + 1, vs, g, h => by
    simp only [wrSeg, List.set_cons_succ]
    rw [wrSeg_part (by simpa using h)]
theorem cpyG_eq {src old : List UInt8} {l : Nat} (h : old.length = l) : (bv src).take (min src.length l) ++ (bv old).drop (min src.length l) = bv (src.take l ++ old.drop src.length) := by
  simp only [bv, ← List.map_take, ← List.map_drop, ← List.map_append]
  congr 2
  · by_cases k : src.length ≤ l
    · rw [Nat.min_eq_left k, List.take_of_length_le (Nat.le_refl _), List.take_of_length_le k]
    · rw [Nat.min_eq_right (by omega)]
  · by_cases k : src.length ≤ l
    · rw [Nat.min_eq_left k]
    · rw [Nat.min_eq_right (by omega), List.drop_of_length_le (by omega), List.drop_of_length_le (by omega)]
/-- A copy into a part of a block. -/
theorem s_copySegG {t t2 e by_ b o c T l l' : Nat} (k : Nat) {ss : List (List Value)} {ns : List Nat} {old src : List UInt8} (hE : Env a n L) (hx : ev L x = some (.slice (some ⟨b, o, none⟩) l l')) (hy : ev L y = some u) (hM : Mem w0 M w (blk b ss ns T :: H))
    (hr : (rd u 1 src.length c (bv src)).holds w) (ht : SlT P t e 1 by_) (hg : ss[k]? = some (bv old)) (hol : old.length = l) (ho : (ns.take k).sum = o) (hX : ∀ X, D = some X → X b) (hn : Nat.blt d n = true)
    (kk : ∀ a' w', Env a' n ((d, .int .i64 ((min src.length l : Nat) : Int)) :: L) → Mem w0 M w' (blk b (ss.set k (bv (src.take l ++ old.drop src.length))) ns T :: H) → wpL P ops D Q rest a' w') :
    wpL P ops D Q ((false, ⟨some d, .call { callee := .builtin .copy, args := #[x, y], argTypes := #[t, t2] }, ty, pos, aft, none⟩) :: rest) a w := by
  have htl : ((bv src).take (min src.length l)).length = min src.length l := by rw [List.length_take, bv_length]; omega
  have hgl : (bv old).length = l := by rw [bv_length]; exact hol
  obtain ⟨fr, hh, hf, hle, hM'⟩ := blk_store (k := k) (j := 0) (vs := (bv src).take (min src.length l)) (g := bv old) (o := o) hM hg (by omega) (by simpa using ho)
  have hone : One ((bv src).take (min src.length l)) := fun v hv => bv_one _ v (List.mem_of_mem_take hv)
  have hst := run_storeCells (P := P) (o := o) ((bv src).take (min src.length l)) 0 _ w hh (by simpa using hf) (by simpa using hle) hone
  have hfc := firstCells_rd (P := P) hr (Nat.min_le_left src.length l)
  have hlen := lenOf_rd (P := P) hr
  have e : wrSeg k 0 ((bv src).take (min src.length l)) ss = ss.set k (bv (src.take l ++ old.drop src.length)) := by
    rw [wrSeg_part hg, htl, cpyG_eq hol]
  rw [e] at hM'
  refine b_val hE hn (v := .int .i64 ((min src.length l : Nat) : Int)) ?_ (sta_of_setBlk hX) (fun a' hE' => kk a' _ hE' hM')
  obtain ⟨hu, hs, _, _⟩ := ht
  simp only [Nat.add_zero] at hst
  simp only [Nat.mul_one] at hfc
  have hmin : Nat.min src.length l = min src.length l := rfl
  simp [execOp, resolve, invoke, builtin, hE.eval hx, hE.eval hy, Builtin.copy_, run_underlying hu, run_sizeOf hs, Sem.run_bind, hlen, hmin, hfc, hst]
  try rfl
theorem cpyG_len {src old : List UInt8} {l : Nat} (h : old.length = l) : (src.take l ++ old.drop src.length).length = l := by
  simp; omega
theorem tNum_short {bs : List UInt8} {torn : Bool} {x : Int} : (tNum bs torn x).2.1.length ≤ bs.length := by
  unfold tNum; split
  · simp
  · exact Nat.le_refl _
theorem tBytes_short {bs : List UInt8} {torn : Bool} {x : Int} : (tBytes bs torn x).1.length ≤ bs.length ∧ (tBytes bs torn x).2.1.length ≤ bs.length := by
  unfold tBytes; split
  · simp; omega
  · simp
/-- A cell of a row of an owned slice. -/
theorem s_indexElem {t l j o m es q : Nat} {i : Int} {k' : IntKind} {cs : List Value} {row : List UInt8} (hE : Env a n L) (hx : ev L x = some (elemP v o)) (hr : (own v es m cs).holds w) (hm : 0 < m) (hc : (cellsAt (elemP v o) (bv row)).holds w) (hy : ev L y = some (.int k' i)) (ht : arrT P t = some (l, 1))
    (hi : i = (j : Int)) (hj : j < l) (hl : row.length = l) (hq : o + j = q) (hn : Nat.blt d n = true)
    (k : ∀ a', Env a' n ((d, elemP v q) :: L) → (cellsAt (elemP v q) [bV (row.getD j 0)]).holds w → wpL P ops D Q rest a' w) : wpL P ops D Q ((true, ⟨some d, .indexAddr t x y, ty, pos, aft, none⟩) :: rest) a w := by
  obtain ⟨h0, ⟨rfl, rfl⟩ | ⟨b, cap, cur, T, fr, rfl, h1, h2, h3⟩⟩ := hr
  · omega
  obtain ⟨b', o', e, g1, g2⟩ := hc
  simp only [elemP, Addr.add_mid, Nat.zero_add, Value.pointer.injEq, Option.some.injEq, Addr.mk.injEq] at e hx
  obtain ⟨rfl, rfl, _⟩ := e
  refine s_indexArr hE hx hy ht hi hj hn (fun a' hE' => k a' ?_ ?_)
  · simpa [elemP, Addr.add_mid, ← hq] using hE'
  · refine ⟨b, q, by simp [elemP, Addr.add_mid], g1, fun i x hx => ?_⟩
    cases i with
    | zero =>
      have := g2 j (bV (row.getD j 0)) (by rw [bv, List.getElem?_map, List.getElem?_eq_getElem (by omega)]; simp [List.getD, show j < row.length by omega])
      simp only [List.getElem?_cons_zero, Option.some.injEq] at hx
      rw [← hx, ← hq]; exact this
    | succ i => simp at hx
/-- One byte of a row is written. -/
theorem rows_wr1 {x : UInt8} : ∀ {ls : List (List UInt8)} {j k : Nat}, (∀ x, x ∈ ls → x.length = 64) → j < ls.length → k < 64 → wr (j * 64 + k) [bV x] (ls.flatMap bv) = (ls.set j ((ls.getD j []).set k x)).flatMap bv
  | [], j, _, _, h, _ => by simp at h
  | r :: ls, 0, k, hl, _, hk => by
    have hx := hl r (.head _)
    simp only [List.set_cons_zero, List.flatMap_cons, List.getD_cons_zero]
    rw [Nat.zero_mul, Nat.zero_add, wr_append_left (by simp; omega)]
    congr 1
    rw [wr_set (by rw [bv_length]; omega), bv, bv, List.map_set]
  | r :: ls, j + 1, k, hl, h, hk => by
    have hx : (bv r).length = 64 := (bv_length _).trans (hl r (.head _))
    simp only [List.set_cons_succ, List.flatMap_cons, List.getD_cons_succ]
    rw [← rows_wr1 (fun y hy => hl y (.tail _ hy)) (by simpa using h) hk]
    unfold wr
    rw [show (j + 1) * 64 + k = 64 + (j * 64 + k) by omega, Nat.add_assoc, ← hx, List.take_length_add_append, List.drop_length_add_append]
    simp only [List.append_assoc]
theorem Mem.rowsWr1 {ls : List (List UInt8)} {x : UInt8} {j k q : Nat} {v : Value} (hM : Mem w0 M w (own v 64 ls.length (wr q [bV x] (ls.flatMap bv)) :: H)) (hq : q = j * 64 + k) (hl : ∀ x, x ∈ ls → x.length = 64) (hj : j < ls.length) (hk : k < 64) : Mem w0 M w (own v 64 (ls.set j ((ls.getD j []).set k x)).length ((ls.set j ((ls.getD j []).set k x)).flatMap bv) :: H) := by
  subst hq
  rw [rows_wr1 hl hj hk] at hM
  simpa using hM
theorem row64 {ls : List (List UInt8)} {j : Nat} {d : List UInt8} (hl : ∀ x, x ∈ ls → x.length = 64) (hj : j < ls.length) : (ls.getD j d).length = 64 := by
  have : ls.getD j d ∈ ls := by simp [List.getD, hj]
  exact hl _ this
/-! ## Parts of slices of rows -/
theorem flat_take {α : Type} {f : α → List Value} {es : Nat} : ∀ {ls : List α} {h : Nat}, (∀ x, x ∈ ls → (f x).length = es) → h ≤ ls.length → (ls.flatMap f).take (h * es) = (ls.take h).flatMap f
  | _, 0, _, _ => by simp
  | [], h + 1, _, hh => by simp at hh
  | x :: ls, h + 1, hl, hh => by
    have hx := hl x (.head _)
    rw [List.flatMap_cons, List.take_succ_cons, List.flatMap_cons, ← flat_take (fun y hy => hl y (.tail _ hy)) (by simpa using hh)]
    rw [show (h + 1) * es = (f x).length + h * es by rw [hx, Nat.add_mul, Nat.one_mul, Nat.add_comm], List.take_length_add_append]
theorem own_subRow {α : Type} {f : α → List Value} {es h : Nat} {ls : List α} {v : Value} (hr : (own v es ls.length (ls.flatMap f)).holds w) (hl : ∀ x, x ∈ ls → (f x).length = es) (hh : h ≤ ls.length) : ∃ c, (rd (subV v h) es (ls.take h).length c ((ls.take h).flatMap f)).holds w := by
  obtain ⟨c, hc⟩ := own_rd (own_sub hr hh)
  refine ⟨c, ?_⟩
  rw [show (ls.take h).length = h by simp; omega, ← flat_take hl hh]; exact hc
/-! ## The reference's headers -/
def cut8 (b : List UInt8) : List (List UInt8) := (List.range 8).map fun i => seg b (64 * i) 64
@[simp] theorem cut8_len (b : List UInt8) : (cut8 b).length = 8 := by simp [cut8]
/-! ## What is got of sectors -/
theorem getHH_ok {l : List (List UInt8)} (h : ∀ x, x ∈ l → x.length = 64) : OkHd (getHH l) := by
  unfold getHH
  split
  · rename_i g
    simp only [Bool.and_eq_true] at g
    have h8 := (getOkH_facts g.1).1
    exact readH_ok (by rw [flats_len h]; omega)
  · exact zH_ok
theorem getHL_ok {l : List (List UInt8)} (hg : getOkH l = true) (hl : longB (readH l.flatten) = false) : getHH l = readH l.flatten ∧ getEH l = 0 := by simp [getHH, getEH, hg, hl]
theorem getHL_long {l : List (List UInt8)} (hg : getOkH l = true) (hl : longB (readH l.flatten) = true) : getHH l = zH ∧ getEH l = 3 := by simp [getHH, getEH, hg, hl]
theorem getHL_bad {l : List (List UInt8)} (hg : getOkH l = false) : getHH l = zH ∧ getEH l = 4 := by simp [getHH, getEH, hg]
/-! ## Bytes that are turned -/
end Go.Kx
