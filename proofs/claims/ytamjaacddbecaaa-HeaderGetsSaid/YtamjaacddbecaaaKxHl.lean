/- Own library, part Hl: parts of rows of rows; a copy into a row of an owned slice. -/
import Derived.Test.YtamjaacddbecaaaKxHd
import Derived.Test.YtamjaacddbecaaaKxTa
set_option linter.unusedSimpArgs false
set_option linter.unusedVariables false
set_option linter.unusedSimpArgs false
namespace Go.Kx
open Go
variable {P : Program} {ops : Array Oper} {D : Option (Nat → Prop)} {Q : Exit → Act → World → Prop} {w0 w w' : World} {M : List Nat} {H H' : List Ent}
  {a : Act} {n : Nat} {L : List (Nat × Value)} {rest : List (Bool × Oper)} {d : Nat} {ty : TypeId} {pos : String} {aft : Array Edge} {x y z : Operand} {u v r : Value}
theorem flat_seg {ps qs rs : List (List Value)} {o s : Nat} (h1 : (ps.map List.length).sum = o) (h2 : (qs.map List.length).sum = s) : (((ps ++ (qs ++ rs)).flatten).drop o).take s = qs.flatten := by
  rw [List.flatten_append, List.flatten_append, List.drop_left' (by rw [List.length_flatten]; exact h1), List.take_left' (by rw [List.length_flatten]; exact h2)]
/-- A row out of an array of rows. -/
theorem s_indexAgg {t l e es j : Nat} {i : Int} {k' : IntKind} {cs : List Value} (hE : Env a n L) (hx : ev L x = some (.agg cs.toArray)) (hy : ev L y = some (.int k' i)) (hu : P.underlying t = some (.array l e)) (ho : RowT P e es)
    (hi : i = (j : Int)) (hj : j < l) (hn : Nat.blt d n = true)
    (k : ∀ a', Env a' n ((d, .agg ((cs.drop (j * es)).take es).toArray) :: L) → wpL P ops D Q rest a' w) : wpL P ops D Q ((true, ⟨some d, .index t x y, ty, pos, aft, none⟩) :: rest) a w := by
  subst hi
  refine s_val hE hn (Flo.of_all (fun w => ?_) w) k
  have h1 : (0 : Int) ≤ j ∧ (j : Int) < l := ⟨by omega, by omega⟩
  obtain ⟨⟨td, h2, h3⟩, h4⟩ := ho
  simp only [execOp, hE.eval hx, hE.eval hy, Instr.index, asIntOf, Sem.run_bind, Sem.run_pure, Result.andThen_ok, run_underlying hu, h1, and_self, if_true, run_sizeOf h4, part, run_isAgg h2, h3, Int.toNat_natCast, if_true]
  congr 2
  refine congrArg Value.agg (Array.toList_inj.1 ?_)
  simp only [Array.toList_extract, List.extract]
  rw [Nat.add_sub_cancel_left]
/-- A row of an owned slice, as a slice. -/
def elemS : Value → Nat → Nat → Value
  | .slice (some a) _ _, k, N => .slice (some (a.add k)) N N
  | _, _, _ => .slice none 0 0
theorem s_sliceElem {t al es o m : Nat} {v : Value} {cs : List Value} (hE : Env a n L) (hx : ev L x = some (elemP v o)) (hr : (own v es m cs).holds w) (hm : 0 < m) (ht : arrT P t = some (al, 1)) (hal : 0 < al) (hn : Nat.blt d n = true)
    (k : ∀ a', Env a' n ((d, elemS v o al) :: L) → wpL P ops D Q rest a' w) : wpL P ops D Q ((true, ⟨some d, .slice t x none none none, ty, pos, aft, none⟩) :: rest) a w := by
  obtain ⟨h0, ⟨rfl, rfl⟩ | ⟨b, cap, cur, T, fr, rfl, h1, h2, h3⟩⟩ := hr
  · omega
  · simp only [elemP, Addr.add_mid, Nat.zero_add] at hx
    refine s_sliceArr (l := 0) (h := al) (mx' := al) hE hx ht rfl rfl rfl (by simp) (by omega) (by omega) (by omega) hn (fun a' hE' => k a' ?_)
    simp only [elemS, Addr.add_mid, Nat.zero_add]
    simpa [show al ≠ 0 by omega] using hE'
/-- A copy into a row of an owned slice. -/
theorem s_copyOwn {t t2 e by_ m o N q c q' : Nat} {v : Value} {cs cells : List Value} (hE : Env a n L) (hx : ev L x = some (elemS v o N)) (hy : ev L y = some u) (hM : Mem w0 M w (own v N m cells :: H))
    (hr : (rd u 1 q c cs).holds w) (hq : min N q = q') (h1 : One cs) (ht : SlT P t e 1 by_) (hm : 0 < m) (ho : o + N ≤ m * N) (hX : ∀ X, D = some X → ∀ b, b ∈ valBlocks v → X b) (hn : Nat.blt d n = true)
    (kk : ∀ a' w', Env a' n ((d, .int .i64 (q' : Int)) :: L) → Mem w0 M w' (own v N m (wr o (cs.take N) cells) :: H) → wpL P ops D Q rest a' w') :
    wpL P ops D Q ((false, ⟨some d, .call { callee := .builtin .copy, args := #[x, y], argTypes := #[t, t2] }, ty, pos, aft, none⟩) :: rest) a w := by
  obtain ⟨h0, ⟨rfl, rfl⟩ | ⟨b, cap, cur, T, fr, rfl, g1, g2, g3, g4, g5, g6⟩⟩ := hM.holds _ (List.mem_cons_self ..)
  · omega
  have hcl : cs.length = q := by have := hr.1; omega
  have hb := (Array.getElem?_eq_some_iff.1 g3).1
  have hcap : m * N ≤ cap * N := Nat.mul_le_mul_right _ g1
  have hvl : (cs.take N).length = q' := by rw [List.length_take, hcl]; exact hq
  have hqN : q' ≤ N := by omega
  have hst := run_storeCells (P := P) (o := o) (cs.take N) 0 _ w g3 (by simpa using g6) (by rw [hvl]; omega) (fun v hv => h1 v (List.mem_of_mem_take hv))
  have hfc := firstCells_rd (P := P) hr (m := q') (by omega)
  have htk : cs.take q' = cs.take N := by
    subst hq
    by_cases h : N ≤ q
    · rw [Nat.min_eq_left h]
    · rw [Nat.min_eq_right (by omega), List.take_of_length_le (by omega), List.take_of_length_le (by omega)]
  have hlen := lenOf_rd (P := P) hr
  simp only [elemS, Addr.add_mid, Nat.zero_add] at hx
  have hwl : (wr o (cs.take N) cur.toList).length = cur.size := by rw [wr_length (by rw [hvl]; simp; omega)]; simp
  refine b_val hE hn (v := .int .i64 (q' : Int)) (w' := setBlk w b (.cells (wr o (cs.take N) cur.toList).toArray T fr)) ?_ (sta_of_setBlk (fun X hD => hX X hD b (by simp [valBlocks]))) (fun a' hE' => kk a' _ hE' ?_)
  · obtain ⟨hu, hs, _, _⟩ := ht
    simp only [Nat.add_zero] at hst
    simp only [Nat.mul_one] at hfc
    have hmin : Nat.min N q = q' := hq
    have hmin' : min N q = q' := hq
    have hmin3 : Nat.min q N = q' := (Nat.min_comm q N).trans hq
    have hmin4 : min q N = q' := (Nat.min_comm q N).trans hq
    rw [htk] at hfc
    simp [execOp, resolve, invoke, builtin, hE.eval hx, hE.eval hy, Builtin.copy_, run_underlying hu, run_sizeOf hs, Sem.run_bind, hlen, hmin, hmin', hmin3, hmin4, hfc, hst]
    exact ⟨rfl, by simp [wr]⟩
  · refine Mem.act (es := [own (.slice (some ⟨b, 0, none⟩) m cap) N m cells]) (es' := [own (.slice (some ⟨b, 0, none⟩) m cap) N m (wr o (cs.take N) cells)]) hM rfl rfl rfl (by simp) (fun b' hb' hne => setBlk_other fun e => hne _ (List.mem_cons_self ..) (by simp [own, valBlocks, e])) ?_ ?_ ?_ ?_ (List.pairwise_singleton ..)
    · intro e he; rw [List.mem_singleton.1 he]
      refine ⟨by rw [wr_length (by rw [hvl]; omega)]; exact h0, .inr ⟨b, cap, (wr o (cs.take N) cur.toList).toArray, T, fr, rfl, g1, g2, setBlk_same hb, ?_, ?_, ?_⟩⟩
      · simpa [hwl] using g4
      · rw [← g5]
        have e1 : cur.toList = cur.toList.take (m * N) ++ cur.toList.drop (m * N) := (List.take_append_drop _ _).symm
        have hlt : (cur.toList.take (m * N)).length = m * N := by simp; omega
        show List.take (m * N) (wr o (cs.take N) cur.toList) = _
        conv => lhs; rw [e1]
        rw [wr_append_left (by rw [hvl]; omega)]
        rw [List.take_left' (by rw [wr_length (by rw [hvl]; omega)]; exact hlt)]
      · simpa [hwl] using g6
    · intro e he b' hb'; rw [List.mem_singleton.1 he] at hb'; exact .inl ⟨_, List.mem_cons_self .., hb'⟩
    · intro e he b' hb'; rw [List.mem_singleton.1 he] at hb'; cases hb'
    · intro e he b' hb'; rw [List.mem_singleton.1 he] at hb'; cases hb'
theorem flag_lt {b : Bool} : flagN b < 256 ^ 1 := by cases b <;> decide
theorem volB_le {v : Vo} (h : volB v = true) : v.2.1 ≤ 4611686018427387904 := by
  simp only [volB, Bool.and_eq_true, decide_eq_true_eq] at h; exact h.1
theorem shaped_facts {h : Hd} (hs : shapedB h = true) : (4 ≤ h.m ∧ h.m ≤ 64 ∧ 1 ≤ h.r ∧ h.r ≤ 64) ∧ h.v0.2.1 ≤ 4611686018427387904 ∧ h.v1.2.1 ≤ 4611686018427387904 ∧ 0 ≤ h.s0.2.1 ∧ 0 ≤ h.s1.2.1 ∧ 0 ≤ h.s2.2.1 ∧ 0 ≤ h.s3.2.1 := by
  simp only [shapedB, Bool.and_eq_true] at hs
  obtain ⟨⟨⟨⟨⟨⟨hv0, hv1⟩, hs0⟩, hs1⟩, hs2⟩, hs3⟩, hg⟩ := hs
  simp only [geoB, Bool.and_eq_true, decide_eq_true_eq] at hg
  exact ⟨⟨hg.1.1.1, hg.1.1.2, hg.1.2, hg.2⟩, volB_le hv0, volB_le hv1, slotB_ge hs0, slotB_ge hs1, slotB_ge hs2, slotB_ge hs3⟩
def itB (h : Hd) : Prop := h.s0.2.1 < 4294967296 ∧ h.s1.2.1 < 4294967296 ∧ h.s2.2.1 < 4294967296 ∧ h.s3.2.1 < 4294967296
theorem long_it {h : Hd} (hl : longB h = false) : itB h := by
  simp only [longB, Bool.or_eq_false_iff, decide_eq_false_iff_not] at hl
  unfold itB; omega
theorem readH_it {b : List UInt8} (h : 496 ≤ b.length) : itB (readH b) := by
  have h1 := val4 (l := seg b (156 + 1) 4) (seg_len (by omega))
  have h2 := val4 (l := seg b (241 + 1) 4) (seg_len (by omega))
  have h3 := val4 (l := seg b (326 + 1) 4) (seg_len (by omega))
  have h4 := val4 (l := seg b (411 + 1) 4) (seg_len (by omega))
  simp only [itB, readH, readS]; omega
def lP0 (h : Hd) : List UInt8 := (magicH ++ laid 1 h.m.toNat) ++ laid 1 h.r.toNat
def lP1 (h : Hd) : List UInt8 := lP0 h ++ layV h.v0
def lP2 (h : Hd) : List UInt8 := lP1 h ++ layV h.v1
def lP3 (h : Hd) : List UInt8 := lP2 h ++ layS h.s0
def lP4 (h : Hd) : List UInt8 := lP3 h ++ layS h.s1
def lP5 (h : Hd) : List UInt8 := lP4 h ++ layS h.s2
def lP6 (h : Hd) : List UInt8 := lP5 h ++ layS h.s3
theorem lP0_len {h : Hd} : (lP0 h).length = 10 := by simp [lP0, magicH]
theorem lP1_len {h : Hd} (k : OkHd h) : (lP1 h).length = 83 := by simp [lP1, lP0_len, layV_len k.v0]
theorem lP2_len {h : Hd} (k : OkHd h) : (lP2 h).length = 156 := by simp [lP2, lP1_len k, layV_len k.v1]
theorem lP3_len {h : Hd} (k : OkHd h) : (lP3 h).length = 241 := by simp [lP3, lP2_len k, layS_len k.s0]
theorem lP4_len {h : Hd} (k : OkHd h) : (lP4 h).length = 326 := by simp [lP4, lP3_len k, layS_len k.s1]
theorem lP5_len {h : Hd} (k : OkHd h) : (lP5 h).length = 411 := by simp [lP5, lP4_len k, layS_len k.s2]
theorem lP6_len {h : Hd} (k : OkHd h) : (lP6 h).length = 496 := by simp [lP6, lP5_len k, layS_len k.s3]
theorem lP6_eq (h : Hd) : lP6 h = layH h := by simp [lP6, lP5, lP4, lP3, lP2, lP1, lP0, layH]
/-! ## Lists of sectors -/
theorem bvs_one (ls : List (List UInt8)) : One (ls.flatMap bv) := fun v hv => by
  obtain ⟨c, _, h⟩ := List.mem_flatMap.1 hv
  exact bv_one c v h
/-- A row of which the beginning is written over. -/
def cpyR (old src : List UInt8) : List UInt8 := src.take 64 ++ old.drop (src.take 64).length
theorem rows_wr {src : List UInt8} : ∀ {ls : List (List UInt8)} {j : Nat}, (∀ x, x ∈ ls → x.length = 64) → j < ls.length → wr (j * 64) ((bv src).take 64) (ls.flatMap bv) = (ls.set j (cpyR (ls.getD j []) src)).flatMap bv
  | [], j, _, h => by simp at h
  | x :: ls, 0, hl, _ => by
    have hx := hl x (.head _)
    have e : ((bv src).take 64).length = (src.take 64).length := by simp
    simp only [List.set_cons_zero, List.flatMap_cons, List.getD_cons_zero]
    rw [Nat.zero_mul, wr_append_left (by simp; omega)]
    congr 1
    simp only [wr, List.take_zero, List.nil_append, Nat.zero_add, cpyR, bv_append, e]
    rw [← bv_take, ← bv_drop]
  | x :: ls, j + 1, hl, h => by
    have hx : (bv x).length = 64 := (bv_length _).trans (hl x (.head _))
    simp only [List.set_cons_succ, List.flatMap_cons, List.getD_cons_succ]
    rw [← rows_wr (fun y hy => hl y (.tail _ hy)) (by simpa using h)]
    unfold wr
    rw [show (j + 1) * 64 = 64 + j * 64 by omega, Nat.add_assoc, ← hx, List.take_length_add_append, List.drop_length_add_append]
    simp only [List.append_assoc]
theorem Mem.rowsWr {ls : List (List UInt8)} {src : List UInt8} {j : Nat} {cs : List Value} {v : Value} (hM : Mem w0 M w (own v 64 ls.length (wr (j * 64) cs (ls.flatMap bv)) :: H)) (hc : cs = (bv src).take 64) (hl : ∀ x, x ∈ ls → x.length = 64) (hj : j < ls.length) : Mem w0 M w (own v 64 (ls.set j (cpyR (ls.getD j []) src)).length ((ls.set j (cpyR (ls.getD j []) src)).flatMap bv) :: H) := by
  subst hc
  rw [rows_wr hl hj] at hM
  simpa using hM
theorem padH_len {b : List UInt8} (h : b.length = 496) : (padH b).length = 512 := by simp [padH, h]
@[simp] theorem cutH_len (b : List UInt8) : (cutH b).length = 8 := by simp [cutH]
theorem cutH_ok {b : List UInt8} (h : b.length = 496) : ∀ x, x ∈ cutH b → x.length = 64 := fun x hx => by
  obtain ⟨i, hi, rfl⟩ := List.mem_map.1 hx
  have := List.mem_range.1 hi
  exact seg_len (by rw [padH_len h]; omega)
/-- The sectors after i rounds. -/
def cutI (b : List UInt8) (i : Nat) : List (List UInt8) := (cutH b).take i ++ List.replicate (8 - i) (List.replicate 64 0)
theorem cutI_ok {b : List UInt8} {i : Nat} (h : b.length = 496) : ∀ x, x ∈ cutI b i → x.length = 64 :=
  ok_app (fun x hx => cutH_ok h x (List.mem_of_mem_take hx)) (ok_rep List.length_replicate)
theorem cutI_len {b : List UInt8} {i : Nat} (h : i ≤ 8) : (cutI b i).length = 8 := by simp [cutI]; omega
theorem cutH_get {b : List UInt8} {i : Nat} (h : b.length = 496) (hi : i < 8) : cpyR (List.replicate 64 0) (b.drop (i * 64)) = seg (padH b) (64 * i) 64 := by
  have hl : (b.drop (64 * i)).length = 496 - 64 * i := by simp [h]
  unfold cpyR seg padH
  rw [Nat.mul_comm i 64, List.drop_append, List.take_append]
  congr 1
  simp only [List.drop_replicate, List.take_replicate, List.length_take, hl, h]
  congr 1
  omega
theorem cutI_step {b : List UInt8} {i : Nat} (h : b.length = 496) (hi : i < 8) : (cutI b i).set i (cpyR ((cutI b i).getD i []) (b.drop (i * 64))) = cutI b (i + 1) := by
  have hl : ((cutH b).take i).length = i := by simp; omega
  obtain ⟨k, hk⟩ : ∃ k, 8 - i = k + 1 := ⟨7 - i, by omega⟩
  have hg : (cutI b i).getD i [] = List.replicate 64 0 := by
    simp [cutI, hk, List.getD, List.getElem?_append, hl]
  have hc : (cutH b).getD i [] = seg (padH b) (64 * i) 64 := by
    simp [cutH, List.getD, hi]
  rw [hg, cutH_get h hi, ← hc]
  unfold cutI
  rw [hk, show 8 - (i + 1) = k by omega, List.replicate_succ, List.set_append_right _ _ (by omega), hl, Nat.sub_self, List.set_cons_zero, take_snocG (d := []) (by simp; omega), List.append_assoc]
  rfl
theorem cutI_zero {b : List UInt8} : List.replicate 8 (List.replicate 64 0) = cutI b 0 := by simp [cutI]
theorem cutI_end {b : List UInt8} : cutI b 8 = cutH b := by
  have : (cutH b).length = 8 := cutH_len b
  unfold cutI
  rw [List.take_of_length_le (by omega)]; simp
theorem flats_len : ∀ {ls : List (List UInt8)}, (∀ x, x ∈ ls → x.length = 64) → ls.flatten.length = 64 * ls.length
  | [], _ => rfl
  | x :: ls, h => by
    rw [List.flatten_cons, List.length_append, h x (.head _), flats_len fun y hy => h y (.tail _ hy), List.length_cons]; omega
theorem flatk_len {ls : List (List UInt8)} {i : Nat} (h : ∀ x, x ∈ ls → x.length = 64) (hi : i ≤ ls.length) : ((ls.take i).flatten).length = 64 * i := by
  rw [flats_len (ok_take h), List.length_take, Nat.min_eq_left hi]
theorem flatk_step {ls : List (List UInt8)} {i : Nat} {d : List UInt8} (h : i < ls.length) : (ls.take (i + 1)).flatten = (ls.take i).flatten ++ ls.getD i d := by
  rw [take_snocG (d := d) h]; simp
theorem check_ok {h : Hd} (hc : checkH h = 0) : shapedB h = true ∧ longB h = false := by
  unfold checkH at hc
  split at hc
  · rename_i k
    simpa using k
  · cases hc
theorem check_no {h : Hd} (hc : checkH h ≠ 0) : checkH h = 2 := by
  unfold checkH at *
  split
  · rename_i k; rw [if_pos k] at hc; exact absurd rfl hc
  · rfl
/-- A copy of the beginning of what is longer, into a part of a block. -/
theorem s_copySegN {t t2 e by_ b o m c T l l' : Nat} (k : Nat) {ss : List (List Value)} {ns : List Nat} {old cs : List Value} (hE : Env a n L) (hx : ev L x = some (.slice (some ⟨b, o, none⟩) l l')) (hy : ev L y = some u) (hM : Mem w0 M w (blk b ss ns T :: H))
    (hr : (rd u 1 m c cs).holds w) (hml : l ≤ m) (h1 : One cs) (ht : SlT P t e 1 by_) (hg : ss[k]? = some old) (hol : old.length = l) (ho : (ns.take k).sum = o) (hX : ∀ X, D = some X → X b) (hn : Nat.blt d n = true)
    (kk : ∀ a' w', Env a' n ((d, .int .i64 (l : Int)) :: L) → Mem w0 M w' (blk b (ss.set k (cs.take l)) ns T :: H) → wpL P ops D Q rest a' w') :
    wpL P ops D Q ((false, ⟨some d, .call { callee := .builtin .copy, args := #[x, y], argTypes := #[t, t2] }, ty, pos, aft, none⟩) :: rest) a w := by
  have hcl : cs.length = m := by have := hr.1; omega
  have hvl : (cs.take l).length = l := by simp; omega
  obtain ⟨fr, hh, hf, hle, hM'⟩ := blk_store (k := k) (j := 0) (vs := cs.take l) (g := old) (o := o) hM hg (by omega) (by simpa using ho)
  have hst := run_storeCells (P := P) (o := o) (cs.take l) 0 _ w hh (by simpa using hf) (by simpa using hle) (fun v hv => h1 v (List.mem_of_mem_take hv))
  have hfc := firstCells_rd (P := P) hr hml
  have hlen := lenOf_rd (P := P) hr
  rw [wrSeg_set hg (by omega)] at hM'
  refine b_val hE hn (v := .int .i64 (l : Int)) ?_ (sta_of_setBlk hX) (fun a' hE' => kk a' _ hE' hM')
  obtain ⟨hu, hs, _, _⟩ := ht
  simp only [Nat.add_zero] at hst
  simp only [Nat.mul_one] at hfc
  have hmin1 : Nat.min l m = l := Nat.min_eq_left hml
  have hmin2 : Nat.min m l = l := Nat.min_eq_right hml
  have hmin3 : min l m = l := hmin1
  have hmin4 : min m l = l := hmin2
  simp [execOp, resolve, invoke, builtin, hE.eval hx, hE.eval hy, Builtin.copy_, run_underlying hu, run_sizeOf hs, Sem.run_bind, hlen, hmin1, hmin2, hmin3, hmin4, hfc, hst]
  try rfl
theorem dec_one (m : Nat) : decide ((m : Int) = 1) = decide (m = 1) := decide_eq_decide.2 (by omega)
theorem seg_chunks : ∀ (n : Nat) {b : List UInt8}, b.length = 64 * n → ((List.range n).map fun i => seg b (64 * i) 64).flatten = b
  | 0, b, h => by simp at h; subst h; rfl
  | n + 1, b, h => by
    rw [List.range_succ_eq_map, List.map_cons, List.flatten_cons, List.map_map]
    have ih := seg_chunks n (b := b.drop 64) (by simp; omega)
    have e : ((fun i => seg b (64 * i) 64) ∘ Nat.succ) = fun i => seg (b.drop 64) (64 * i) 64 := by
      funext i
      show seg b (64 * (i + 1)) 64 = _
      unfold seg
      rw [List.drop_drop, show 64 + 64 * i = 64 * (i + 1) by omega]
    rw [e, ih]
    simp [seg]
theorem cutH_flat {b : List UInt8} (h : b.length = 496) : (cutH b).flatten = padH b := seg_chunks 8 (padH_len h)
theorem getOkH_facts {l : List (List UInt8)} (h : getOkH l = true) : l.length = 8 ∧ shapedB (readH l.flatten) = true ∧ padH (layH (readH l.flatten)) = l.flatten := by
  simp only [getOkH, Bool.and_eq_true, decide_eq_true_eq] at h
  exact ⟨h.1.1, h.1.2, h.2⟩
theorem zH_ok : OkHd zH := by
  have a : In64 0 := by unfold In64; omega
  have v : OkV zV := ⟨by decide, by simp [zV], by simp [zV]⟩
  have s : OkS zS := ⟨a, by simp [zS], by simp [zS], by simp [zS]⟩
  exact ⟨a, a, v, v, s, s, s, s⟩
theorem getOkH_ne {l : List (List UInt8)} (h : getOkH l = false) (h8 : l.length = 8) (hs : shapedB (readH l.flatten) = true) : ¬ padH (layH (readH l.flatten)) = l.flatten := fun e => by
  have : getOkH l = true := by simp only [getOkH, Bool.and_eq_true, decide_eq_true_eq]; exact ⟨⟨h8, hs⟩, e⟩
  rw [h] at this; cases this
theorem getOkH_len {l : List (List UInt8)} (h : l.length ≠ 8) : getOkH l = false := by simp [getOkH, h]
/-- A round of a loop, and what holds behind it. -/
theorem c_roundsJ {c : Code} {m : Nat} (I : Act → World → Prop) (h : c.wp P (Exit.then I Q) a w) (k : ∀ a w, I a w → Code.rounds P c Q m a w) : Code.rounds P c Q (m + 1) a w := by
  refine wp_mono h ?_
  intro e a' w' hq
  cases e with
  | normal => exact k _ _ hq
  | exit id => exact hq
  | goto l => exact hq
  | ret => exact hq
  | panic ch => exact hq
  | outgrown => exact hq
def putH (h : Hd) : List (List UInt8) := if checkH h = 0 then cutH (layH h) else []
theorem putH_ok {h : Hd} (k : OkHd h) : ∀ x, x ∈ putH h → x.length = 64 := by
  unfold putH
  split
  · exact cutH_ok (layH_len k)
  · exact ok_nil
end Go.Kx
