/- Own library, part Hm: a copy of whatever length into a part of a block; headers of what is short. -/
import Derived.Test.YtamjaacddbecaaaKxHl
set_option linter.unusedSimpArgs false
set_option linter.unusedVariables false
set_option linter.unusedSimpArgs false
namespace Go.Kx
open Go
variable {P : Program} {ops : Array Oper} {D : Option (Nat → Prop)} {Q : Exit → Act → World → Prop} {w0 w w' : World} {M : List Nat} {H H' : List Ent}
  {a : Act} {n : Nat} {L : List (Nat × Value)} {rest : List (Bool × Oper)} {d : Nat} {ty : TypeId} {pos : String} {aft : Array Edge} {x y z : Operand} {u v r : Value}
theorem wrSeg_part : ∀ {ss : List (List Value)} {k : Nat} {vs g : List Value}, ss[k]? = some g → wrSeg k 0 vs ss = ss.set k (vs ++ g.drop vs.length)
  | [], k, vs, g, h => by simp at h
  | g' :: ss, 0, vs, g, h => by
    simp at h; subst h
    simp [wrSeg, wr]
  | g' :: ss, k + 1, vs, g, h => by
    simp only [wrSeg, List.set_cons_succ]
    rw [wrSeg_part (by simpa using h)]
theorem cpyG_eq {src old : List UInt8} {l : Nat} (h : old.length = l) : (bv src).take (min src.length l) ++ (bv old).drop (min src.length l) = bv (src.take l ++ old.drop src.length) := by
  simp only [bv, ← List.map_take, ← List.map_drop, ← List.map_append]
  congr 2
  · by_cases k : src.length ≤ l
    · rw [Nat.min_eq_left k, List.take_of_length_le (Nat.le_refl _), List.take_of_length_le k]
    · rw [Nat.min_eq_right (by omega)]
  · by_cases k : src.length ≤ l
    · rw [Nat.min_eq_left k]
    · rw [Nat.min_eq_right (by omega), List.drop_of_length_le (by omega), List.drop_of_length_le (by omega)]
/-- A copy into a part of a block. -/
theorem s_copySegG {t t2 e by_ b o c T l l' : Nat} (k : Nat) {ss : List (List Value)} {ns : List Nat} {old src : List UInt8} (hE : Env a n L) (hx : ev L x = some (.slice (some ⟨b, o, none⟩) l l')) (hy : ev L y = some u) (hM : Mem w0 M w (blk b ss ns T :: H))
    (hr : (rd u 1 src.length c (bv src)).holds w) (ht : SlT P t e 1 by_) (hg : ss[k]? = some (bv old)) (hol : old.length = l) (ho : (ns.take k).sum = o) (hX : ∀ X, D = some X → X b) (hn : Nat.blt d n = true)
    (kk : ∀ a' w', Env a' n ((d, .int .i64 ((min src.length l : Nat) : Int)) :: L) → Mem w0 M w' (blk b (ss.set k (bv (src.take l ++ old.drop src.length))) ns T :: H) → wpL P ops D Q rest a' w') :
    wpL P ops D Q ((false, ⟨some d, .call { callee := .builtin .copy, args := #[x, y], argTypes := #[t, t2] }, ty, pos, aft, none⟩) :: rest) a w := by
  have htl : ((bv src).take (min src.length l)).length = min src.length l := by rw [List.length_take, bv_length]; omega
  have hgl : (bv old).length = l := by rw [bv_length]; exact hol
  obtain ⟨fr, hh, hf, hle, hM'⟩ := blk_store (k := k) (j := 0) (vs := (bv src).take (min src.length l)) (g := bv old) (o := o) hM hg (by omega) (by simpa using ho)
  have hone : One ((bv src).take (min src.length l)) := fun v hv => bv_one _ v (List.mem_of_mem_take hv)
  have hst := run_storeCells (P := P) (o := o) ((bv src).take (min src.length l)) 0 _ w hh (by simpa using hf) (by simpa using hle) hone
  have hfc := firstCells_rd (P := P) hr (Nat.min_le_left src.length l)
  have hlen := lenOf_rd (P := P) hr
  have e : wrSeg k 0 ((bv src).take (min src.length l)) ss = ss.set k (bv (src.take l ++ old.drop src.length)) := by
    rw [wrSeg_part hg, htl, cpyG_eq hol]
  rw [e] at hM'
  refine b_val hE hn (v := .int .i64 ((min src.length l : Nat) : Int)) ?_ (sta_of_setBlk hX) (fun a' hE' => kk a' _ hE' hM')
  obtain ⟨hu, hs, _, _⟩ := ht
  simp only [Nat.add_zero] at hst
  simp only [Nat.mul_one] at hfc
  have hmin : Nat.min src.length l = min src.length l := rfl
  simp [execOp, resolve, invoke, builtin, hE.eval hx, hE.eval hy, Builtin.copy_, run_underlying hu, run_sizeOf hs, Sem.run_bind, hlen, hmin, hfc, hst]
  try rfl
theorem cpyG_len {src old : List UInt8} {l : Nat} (h : old.length = l) : (src.take l ++ old.drop src.length).length = l := by
  simp; omega
theorem tNum_short {bs : List UInt8} {torn : Bool} {x : Int} : (tNum bs torn x).2.1.length ≤ bs.length := by
  unfold tNum; split
  · simp
  · exact Nat.le_refl _
theorem tBytes_short {bs : List UInt8} {torn : Bool} {x : Int} : (tBytes bs torn x).1.length ≤ bs.length ∧ (tBytes bs torn x).2.1.length ≤ bs.length := by
  unfold tBytes; split
  · simp; omega
  · simp
/-! ## Parts of slices of rows -/
theorem flat_take {α : Type} {f : α → List Value} {es : Nat} : ∀ {ls : List α} {h : Nat}, (∀ x, x ∈ ls → (f x).length = es) → h ≤ ls.length → (ls.flatMap f).take (h * es) = (ls.take h).flatMap f
  | _, 0, _, _ => by simp
  | [], h + 1, _, hh => by simp at hh
  | x :: ls, h + 1, hl, hh => by
    have hx := hl x (.head _)
    rw [List.flatMap_cons, List.take_succ_cons, List.flatMap_cons, ← flat_take (fun y hy => hl y (.tail _ hy)) (by simpa using hh)]
    rw [show (h + 1) * es = (f x).length + h * es by rw [hx, Nat.add_mul, Nat.one_mul, Nat.add_comm], List.take_length_add_append]
theorem rd_takeR {α : Type} {f : α → List Value} {es h c : Nat} {ls : List α} {v : Value} (hl : ∀ x, x ∈ ls → (f x).length = es) (hh : h ≤ ls.length) (hr : (rd v es (h - 0) c (((ls.flatMap f).drop (0 * es)).take ((h - 0) * es))).holds w) : (rd v es (ls.take h).length c ((ls.take h).flatMap f)).holds w := by
  have e1 : (ls.take h).length = h - 0 := by simp; omega
  have e2 : ((ls.flatMap f).drop (0 * es)).take ((h - 0) * es) = (ls.take h).flatMap f := by
    rw [Nat.zero_mul, List.drop_zero, Nat.sub_zero]; exact flat_take hl hh
  rw [e1, ← e2]; exact hr
/-! ## The reference's headers -/
def cut8 (b : List UInt8) : List (List UInt8) := (List.range 8).map fun i => seg b (64 * i) 64
@[simp] theorem cut8_len (b : List UInt8) : (cut8 b).length = 8 := by simp [cut8]
/-! ## What is got of sectors -/
theorem getHH_ok {l : List (List UInt8)} (h : ∀ x, x ∈ l → x.length = 64) : OkHd (getHH l) := by
  unfold getHH
  split
  · rename_i g
    simp only [Bool.and_eq_true] at g
    have h8 := (getOkH_facts g.1).1
    exact readH_ok (by rw [flats_len h]; omega)
  · exact zH_ok
theorem getHL_ok {l : List (List UInt8)} (hg : getOkH l = true) (hl : longB (readH l.flatten) = false) : getHH l = readH l.flatten ∧ getEH l = 0 := by simp [getHH, getEH, hg, hl]
theorem getHL_long {l : List (List UInt8)} (hg : getOkH l = true) (hl : longB (readH l.flatten) = true) : getHH l = zH ∧ getEH l = 3 := by simp [getHH, getEH, hg, hl]
theorem getHL_bad {l : List (List UInt8)} (hg : getOkH l = false) : getHH l = zH ∧ getEH l = 4 := by simp [getHH, getEH, hg]
theorem getE_zero {l : List (List UInt8)} (h : getEH l = 0) : getOkH l = true ∧ longB (readH l.flatten) = false ∧ getHH l = readH l.flatten := by
  unfold getEH at h
  split at h
  · rename_i g
    split at h
    · cases h
    · rename_i k
      have k' : longB (readH l.flatten) = false := by simpa using k
      exact ⟨g, k', (getHL_ok g k').1⟩
  · cases h
theorem getE_nz {l : List (List UInt8)} (h : getEH l ≠ 0) : getHH l = zH := by
  unfold getEH at h
  unfold getHH
  by_cases g : getOkH l = true
  · rw [if_pos g] at h
    by_cases k : longB (readH l.flatten) = true
    · simp [g, k]
    · simp [k] at h
  · simp [g]
/-- What is put is got. -/
theorem put_get {h : Hd} (k : OkHd h) (hc : checkH h = 0) : getHH (putH h) = h ∧ getEH (putH h) = 0 ∧ (putH h).length = 8 := by
  obtain ⟨hs, hl⟩ := check_ok hc
  have e : putH h = cutH (layH h) := if_pos hc
  have hf : (putH h).flatten = padH (layH h) := by rw [e, cutH_flat (layH_len k)]
  have hr : readH (putH h).flatten = h := by rw [hf, padH]; exact readH_lay k hs hl
  have h8 : (putH h).length = 8 := by rw [e]; exact cutH_len _
  have hg : getOkH (putH h) = true := by simp only [getOkH, Bool.and_eq_true, decide_eq_true_eq]; rw [hr]; exact ⟨⟨h8, hs⟩, hf.symm⟩
  obtain ⟨a, b⟩ := getHL_ok hg (by rw [hr]; exact hl)
  exact ⟨a.trans hr, b, h8⟩
theorem chunks_seg : ∀ {l : List (List UInt8)}, (∀ x, x ∈ l → x.length = 64) → ((List.range l.length).map fun i => seg l.flatten (64 * i) 64) = l
  | [], _ => rfl
  | x :: l, h => by
    have hx := h x (.head _)
    rw [List.length_cons, List.range_succ_eq_map, List.map_cons, List.map_map]
    have ih := chunks_seg (l := l) fun y hy => h y (.tail _ hy)
    have e : ((fun i => seg (x :: l).flatten (64 * i) 64) ∘ Nat.succ) = fun i => seg l.flatten (64 * i) 64 := by
      funext i
      show seg (x :: l).flatten (64 * (i + 1)) 64 = _
      rw [List.flatten_cons, show 64 * (i + 1) = 64 + 64 * i by omega, seg_skip hx]
    rw [e, ih, List.flatten_cons, Nat.mul_zero, seg, List.drop_zero, List.take_left' hx]
/-- What is got is put as just these sectors. -/
theorem get_put {l : List (List UInt8)} (hl : ∀ x, x ∈ l → x.length = 64) (h : getEH l = 0) : putH (getHH l) = l ∧ checkH (getHH l) = 0 := by
  obtain ⟨g, k, e⟩ := getE_zero h
  obtain ⟨h8, hs, hp⟩ := getOkH_facts g
  have hc : checkH (readH l.flatten) = 0 := by simp [checkH, hs, k]
  rw [e]
  refine ⟨?_, hc⟩
  have := chunks_seg hl
  rw [h8] at this
  rw [putH, if_pos hc, cutH, hp]
  exact this
/-! ## Bytes that are turned -/
end Go.Kx
