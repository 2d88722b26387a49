/- Own library, part Hm: a copy of whatever length into a part of a block; headers of what is short. -/
import Derived.Test.YtamjaacddbecaaaKxHl
set_option linter.unusedSimpArgs false
set_option linter.unusedVariables false
set_option linter.unusedSimpArgs false
namespace Go.Kx
open Go
variable {P : Program} {ops : Array Oper} {D : Option (Nat → Prop)} {Q : Exit → Act → World → Prop} {w0 w w' : World} {M : List Nat} {H H' : List Ent}
  {a : Act} {n : Nat} {L : List (Nat × Value)} {rest : List (Bool × Oper)} {d : Nat} {ty : TypeId} {pos : String} {aft : Array Edge} {x y z : Operand} {u v r : Value}
theorem wrSeg_part : ∀ {ss : List (List Value)} {k : Nat} {vs g : List Value}, ss[k]? = some g → wrSeg k 0 vs ss = ss.set k (vs ++ g.drop vs.length)
  | [], k, vs, g, h => by simp at h
  | g' :: ss, 0, vs, g, h => by
    simp at h; subst h
    simp [wrSeg, wr]
  | g' :: ss, k + 1, vs, g, h => by
    simp only [wrSeg, List.set_cons_succ]
    rw [wrSeg_part (by simpa using h)]
theorem cpyG_eq {src old : List UInt8} {l : Nat} (h : old.length = l) : (bv src).take (min src.length l) ++ (bv old).drop (min src.length l) = bv (src.take l ++ old.drop src.length) := by
  simp only [bv, ← List.map_take, ← List.map_drop, ← List.map_append]
  congr 2
  · by_cases k : src.length ≤ l
    · rw [Nat.min_eq_left k, List.take_of_length_le (Nat.le_refl _), List.take_of_length_le k]
    · rw [Nat.min_eq_right (by omega)]
  · by_cases k : src.length ≤ l
    · rw [Nat.min_eq_left k]
    · rw [Nat.min_eq_right (by omega), List.drop_of_length_le (by omega), List.drop_of_length_le (by omega)]
/-- A copy into a part of a block. -/
theorem s_copySegG {t t2 e by_ b o c T l l' : Nat} (k : Nat) {ss : List (List Value)} {ns : List Nat} {old src : List UInt8} (hE : Env a n L) (hx : ev L x = some (.slice (some ⟨b, o, none⟩) l l')) (hy : ev L y = some u) (hM : Mem w0 M w (blk b ss ns T :: H))
    (hr : (rd u 1 src.length c (bv src)).holds w) (ht : SlT P t e 1 by_) (hg : ss[k]? = some (bv old)) (hol : old.length = l) (ho : (ns.take k).sum = o) (hX : ∀ X, D = some X → X b) (hn : Nat.blt d n = true)
    (kk : ∀ a' w', Env a' n ((d, .int .i64 ((min src.length l : Nat) : Int)) :: L) → Mem w0 M w' (blk b (ss.set k (bv (src.take l ++ old.drop src.length))) ns T :: H) → wpL P ops D Q rest a' w') :
    wpL P ops D Q ((false, ⟨some d, .call { callee := .builtin .copy, args := #[x, y], argTypes := #[t, t2] }, ty, pos, aft, none⟩) :: rest) a w := by
  have htl : ((bv src).take (min src.length l)).length = min src.length l := by rw [List.length_take, bv_length]; omega
  have hgl : (bv old).length = l := by rw [bv_length]; exact hol
  obtain ⟨fr, hh, hf, hle, hM'⟩ := blk_store (k := k) (j := 0) (vs := (bv src).take (min src.length l)) (g := bv old) (o := o) hM hg (by omega) (by simpa using ho)
  have hone : One ((bv src).take (min src.length l)) := fun v hv => bv_one _ v (List.mem_of_mem_take hv)
  have hst := run_storeCells (P := P) (o := o) ((bv src).take (min src.length l)) 0 _ w hh (by simpa using hf) (by simpa using hle) hone
  have hfc := firstCells_rd (P := P) hr (Nat.min_le_left src.length l)
  have hlen := lenOf_rd (P := P) hr
  have e : wrSeg k 0 ((bv src).take (min src.length l)) ss = ss.set k (bv (src.take l ++ old.drop src.length)) := by
    rw [wrSeg_part hg, htl, cpyG_eq hol]
  rw [e] at hM'
  refine b_val hE hn (v := .int .i64 ((min src.length l : Nat) : Int)) ?_ (sta_of_setBlk hX) (fun a' hE' => kk a' _ hE' hM')
  obtain ⟨hu, hs, _, _⟩ := ht
  simp only [Nat.add_zero] at hst
  simp only [Nat.mul_one] at hfc
  have hmin : Nat.min src.length l = min src.length l := rfl
  simp [execOp, resolve, invoke, builtin, hE.eval hx, hE.eval hy, Builtin.copy_, run_underlying hu, run_sizeOf hs, Sem.run_bind, hlen, hmin, hfc, hst]
  try rfl
theorem cpyG_len {src old : List UInt8} {l : Nat} (h : old.length = l) : (src.take l ++ old.drop src.length).length = l := by
  simp; omega
theorem tNum_short {bs : List UInt8} {torn : Bool} {x : Int} : (tNum bs torn x).2.1.length ≤ bs.length := by
  unfold tNum; split
  · simp
  · exact Nat.le_refl _
theorem tBytes_short {bs : List UInt8} {torn : Bool} {x : Int} : (tBytes bs torn x).1.length ≤ bs.length ∧ (tBytes bs torn x).2.1.length ≤ bs.length := by
  unfold tBytes; split
  · simp; omega
  · simp
theorem flatten_get {v : Value} : ∀ {ss : List (List Value)} {k j : Nat} {g : List Value}, ss[k]? = some g → g[j]? = some v → ss.flatten[(ss.take k).flatten.length + j]? = some v
  | [], k, j, g, h, _ => by simp at h
  | g' :: ss, 0, j, g, h, hj => by
    simp at h; subst h
    have hlt := (List.getElem?_eq_some_iff.1 hj).1
    simp only [List.take_zero, List.flatten_nil, List.length_nil, Nat.zero_add, List.flatten_cons]
    rw [List.getElem?_append_left hlt]; exact hj
  | g' :: ss, k + 1, j, g, h, hj => by
    simp only [List.take_succ_cons, List.flatten_cons, List.length_append]
    rw [List.getElem?_append_right (by omega), show g'.length + (ss.take k).flatten.length + j - g'.length = (ss.take k).flatten.length + j by omega]
    exact flatten_get (by simpa using h) hj
theorem cellsAt_seg {b k j o T : Nat} {ss : List (List Value)} {ns : List Nat} {g : List Value} (h : (blk b ss ns T).holds w) (hg : ss[k]? = some g) (hj : g[j]? = some v) (ho : (ns.take k).sum + j = o) : (cellsAt (.pointer (some ⟨b, o, none⟩)) [v]).holds w := by
  obtain ⟨hm, fr, hh, hf⟩ := h
  refine ⟨b, o, rfl, (Array.getElem?_eq_some_iff.1 hh).1, fun i x hx => ?_⟩
  cases i with
  | zero =>
    simp only [List.getElem?_cons_zero, Option.some.injEq] at hx
    subst hx
    rw [Nat.add_zero, cell_of_row w b o _ T fr hh]
    have := flatten_get hg hj
    rw [take_flatten_length, hm, ho] at this
    simpa using this
  | succ i => simp at hx
/-- A byte of a part of a block, by a symbolic index. -/
theorem s_loadPart8 {t b o j T : Nat} (k : Nat) {ss : List (List Value)} {ns : List Nat} {g : List UInt8} (hE : Env a n L) (hx : ev L x = some (.pointer (some ⟨b, o, none⟩))) (ho : (ns.take k).sum + j = o) (hB : (blk b ss ns T).holds w) (hg : ss[k]? = some (bv g)) (hj : j < g.length) (ht : OneT P t)
    (hX : ∀ X, D = some X → ¬ X b) (hn : Nat.blt d n = true) (kk : ∀ a', Env a' n ((d, bV (g.getD j 0)) :: L) → wpL P ops D Q rest a' w) : wpL P ops D Q ((true, ⟨some d, .load t x, ty, pos, aft, none⟩) :: rest) a w :=
  s_loadAt1 hE hx (cellsAt_seg hB hg (bv_get hj) ho) ht (fun X hD b' hb => by simp [valBlocks] at hb; subst hb; exact hX X hD) hn kk
theorem lay1 (m : Nat) : [UInt8.ofNat m] = laid 1 m := by
  apply List.ext_getElem?
  intro i
  cases i <;> simp [laid] <;> rfl
theorem laid1 (m : Nat) : laid 1 m = [UInt8.ofNat m] := (lay1 m).symm
theorem getD_tk {bs : List UInt8} {i k : Nat} (h : i < k) : bs.getD i 0 = (bs.take k).getD i 0 := by simp [List.getD, List.getElem?_take, h]
theorem getD_dt {bs : List UInt8} {i k p : Nat} (h : i < k) : bs.getD (p + i) 0 = ((bs.drop p).take k).getD i 0 := by simp [List.getD, List.getElem?_take, List.getElem?_drop, h]
/-! ## Parts of slices of rows -/
theorem flat_take {α : Type} {f : α → List Value} {es : Nat} : ∀ {ls : List α} {h : Nat}, (∀ x, x ∈ ls → (f x).length = es) → h ≤ ls.length → (ls.flatMap f).take (h * es) = (ls.take h).flatMap f
  | _, 0, _, _ => by simp
  | [], h + 1, _, hh => by simp at hh
  | x :: ls, h + 1, hl, hh => by
    have hx := hl x (.head _)
    rw [List.flatMap_cons, List.take_succ_cons, List.flatMap_cons, ← flat_take (fun y hy => hl y (.tail _ hy)) (by simpa using hh)]
    rw [show (h + 1) * es = (f x).length + h * es by rw [hx, Nat.add_mul, Nat.one_mul, Nat.add_comm], List.take_length_add_append]
theorem rd_takeR {α : Type} {f : α → List Value} {es h c : Nat} {ls : List α} {v : Value} (hl : ∀ x, x ∈ ls → (f x).length = es) (hh : h ≤ ls.length) (hr : (rd v es (h - 0) c (((ls.flatMap f).drop (0 * es)).take ((h - 0) * es))).holds w) : (rd v es (ls.take h).length c ((ls.take h).flatMap f)).holds w := by
  have e1 : (ls.take h).length = h - 0 := by simp; omega
  have e2 : ((ls.flatMap f).drop (0 * es)).take ((h - 0) * es) = (ls.take h).flatMap f := by
    rw [Nat.zero_mul, List.drop_zero, Nat.sub_zero]; exact flat_take hl hh
  rw [e1, ← e2]; exact hr
/-! ## The reference's headers -/
def cut8 (b : List UInt8) : List (List UInt8) := (List.range 8).map fun i => seg b (64 * i) 64
@[simp] theorem cut8_len (b : List UInt8) : (cut8 b).length = 8 := by simp [cut8]
theorem val_seg1 {b : List UInt8} {i : Nat} (h : i < b.length) : val (seg b i 1) = (b.getD i 0).toNat := by
  rw [seg, List.drop_eq_getElem_cons h, List.take_succ_cons, List.take_zero]
  simp [val, List.getD, h]
theorem box_of (b : List UInt8) (i : Nat) : ((b.drop i).take 64).take 32 = seg b i 32 := by simp [seg, List.take_take]
theorem box_of2 (b : List UInt8) (i j : Nat) (h : i + 32 = j) : (((b.drop i).take 64).drop 32).take 32 = seg b j 32 := by
  subst h; simp [seg, List.drop_take, List.take_take, List.drop_drop]
/-! ## What is got of sectors -/
theorem getHH_ok {l : List (List UInt8)} (h : ∀ x, x ∈ l → x.length = 64) : OkHd (getHH l) := by
  unfold getHH
  split
  · rename_i g
    simp only [Bool.and_eq_true] at g
    have h8 := (getOkH_facts g.1).1
    exact readH_ok (by rw [flats_len h]; omega)
  · exact zH_ok
theorem getHL_ok {l : List (List UInt8)} (hg : getOkH l = true) (hl : longB (readH l.flatten) = false) : getHH l = readH l.flatten ∧ getEH l = 0 := by simp [getHH, getEH, hg, hl]
theorem getHL_long {l : List (List UInt8)} (hg : getOkH l = true) (hl : longB (readH l.flatten) = true) : getHH l = zH ∧ getEH l = 3 := by simp [getHH, getEH, hg, hl]
theorem getHL_bad {l : List (List UInt8)} (hg : getOkH l = false) : getHH l = zH ∧ getEH l = 4 := by simp [getHH, getEH, hg]
/-! ## Bytes that are turned -/
theorem getOkH_sh {l : List (List UInt8)} (h : shapedB (readH l.flatten) = false) : getOkH l = false := by simp [getOkH, h]
theorem getOkH_pd {l : List (List UInt8)} (h : ¬ padH (layH (readH l.flatten)) = l.flatten) : getOkH l = false := by simp [getOkH, h]
theorem getOkH_all {l : List (List UInt8)} (h8 : l.length = 8) (hs : shapedB (readH l.flatten) = true) (hp : padH (layH (readH l.flatten)) = l.flatten) : getOkH l = true := by simp only [getOkH, Bool.and_eq_true, decide_eq_true_eq]; exact ⟨⟨h8, hs⟩, hp⟩
theorem setSame {α : Type} : ∀ {l : List α} {k : Nat} {g : α}, l[k]? = some g → l.set k g = l
  | [], _, _, h => by simp at h
  | x :: l, 0, g, h => by simp at h; subst h; rfl
  | x :: l, k + 1, g, h => by rw [List.set_cons_succ, setSame (by simpa using h)]
/-- A part of a block, in another text. -/
theorem Mem.blkPart {b T : Nat} {ss : List (List Value)} {ns : List Nat} (k : Nat) {g g' : List Value} (hM : Mem w0 M w (blk b ss ns T :: H)) (hg : ss[k]? = some g) (h : g = g') : Mem w0 M w (blk b (ss.set k g') ns T :: H) := by
  subst h
  rwa [setSame hg]
end Go.Kx
