/- Own library, part Wg: bytes as writes; a byte inside a part of a block. -/
import Derived.Test.YtlieojojahhmmaaKxWx
import Derived.Scope
set_option linter.unusedSimpArgs false
set_option linter.unusedVariables false
namespace Go.Kx
open Go
variable {P : Program} {ops : Array Oper} {D : Option (Nat → Prop)} {Q : Exit → Act → World → Prop} {w0 w w' : World} {M : List Nat} {H H' : List Ent}
  {a : Act} {n : Nat} {L : List (Nat × Value)} {rest : List (Bool × Oper)} {d : Nat} {ty : TypeId} {pos : String} {aft : Array Edge} {x y z : Operand} {u v r : Value}
theorem wrSeg_set1 : ∀ {ss : List (List Value)} {k j : Nat} {u : Value} {g : List Value}, ss[k]? = some g → j < g.length → wrSeg k j [u] ss = ss.set k (g.set j u)
  | [], k, j, u, g, h, _ => by simp at h
  | g' :: ss, 0, j, u, g, h, hj => by
    simp at h; subst h
    simp [wrSeg, wr_set hj]
  | g' :: ss, k + 1, j, u, g, h, hj => by
    simp only [wrSeg, List.set_cons_succ]
    rw [wrSeg_set1 (by simpa using h) hj]
/-- A byte is stored into the k-th part of a block. -/
theorem s_storePart8 {t b o j T : Nat} {c : UInt8} (k : Nat) {ss : List (List Value)} {ns : List Nat} {g : List UInt8} (hE : Env a n L) (hx : ev L x = some (.pointer (some ⟨b, o, none⟩))) (ho : (ns.take k).sum + j = o) (hy : ev L y = some (.int .u8 (c.toNat : Int))) (hM : Mem w0 M w (blk b ss ns T :: H))
    (ht : (P.info? t).map (·.size) = some 1) (hg : ss[k]? = some (bv g)) (hj : j < g.length)
    (hX : ∀ X, D = some X → X b) (kk : ∀ w', Mem w0 M w' (blk b (ss.set k (bv (g.set j c))) ns T :: H) → wpL P ops D Q rest a w') : wpL P ops D Q ((false, ⟨none, .store t x y, ty, pos, aft, none⟩) :: rest) a w := by
  refine s_store (j := j) k (vs := [.int .u8 (c.toNat : Int)]) (g := bv g) hE hx hy hM rfl ht rfl (one1 rfl) hg (by simp only [List.length_singleton, bv_length]; omega) ho (wrSeg_set1 hg (by simpa using hj)) hX fun w' h => kk w' ?_
  first | rwa [bv_set'] at h | rwa [bv_setI] at h

theorem Mem.blkEq {b T : Nat} {ss ss' : List (List Value)} {ns : List Nat} (hM : Mem w0 M w (blk b ss ns T :: H)) (h : ss = ss') : Mem w0 M w (blk b ss' ns T :: H) := h ▸ hM
theorem rd_midN {v : Value} {l h c m : Nat} {bs : List UInt8} {w : World} (hr : (rd v 1 (h - l) c (((bv bs).drop (l * 1)).take ((h - l) * 1))).holds w) (h2 : h ≤ bs.length) (hm : h - l = m) : (rd v 1 ((bs.drop l).take m).length c (bv ((bs.drop l).take m))).holds w := by
  subst hm; exact rd_mid h2 hr
theorem getD_mid {bs : List UInt8} {p k m n q j : Nat} (h : j < m) (hj : j < n) (hq : p + k = q) : ((bs.drop p).take m).getD (k + j) 0 = ((bs.drop q).take n).getD j 0 ∨ m ≤ k + j := by
  subst hq
  by_cases hk : k + j < m
  · left; simp [List.getD, List.getElem?_take, hk, hj, Nat.add_assoc]
  · right; omega

theorem q_ng_n (h : Q .normal a w) : Exit.noGoto Q .normal a w := h
theorem q_ng_r (h : Q .ret a w) : Exit.noGoto Q .ret a w := h
theorem q_ng_x {id : Nat} (h : Q (.exit id) a w) : Exit.noGoto Q (.exit id) a w := h

/-! ## Writes, read -/
def wAt (bs : List UInt8) (i : Nat) : Wr := (((val ((bs.drop (69 * i)).take 1) : Nat) : Int), ((val ((bs.drop (69 * i + 1)).take 4) : Nat) : Int), (bs.drop (69 * i + 5)).take 64)
def wAts (bs : List UInt8) (n : Nat) : List Wr := (List.range n).map (wAt bs)
theorem wAts_succ (bs : List UInt8) (i : Nat) : wAts bs (i + 1) = wAts bs i ++ [wAt bs i] := by simp [wAts, List.range_succ]
@[simp] theorem wAts_len (bs : List UInt8) (i : Nat) : (wAts bs i).length = i := by simp [wAts]
theorem wAt_ok {bs : List UInt8} {n i : Nat} (h : bs.length = 69 * n) (hi : i < n) : OkWr (wAt bs i) := by
  have h1 := val1 (l := (bs.drop (69 * i)).take 1) (by simp; omega)
  have h2 := val4 (l := (bs.drop (69 * i + 1)).take 4) (by simp; omega)
  refine ⟨by simp [wAt]; omega, ?_, ?_⟩
  · simp only [wAt, In64]; omega
  · simp only [wAt, In64]; omega
theorem wAts_ok {bs : List UInt8} {n i : Nat} (h : bs.length = 69 * n) (hi : i ≤ n) : ∀ x, x ∈ wAts bs i → OkWr x := fun x hx => by
  obtain ⟨j, hj, rfl⟩ := List.mem_map.1 hx
  exact wAt_ok h (by have := List.mem_range.1 hj; omega)
theorem wB_at {bs : List UInt8} {n i : Nat} (h : bs.length = 69 * n) (hi : i < n) : wB (wAt bs i) = (bs.drop (69 * i)).take 69 := by
  have e1 : ((bs.drop (69 * i)).take 1).length = 1 := by simp; omega
  have e2 : ((bs.drop (69 * i + 1)).take 4).length = 4 := by simp; omega
  simp only [wB, wAt, Int.toNat_natCast]
  rw [laid_val e2, show [UInt8.ofNat (val ((bs.drop (69 * i)).take 1))] = laid 1 (val ((bs.drop (69 * i)).take 1)) by simp [laid], laid_val e1]
  rw [← List.drop_drop, ← List.drop_drop]
  generalize bs.drop (69 * i) = l
  rw [List.append_assoc, show (69 : Nat) = 1 + 68 from rfl, List.take_add, show (68 : Nat) = 4 + 64 from rfl, List.take_add, List.drop_drop]
theorem wAts_wB {bs : List UInt8} {n : Nat} (h : bs.length = 69 * n) : ∀ i, i ≤ n → (wAts bs i).flatMap wB = bs.take (69 * i)
  | 0, _ => by simp [wAts]
  | i + 1, hi => by
    rw [wAts_succ, List.flatMap_append, wAts_wB h i (by omega), Nat.mul_succ, List.take_add]
    simp [wB_at h (show i < n by omega)]
theorem wAts_all_wB {bs : List UInt8} {n : Nat} (h : bs.length = 69 * n) : (wAts bs n).flatMap wB = bs := by
  rw [wAts_wB h n (Nat.le_refl _), ← h, List.take_length]
theorem wAt_zero {x : Wr} {r : List UInt8} (h : OkWr x) (hm : mayW x = true) : wAt (wB x ++ r) 0 = x := by
  obtain ⟨a, b, rfl', ha, hb⟩ := mayW_nat hm
  obtain ⟨x1, x2, x3⟩ := x
  obtain ⟨rfl, rfl, -⟩ : x1 = (a : Int) ∧ x2 = (b : Int) ∧ True := by
    have h1 := congrArg (·.1) rfl'
    have h2 := congrArg (·.2.1) rfl'
    exact ⟨h1, h2, trivial⟩
  have hl : x3.length = 64 := h.1
  have e1 : UInt8.ofNat a :: (laid 4 b ++ (x3 ++ r)) = wB ((a : Int), (b : Int), x3) ++ r := by simp [wB]
  rw [← e1]
  have l4 := laid_length 4 b
  simp only [wAt, Nat.mul_zero, Nat.zero_add, List.drop_zero, List.drop_succ_cons, List.take_succ_cons, List.take_zero]
  rw [List.take_append_of_le_length (by simp), List.take_of_length_le (by simp), val_laid, List.drop_append_of_le_length (by simp), List.drop_of_length_le (by simp), List.nil_append, List.take_append_of_le_length (by omega), List.take_of_length_le (by omega)]
  refine Prod.ext ?_ (Prod.ext ?_ rfl)
  · show ((val [UInt8.ofNat a] : Nat) : Int) = a
    rcases ha with rfl | rfl | rfl <;> rfl
  · show ((b % 256 ^ 4 : Nat) : Int) = b
    rw [Nat.mod_eq_of_lt (by omega)]
theorem wAt_cons {x : Wr} {r : List UInt8} {i : Nat} (h : x.2.2.length = 64) : wAt (wB x ++ r) (i + 1) = wAt r i := by
  have hl := wB_len h
  have e : ∀ k, (wB x ++ r).drop (69 * (i + 1) + k) = r.drop (69 * i + k) := fun k => by
    rw [show 69 * (i + 1) + k = 69 + (69 * i + k) by omega, ← List.drop_drop, List.drop_append_of_le_length (by omega), List.drop_of_length_le (l := wB x) (by omega), List.nil_append]
  unfold wAt
  rw [e 1, e 5, show (wB x ++ r).drop (69 * (i + 1)) = r.drop (69 * i) from e 0]
theorem wAts_put : ∀ {ls : List Wr}, (∀ x, x ∈ ls → OkWr x) → ls.all mayW = true → wAts (ls.flatMap wB) ls.length = ls
  | [], _, _ => rfl
  | x :: ls, h, hm => by
    rw [List.all_cons, Bool.and_eq_true] at hm
    have ih := wAts_put (ls := ls) (fun y hy => h y (.tail _ hy)) hm.2
    rw [List.flatMap_cons]
    simp only [wAts, List.length_cons, List.range_succ_eq_map, List.map_cons, List.map_map]
    rw [wAt_zero (h x (.head _)) hm.1]
    refine congrArg (x :: ·) ?_
    rw [show (wAt (wB x ++ ls.flatMap wB)) ∘ Nat.succ = wAt (ls.flatMap wB) from funext fun i => wAt_cons (h x (.head _)).1]
    exact ih
theorem gw_data {bs : List UInt8} {p k : Nat} (hk : k < 64) : ((bs.drop p).take 69).getD (5 + k) 0 = ((bs.drop (p + 5)).take 64).getD k 0 := by
  have h : 5 + k < 69 := by omega
  simp [List.getD, List.getElem?_take, hk, h, Nat.add_assoc]
theorem gw_one {bs : List UInt8} {p : Nat} (h : p < bs.length) : (((bs.drop p).take 69).getD 0 0).toNat = val ((bs.drop p).take 1) := by
  cases e : bs.drop p with
  | nil => have := congrArg List.length e; simp at this; omega
  | cons a l => simp [val]
theorem gw_four {bs : List UInt8} {p : Nat} : (((bs.drop p).take 69).drop 1).take 4 = (bs.drop (p + 1)).take 4 := by
  rw [List.drop_take, List.take_take, List.drop_drop]; rfl
/-- Are these bytes so many writes? -/
def gwOk (bs : List UInt8) (z : Int) : Bool := decide (0 ≤ z) && decide (z ≤ 65536) && decide (bs.length = 69 * z.toNat) && (wAts bs z.toNat).all mayW
def gwL (bs : List UInt8) (z : Int) : List Wr := if gwOk bs z then wAts bs z.toNat else []
def gwE (bs : List UInt8) (z : Int) : Nat := if z < 0 ∨ 65536 < z then 2 else if gwOk bs z then 0 else 4
theorem gwOk_nat {bs : List UInt8} {z : Int} (h : gwOk bs z = true) : ∃ n : Nat, z = n ∧ n ≤ 65536 ∧ bs.length = 69 * n ∧ (wAts bs n).all mayW = true := by
  simp only [gwOk, Bool.and_eq_true, decide_eq_true_eq] at h
  obtain ⟨⟨⟨h1, h2⟩, h3⟩, h4⟩ := h
  exact ⟨z.toNat, by omega, by omega, h3, h4⟩
theorem gwOk_of {bs : List UInt8} {n : Nat} (h1 : n ≤ 65536) (h2 : bs.length = 69 * n) (h3 : (wAts bs n).all mayW = true) : gwOk bs n = true := by
  simp only [gwOk, Int.toNat_natCast, h2, h3, decide_true, Bool.and_true, Bool.and_eq_true, decide_eq_true_eq]; omega
theorem gwL_ok {bs : List UInt8} {z : Int} : ∀ x, x ∈ gwL bs z → OkWr x := by
  unfold gwL
  split
  · rename_i h
    obtain ⟨n, rfl, _, h2, _⟩ := gwOk_nat h
    exact wAts_ok h2 (Nat.le_refl _)
  · exact ok_nil
theorem gw_all {bs : List UInt8} {n : Nat} (h : (wAts bs n).all mayW = true) {i : Nat} (hi : i < n) : mayW (wAt bs i) = true :=
  List.all_eq_true.1 h _ (List.mem_map.2 ⟨i, List.mem_range.2 hi, rfl⟩)
theorem gw_step {bs : List UInt8} {i : Nat} (h : (wAts bs i).all mayW = true) (hm : mayW (wAt bs i) = true) : (wAts bs (i + 1)).all mayW = true := by
  rw [wAts_succ, List.all_append, h, List.all_cons, hm]; rfl
theorem gw_end {bs : List UInt8} {i : Nat} (h : (!false && decide ((bs.drop (69 * i)).length = 0)) = true) : bs.length ≤ 69 * i := by
  simp at h; omega
theorem gw_more {bs : List UInt8} {i : Nat} (h : (!false && decide ((bs.drop (69 * i)).length = 0)) = false) : 69 * i < bs.length := by
  simp at h; omega
theorem gwv_lim {bs : List UInt8} {z : Int} (h : z < 0 ∨ 65536 < z) : gwL bs z = [] ∧ gwE bs z = 2 := by
  have e : gwOk bs z = false := by
    rw [Bool.eq_false_iff]; intro k
    obtain ⟨n, rfl, h1, _⟩ := gwOk_nat k
    omega
  exact ⟨by rw [gwL, e]; rfl, by rw [gwE, if_pos h]⟩
theorem gwv_ok {bs : List UInt8} {n : Nat} (h1 : n ≤ 65536) (h2 : bs.length = 69 * n) (h3 : (wAts bs n).all mayW = true) : gwL bs n = wAts bs n ∧ gwE bs n = 0 :=
  ⟨by rw [gwL, gwOk_of h1 h2 h3]; rfl, by rw [gwE, if_neg (by omega), gwOk_of h1 h2 h3]; rfl⟩
theorem gwv_no {bs : List UInt8} {n : Nat} (h1 : n ≤ 65536) (h : gwOk bs n = false) : gwL bs n = [] ∧ gwE bs n = 4 :=
  ⟨by rw [gwL, h]; rfl, by rw [gwE, if_neg (by omega), h]; rfl⟩
theorem gwOk_len {bs : List UInt8} {n : Nat} (h : bs.length ≠ 69 * n) : gwOk bs n = false := by
  simp [gwOk, h]
theorem gwOk_all {bs : List UInt8} {n : Nat} (h : (wAts bs n).all mayW = false) : gwOk bs n = false := by
  simp only [gwOk, Int.toNat_natCast, h, Bool.and_false]
theorem gwL_len {bs : List UInt8} {z : Int} : (gwL bs z).length ≤ 65536 := by
  unfold gwL
  split
  · rename_i h
    obtain ⟨n, rfl, h1, _⟩ := gwOk_nat h
    simpa using h1
  · simp
/-- What is read is put as just these bytes. -/
theorem gw_back {bs : List UInt8} {z : Int} (h : gwE bs z = 0) : putW (gwL bs z) = bs ∧ putF (gwL bs z) = 0 := by
  have hk : gwOk bs z = true := by
    unfold gwE at h
    split at h
    · cases h
    · split at h
      · assumption
      · cases h
  obtain ⟨n, rfl, h1, h2, h3⟩ := gwOk_nat hk
  have e : gwL bs n = wAts bs n := by rw [gwL, if_pos hk]; rfl
  rw [e]
  obtain ⟨p, q⟩ := putW_ok (ls := wAts bs n) (by simpa using h1) h3
  exact ⟨p.trans (wAts_all_wB h2), q⟩
theorem putF_zero {ls : List Wr} (h : putF ls = 0) : ls.length ≤ 65536 ∧ ls.all mayW = true := by
  unfold putF at h
  split at h
  · cases h
  · split at h
    · exact ⟨by omega, by assumption⟩
    · cases h
theorem putF_no {ls : List Wr} (h : putF ls ≠ 0) : putW ls = [] := by
  unfold putW
  split
  · rename_i k
    exact absurd (putW_ok k.1 k.2).2 h
  · rfl
/-- What is put is read back. -/
theorem put_back {ls : List Wr} (ho : ∀ x, x ∈ ls → OkWr x) (h : putF ls = 0) : gwL (putW ls) (ls.length : Nat) = ls ∧ gwE (putW ls) (ls.length : Nat) = 0 ∧ (putW ls).length = 69 * ls.length := by
  obtain ⟨h1, h2⟩ := putF_zero h
  rw [(putW_ok h1 h2).1]
  have hl := wBs_len fun x hx => (ho x hx).1
  have hp := wAts_put ho h2
  obtain ⟨p, q⟩ := gwv_ok (bs := ls.flatMap wB) (n := ls.length) h1 hl (by rw [hp]; exact h2)
  exact ⟨p.trans hp, q, hl⟩
theorem put_apart {ls ms : List Wr} (ho : ∀ x, x ∈ ls → OkWr x) (h : putF ls = 0) (ho' : ∀ x, x ∈ ms → OkWr x) (h' : putF ms = 0) : putW ls = putW ms ↔ ls = ms := by
  refine ⟨fun e => ?_, fun e => by rw [e]⟩
  obtain ⟨a1, a2, a3⟩ := put_back ho h
  obtain ⟨b1, b2, b3⟩ := put_back ho' h'
  have hl : ls.length = ms.length := by rw [e] at a3; omega
  rw [← a1, ← b1, e, hl]
/-! ## Root records -/
theorem root_again {b : List UInt8} (h : getOk b = true) : putL (val ((b.drop 8).take 8)) ((b.drop 16).take 32) ((b.drop 48).take 32) ((b.drop 80).take 32) ((val ((b.drop 112).take 4) : Nat) : Int) ((val ((b.drop 116).take 4) : Nat) : Int) = b ∧ putE (val ((b.drop 8).take 8)) ((val ((b.drop 112).take 4) : Nat) : Int) ((val ((b.drop 116).take 4) : Nat) : Int) = 0 := by
  obtain ⟨hl, -, -, hro⟩ := getOk_facts h
  exact ⟨(putL_ok hro).trans ((getOk_put hl).1 h).2, putE_ok hro⟩
theorem root_back {c : Nat} {t h b : List UInt8} {m y : Int} (ht : t.length = 32) (hh : h.length = 32) (hb : b.length = 32) (hr : rootOk c m y = true) :
    getOk (putL c t h b m y) = true ∧ putE c m y = 0 ∧ (putL c t h b m y).length = 128 ∧ ((val (((putL c t h b m y).drop 8).take 8) : Nat) : Int) = (c : Int) ∧ ((putL c t h b m y).drop 16).take 32 = t ∧ ((putL c t h b m y).drop 48).take 32 = h ∧ ((putL c t h b m y).drop 80).take 32 = b ∧
    ((val (((putL c t h b m y).drop 112).take 4) : Nat) : Int) = m ∧ ((val (((putL c t h b m y).drop 116).take 4) : Nat) : Int) = y := by
  obtain ⟨hc, a, d, rfl, rfl, ha, hd⟩ := rootOk_nat hr
  rw [putL_ok hr]
  obtain ⟨-, p2, p3, p4, p5, p6, p7, -⟩ := rootB_parts ht hh hb (c := c) (m := a) (y := d) (by omega) (by omega) (by omega)
  refine ⟨(getOk_rootB ht hh hb hc ha hd).1, putE_ok hr, rootB_len ht hh hb, ?_, p3, p4, p5, ?_, ?_⟩
  · exact congrArg (fun n : Nat => (n : Int)) p2
  · exact congrArg (fun n : Nat => (n : Int)) p6
  · exact congrArg (fun n : Nat => (n : Int)) p7
theorem root_no {c : Nat} {t h b : List UInt8} {m y : Int} (hr : rootOk c m y = false) : getOk (putL c t h b m y) = false ∧ putE c m y = 2 := by
  rw [putL_no hr]; exact ⟨rfl, putE_no hr⟩
theorem root_apart {c c' : Nat} {t h b t' h' b' : List UInt8} {m y m' y' : Int} (ht : t.length = 32) (hh : h.length = 32) (hb : b.length = 32) (ht' : t'.length = 32) (hh' : h'.length = 32) (hb' : b'.length = 32) (hr : rootOk c m y = true) (hr' : rootOk c' m' y' = true) :
    putL c t h b m y = putL c' t' h' b' m' y' ↔ ((c : Int) = c' ∧ t = t' ∧ h = h' ∧ b = b' ∧ m = m' ∧ y = y') := by
  refine ⟨fun e => ?_, ?_⟩
  · obtain ⟨-, -, -, p1, p2, p3, p4, p5, p6⟩ := root_back ht hh hb hr
    obtain ⟨-, -, -, q1, q2, q3, q4, q5, q6⟩ := root_back ht' hh' hb' hr'
    rw [e] at p1 p2 p3 p4 p5 p6
    exact ⟨p1.symm.trans q1, p2.symm.trans q2, p3.symm.trans q3, p4.symm.trans q4, p5.symm.trans q5, p6.symm.trans q6⟩
  · rintro ⟨e, rfl, rfl, rfl, rfl, rfl⟩
    obtain rfl : c = c' := by omega
    rfl
theorem root_apartB {c c' : Nat} {t h b t' h' b' : List UInt8} {m y m' y' : Int} (ht : t.length = 32) (hh : h.length = 32) (hb : b.length = 32) (ht' : t'.length = 32) (hh' : h'.length = 32) (hb' : b'.length = 32) (hr : ((putE c m y : Nat) : Int) = 0) (hr' : ((putE c' m' y' : Nat) : Int) = 0) :
    decide (putL c t h b m y = putL c' t' h' b' m' y') = decide ((c : Int) = c' ∧ t = t' ∧ h = h' ∧ b = b' ∧ m = m' ∧ y = y') := by
  have k : ∀ {c : Nat} {m y : Int}, ((putE c m y : Nat) : Int) = 0 → rootOk c m y = true := fun {c m y} h => by
    cases e : rootOk c m y
    · rw [putE_no e] at h; cases h
    · rfl
  exact decide_eq_decide.2 (root_apart ht hh hb ht' hh' hb' (k hr) (k hr'))
def sameW (la lb : List Wr) (i : Nat) : Bool := decide (la.length = lb.length) && decide (la.take i = lb.take i)
theorem sameW_zero {la lb : List Wr} : decide (((la.length : Nat) : Int) = ((lb.length : Nat) : Int)) = sameW la lb 0 := by
  simp [sameW, Int.ofNat_inj]
theorem sameW_len {la lb : List Wr} {i : Nat} (h : sameW la lb i = true) : la.length = lb.length := by
  simp [sameW] at h; exact h.1
theorem sameW_succ {la lb : List Wr} {i : Nat} (h : sameW la lb i = true) (hi : i < la.length) : decide ((la.getD i wr0).1 = (lb.getD i wr0).1 ∧ (la.getD i wr0).2.1 = (lb.getD i wr0).2.1 ∧ (la.getD i wr0).2.2 = (lb.getD i wr0).2.2) = sameW la lb (i + 1) := by
  simp only [sameW, Bool.and_eq_true, decide_eq_true_eq] at h
  simp only [sameW, h.1, decide_true, Bool.true_and]
  rw [take_snocG (d := wr0) hi, take_snocG (d := wr0) (h.1 ▸ hi), h.2]
  refine decide_eq_decide.2 ⟨fun e => ?_, fun e => ?_⟩
  · rw [Prod.ext e.1 (Prod.ext e.2.1 e.2.2)]
  · have := List.append_cancel_left e
    simp only [List.cons.injEq, and_true] at this
    rw [this]; exact ⟨rfl, rfl, rfl⟩
theorem sameW_end {la lb : List Wr} : sameW la lb la.length = decide (la = lb) := by
  rw [Bool.eq_iff_iff]
  simp only [sameW, Bool.and_eq_true, decide_eq_true_eq]
  constructor
  · rintro ⟨h1, h2⟩
    rwa [List.take_length, h1, List.take_length] at h2
  · rintro rfl; exact ⟨rfl, rfl⟩
theorem sameW_not {la lb : List Wr} {i : Nat} (h : sameW la lb i = false) : decide (la = lb) = false := by
  rw [decide_eq_false_iff_not]
  rintro rfl
  simp [sameW] at h
theorem put_apartB {ls ms : List Wr} (ho : ∀ x, x ∈ ls → OkWr x) (h : putF ls = 0) (ho' : ∀ x, x ∈ ms → OkWr x) (h' : putF ms = 0) : decide (putW ls = putW ms) = decide (ls = ms) := decide_eq_decide.2 (put_apart ho h ho' h')
end Go.Kx
