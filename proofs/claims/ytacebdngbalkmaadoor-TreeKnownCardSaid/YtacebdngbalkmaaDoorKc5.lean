/- Own library: parts KxTc, KxTe, KxTk, KxTd, KxTv. -/
import Derived.Test.YtacebdngbalkmaaDoorKc4
set_option linter.unusedSimpArgs false
set_option linter.unusedVariables false
/- Own library, part Tc: whether a proof leads to a top, in plain Lean. -/
set_option linter.unusedSimpArgs false
set_option linter.unusedVariables false
namespace Go.Kx
open Go
def zSc : List UInt8 := List.replicate 64 0
def gS (p : List (List UInt8)) (i : Nat) : List UInt8 := p.getD i zSc
/-- The part of a sector that belongs to a number below. -/
def part (m : Nat) (s : List UInt8) : Tg := if m % 2 = 0 then s.take 32 else s.drop 32
/-- The tag that has come behind i sectors. -/
def tgI (k : List UInt8) (m : Nat) (t : Tg) (p : List (List UInt8)) : Nat → Tg
  | 0 => t
  | i + 1 => nd k (m / 2 ^ (i + 1)) (gS p i)
def mtI (k : List UInt8) (m : Nat) (t : Tg) (p : List (List UInt8)) (i : Nat) : Bool := decide (part (m / 2 ^ i) (gS p i) = tgI k m t p i)
def chkT (k : List UInt8) (m : Nat) (t : Tg) (p : List (List UInt8)) (top : Tg) : Bool := (List.range p.length).all (mtI k m t p) && decide (tgI k m t p p.length = top)
theorem chkT_no {k : List UInt8} {m i : Nat} {t top : Tg} {p : List (List UInt8)} (hi : i < p.length) (h : mtI k m t p i = false) : chkT k m t p top = false := by
  simp only [chkT, Bool.and_eq_false_iff]
  left
  rw [List.all_eq_false]
  exact ⟨i, List.mem_range.2 hi, by simp [h]⟩
theorem chkT_yes {k : List UInt8} {m : Nat} {t top : Tg} {p : List (List UInt8)} (h : ∀ i, i < p.length → mtI k m t p i = true) : chkT k m t p top = decide (tgI k m t p p.length = top) := by
  have : (List.range p.length).all (mtI k m t p) = true := List.all_eq_true.2 fun i hi => h i (List.mem_range.1 hi)
  simp [chkT, this]
theorem part_sec {l : List Tg} (ho : OkTs l) {m : Nat} : part m (secA l (m / 2)) = gT l m := by
  unfold part secA
  split
  · rename_i h
    rw [List.take_left' (ho.get _), show 2 * (m / 2) = m by omega]
  · rename_i h
    rw [List.drop_left' (ho.get _), show 2 * (m / 2) + 1 = m by omega]
theorem div_step (m i : Nat) : m / 2 ^ (i + 1) = m / 2 ^ i / 2 := by rw [Nat.pow_succ, Nat.div_div_eq_div_mul]
/-- The sectors above, from the lowest on. -/
def ownP (l : List Tg) (m h : Nat) : List (List UInt8) := (List.range h).map fun i => secA l (m / 2 ^ (i + 1))
@[simp] theorem ownP_length (l : List Tg) (m h : Nat) : (ownP l m h).length = h := by simp [ownP]
theorem ownP_at {l : List Tg} {m h i : Nat} (hi : i < h) : gS (ownP l m h) i = secA l (m / 2 ^ (i + 1)) := by
  simp [gS, ownP, List.getD, hi]
section
variable {k : List UInt8} {h m : Nat} {l : List Tg}
theorem div_low (hm : 2 ^ h ≤ m) (hm2 : m < 2 * 2 ^ h) {i : Nat} (hi : i ≤ h) : 1 ≤ m / 2 ^ i := by
  have h1 : 2 ^ i ≤ 2 ^ h := Nat.pow_le_pow_right (by decide) hi
  exact (Nat.le_div_iff_mul_le (Nat.two_pow_pos i)).2 (by omega)
theorem div_up (hm2 : m < 2 * 2 ^ h) {i : Nat} : m / 2 ^ (i + 1) < 2 ^ h := by
  rw [div_step]
  have : m / 2 ^ i ≤ m := Nat.div_le_self _ _
  omega
theorem div_top (hm : 2 ^ h ≤ m) (hm2 : m < 2 * 2 ^ h) : m / 2 ^ h = 1 := by
  have h1 := div_low hm hm2 (Nat.le_refl h)
  have h2 : m / 2 ^ h < 2 := (Nat.div_lt_iff_lt_mul (Nat.two_pow_pos h)).2 (by omega)
  omega
theorem own_tg (hc : CE k (2 ^ h) l 0) (hm : 2 ^ h ≤ m) (hm2 : m < 2 * 2 ^ h) : ∀ i, i ≤ h → tgI k m (gT l m) (ownP l m h) i = gT l (m / 2 ^ i)
  | 0, _ => by simp [tgI]
  | i + 1, hi => by
    simp only [tgI]
    rw [ownP_at (by omega)]
    exact (hc.at_ _ (div_low hm hm2 hi) (div_up hm2) (by have := div_low hm hm2 hi; omega)).symm
theorem own_chk (ho : OkTs l) (hc : CE k (2 ^ h) l 0) (hm : 2 ^ h ≤ m) (hm2 : m < 2 * 2 ^ h) : chkT k m (gT l m) (ownP l m h) (gT l 1) = true := by
  rw [chkT_yes fun i hi => ?_]
  · rw [ownP_length, own_tg hc hm hm2 h (Nat.le_refl h), div_top hm hm2]; simp
  · rw [ownP_length] at hi
    simp only [mtI, decide_eq_true_eq]
    rw [own_tg hc hm hm2 i (by omega), ownP_at hi, div_step, part_sec ho]
theorem pathF_at : ∀ (f m i : Nat), m ≤ f → 1 ≤ m / 2 ^ (i + 1) → (pathF f m)[i]? = some (m / 2 ^ (i + 1))
  | 0, m, i, hf, h1 => by
    obtain rfl : m = 0 := by omega
    simp at h1
  | f + 1, m, i, hf, h1 => by
    have hne : ¬ m / 2 = 0 := fun e => by
      have : m / 2 ^ (i + 1) = m / 2 / 2 ^ i := by rw [Nat.pow_succ, Nat.mul_comm, Nat.div_div_eq_div_mul]
      rw [this, e] at h1; simp at h1
    simp only [pathF, if_neg hne]
    cases i with
    | zero => simp
    | succ i =>
      have e : m / 2 ^ (i + 1 + 1) = m / 2 / 2 ^ (i + 1) := by rw [Nat.pow_succ 2 (i + 1), Nat.mul_comm, Nat.div_div_eq_div_mul]
      rw [List.getElem?_cons_succ, e]
      exact pathF_at f (m / 2) i (by omega) (by rw [← e]; exact h1)
theorem pathF_end : ∀ (f m i : Nat), m ≤ f → m / 2 ^ (i + 1) = 0 → (pathF f m)[i]? = none
  | 0, m, i, hf, h1 => by simp [pathF]
  | f + 1, m, i, hf, h1 => by
    simp only [pathF]
    split
    · simp
    · rename_i hne
      cases i with
      | zero => simp at h1; omega
      | succ i =>
        have e : m / 2 ^ (i + 1 + 1) = m / 2 / 2 ^ (i + 1) := by rw [Nat.pow_succ 2 (i + 1), Nat.mul_comm, Nat.div_div_eq_div_mul]
        rw [List.getElem?_cons_succ]
        exact pathF_end f (m / 2) i (by omega) (by rw [← e]; exact h1)
theorem pathL_eq (hm : 2 ^ h ≤ m) (hm2 : m < 2 * 2 ^ h) : pathL m = (List.range h).map fun i => m / 2 ^ (i + 1) := by
  refine List.ext_getElem? fun i => ?_
  rcases Nat.lt_or_ge i h with hi | hi
  · rw [pathL, pathF_at m m i (Nat.le_refl m) (div_low hm hm2 hi)]
    simp [hi]
  · rw [pathL, pathF_end m m i (Nat.le_refl m) ?_]
    · simp [hi]
    · refine Nat.div_eq_of_lt ?_
      have h1 : 2 ^ (h + 1) ≤ 2 ^ (i + 1) := Nat.pow_le_pow_right (by decide) (by omega)
      rw [Nat.pow_succ] at h1
      omega
theorem ownP_path (hm : 2 ^ h ≤ m) (hm2 : m < 2 * 2 ^ h) : ownP l m h = (pathL m).map (secA l) := by rw [pathL_eq hm hm2]; simp [ownP]
end
theorem pathL_at {m i : Nat} (h : 1 ≤ m / 2 ^ (i + 1)) : (pathL m)[i]? = some (m / 2 ^ (i + 1)) := pathF_at m m i (Nat.le_refl m) h
theorem pathL_lt {m i : Nat} (h : 1 ≤ m / 2 ^ (i + 1)) : i < (pathL m).length := (List.getElem?_eq_some_iff.1 (pathL_at h)).1
theorem pathL_all {m i : Nat} (h : m / 2 ^ (i + 1) = 0) : (pathL m).take i = pathL m := by
  have := pathF_end m m i (Nat.le_refl m) h
  exact List.take_of_length_le (List.getElem?_eq_none_iff.1 this)
theorem pathL_snoc {m i : Nat} (h : 1 ≤ m / 2 ^ (i + 1)) : (pathL m).take (i + 1) = (pathL m).take i ++ [m / 2 ^ (i + 1)] := by
  rw [List.take_add_one, pathL_at h]; rfl
/-- A number of an inner node. -/
abbrev Pn (n : Nat) := {x : Nat // 1 ≤ x ∧ x < n}
theorem pathF_le : ∀ f m, (pathF f m).length ≤ f
  | 0, _ => by simp [pathF]
  | f + 1, m => by
    simp only [pathF]
    split
    · simp
    · simpa using pathF_le f (m / 2)
theorem pathL_le_len (m : Nat) : (pathL m).length ≤ m := pathF_le m m
theorem two_pow_le {h : Nat} (h1 : 1 ≤ h ∧ h ≤ 12) : 2 ≤ 2 ^ h ∧ 2 ^ h ≤ 4096 := by
  have a := Nat.pow_le_pow_right (show 0 < 2 by decide) h1.1
  have b := Nat.pow_le_pow_right (show 0 < 2 by decide) h1.2
  exact ⟨by simpa using a, by simpa using b⟩
theorem bin_shl1 {P : Program} {t : TypeId} {k' : IntKind} {c h : Nat} {j : Int} (hj : j = (h : Int)) (hh : h ≤ 12) (hc : c ≤ 2) : Bin P .shl t (.int .i64 (c : Int)) (.int k' j) (.int .i64 ((c * 2 ^ h : Nat) : Int)) := bin_of rfl fun w => by
  subst hj
  have h1 : ¬ ((h : Int) < 0) := by omega
  have h2 : min (h : Int).toNat IntKind.i64.bits = h := by show min h 64 = h; omega
  have h3 : 2 ^ h ≤ 4096 := by have b := Nat.pow_le_pow_right (show 0 < 2 by decide) hh; simpa using b
  simp only [binOp, Op.shift, h1, if_false, h2]
  have e : (c : Int) * 2 ^ h = ((c * 2 ^ h : Nat) : Int) := by simp
  have h4 : c * 2 ^ h ≤ 2 * 4096 := Nat.mul_le_mul hc h3
  rw [e, wrap_i64 (by omega) (by omega)]; rfl
theorem bin_one_shl {P : Program} {t : TypeId} {k' : IntKind} {h : Nat} (hh : h ≤ 12) : Bin P .shl t (.int .i64 1) (.int k' (h : Int)) (.int .i64 ((2 ^ h : Nat) : Int)) := by
  have := bin_shl1 (P := P) (t := t) (k' := k') (c := 1) rfl hh (by decide)
  rwa [Nat.one_mul] at this
end Go.Kx
/- Own library, part Te: a tree that is set: what a walk says of it. -/
set_option linter.unusedSimpArgs false
set_option linter.unusedVariables false
namespace Go.Kx
open Go
def nums {n : Nat} (xs : List (Pn n)) : List Nat := xs.map fun x => x.1
theorem nums_snoc {n : Nat} (xs : List (Pn n)) (x : Pn n) : nums (xs ++ [x]) = nums xs ++ [x.1] := by simp [nums]
theorem nums_len {n : Nat} (xs : List (Pn n)) : (nums xs).length = xs.length := by simp [nums]
def foldB (k : List UInt8) (l : List Tg) (ps : List Nat) : List Tg := ps.foldl (stepB k) l
theorem foldB_cons {k : List UInt8} {l : List Tg} {ps : List Nat} {j : Nat} : foldB k l (j :: ps) = foldB k (stepB k l j) ps := List.foldl_cons ..
theorem foldB_snoc {k : List UInt8} {l : List Tg} {ps : List Nat} {j : Nat} : foldB k l (ps ++ [j]) = stepB k (foldB k l ps) j := by simp [foldB]
@[simp] theorem foldB_length {k : List UInt8} : ∀ {ps : List Nat} {l : List Tg}, (foldB k l ps).length = l.length
  | [], _ => rfl
  | j :: ps, l => by
    show (foldB k (stepB k l j) ps).length = _
    rw [foldB_length]; simp
theorem OkTs.foldB {k : List UInt8} : ∀ {ps : List Nat} {l : List Tg}, OkTs l → OkTs (foldB k l ps)
  | [], _, h => h
  | j :: ps, l, h => OkTs.foldB (ps := ps) (h.stepB j)
/-- None of these numbers is the last that is turned. -/
def goes (k : List UInt8) : List Tg → List Nat → Prop
  | _, [] => True
  | l, j :: ps => nd k j (secA l j) ≠ gT l j ∧ goes k (stepB k l j) ps
theorem goes_snoc {k : List UInt8} {j : Nat} {ps : List Nat} : ∀ {l : List Tg}, goes k l ps → nd k j (secA (foldB k l ps) j) ≠ gT (foldB k l ps) j → goes k l (ps ++ [j]) := by
  induction ps with
  | nil =>
    intro l _ h
    simp only [foldB, List.foldl_nil] at h
    simp only [List.nil_append, goes]
    exact ⟨h, trivial⟩
  | cons i ps ih =>
    intro l hg h
    simp only [goes] at hg
    rw [foldB_cons] at h
    simp only [List.cons_append, goes]
    exact ⟨hg.1, ih hg.2 h⟩
theorem runS_goes {k : List UInt8} {ps : List Nat} : ∀ {l : List Tg}, goes k l ps → runS k l ps = (ps, foldB k l ps) := by
  induction ps with
  | nil => intro l _; simp only [runS, foldB, List.foldl_nil]
  | cons j ps ih =>
    intro l hg
    simp only [goes] at hg
    obtain ⟨h1, h2⟩ := hg
    rw [foldB_cons]
    have := ih h2
    simp only [runS, if_neg h1, this]
theorem runS_stops {k : List UInt8} {j : Nat} {rest : List Nat} {ps : List Nat} : ∀ {l : List Tg}, goes k l ps → nd k j (secA (foldB k l ps) j) = gT (foldB k l ps) j → runS k l (ps ++ [j] ++ rest) = (ps ++ [j], foldB k l ps) := by
  induction ps with
  | nil =>
    intro l _ h
    simp only [foldB, List.foldl_nil] at h
    simp only [List.nil_append, List.cons_append, runS, if_pos h, foldB, List.foldl_nil]
  | cons i ps ih =>
    intro l hg h
    simp only [goes] at hg
    obtain ⟨h1, h2⟩ := hg
    rw [foldB_cons] at h ⊢
    have := ih h2 h
    simp only [List.cons_append, runS, if_neg h1]
    rw [this]
/-- At its last number a run leaves T. -/
def fin (k : List UInt8) (l : List Tg) (xs : List Nat) (T : List Tg) : Prop := OkTs T ∧ T.length = l.length ∧ ∀ rest, runS k l (xs ++ rest) = (xs, T)
theorem fin_of {k : List UInt8} {l : List Tg} {ps : List Nat} {j : Nat} (ho : OkTs l) (hg : goes k l ps) (h : nd k j (secA (foldB k l ps) j) = gT (foldB k l ps) j) : fin k l (ps ++ [j]) (foldB k l ps) :=
  ⟨ho.foldB, foldB_length, fun _ => runS_stops hg h⟩
theorem set_same {k : List UInt8} {l : List Tg} {m : Nat} {t : Tg} (h : gT l m = t) : setT k l m t = ([], l) := by simp [setT, h]
theorem set_done {k : List UInt8} {l : List Tg} {m : Nat} {t : Tg} {xs : List Nat} (hne : ¬ gT l m = t) (hg : goes k (l.set m t) xs) (hS : xs = pathL m) : setT k l m t = (xs, foldB k (l.set m t) xs) := by
  subst hS
  rw [setT, if_neg hne, runS_goes hg]
theorem set_stop {k : List UInt8} {l T : List Tg} {m : Nat} {t : Tg} {xs : List Nat} (hne : ¬ gT l m = t) (hf : fin k (l.set m t) xs T) (hS : ∃ i, xs = (pathL m).take i) : setT k l m t = (xs, T) := by
  obtain ⟨i, hS⟩ := hS
  have := hf.2.2 ((pathL m).drop i)
  rw [hS, List.take_append_drop, ← hS] at this
  rw [setT, if_neg hne, this]
theorem runS_len {k : List UInt8} : ∀ {ps : List Nat} {l : List Tg}, (runS k l ps).2.length = l.length
  | [], _ => rfl
  | j :: ps, l => by
    simp only [runS]
    split
    · rfl
    · simp [runS_len (ps := ps)]
@[simp] theorem setT_len {k : List UInt8} {l : List Tg} {m : Nat} {t : Tg} : (setT k l m t).2.length = l.length := by
  unfold setT; split <;> simp [runS_len]
/-! ## Memory -/
section
variable {w0 w : World} {M : List Nat} {H : List Ent}
theorem Mem.startRW {e f : Ent} (he : e.holds w) (hf : f.holds w) (h0 : e.fp = []) (h1 : f.ro = []) (ha : ∀ x, x ∈ e.ro → x ∉ f.fp) : Mem w f.fp w [e, f] :=
  Mem.start w (fun g hg => by
      rcases List.mem_cons.1 hg with rfl | hg
      · exact he
      · rw [List.mem_singleton.1 hg]; exact hf)
    (fun g hg b hb => by
      rcases List.mem_cons.1 hg with rfl | hg
      · rw [h0] at hb; cases hb
      · rw [List.mem_singleton.1 hg] at hb; exact hb)
    (fun g hg b hb => by
      rcases List.mem_cons.1 hg with rfl | hg
      · rw [h0]; exact List.not_mem_nil
      · rw [List.mem_singleton.1 hg, h1] at hb; cases hb)
    (List.pairwise_cons.2 ⟨fun g hg => by
      rw [List.mem_singleton.1 hg]
      exact ⟨fun b hb => (by rw [h0] at hb; cases hb), fun b hb hb' => ha b hb' hb⟩, List.pairwise_singleton ..⟩)
theorem Mem.startO {f : Ent} (hf : f.holds w) (h1 : f.ro = []) : Mem w f.fp w [f] :=
  Mem.start w (fun g hg => by rw [List.mem_singleton.1 hg]; exact hf) (fun g hg b hb => by rw [List.mem_singleton.1 hg] at hb; exact hb)
    (fun g hg b hb => by rw [List.mem_singleton.1 hg, h1] at hb; cases hb) (List.pairwise_singleton ..)
theorem Mem.keepO {f g : Ent} {w' : World} (hN : Mem w [] w' [g]) (hg : g.ro = []) (hf : f.holds w) (h1 : f.ro = []) : Mem w f.fp w' [g, f] :=
  (Mem.startO hf h1).call0 hN ⟨hg, trivial⟩
theorem Mem.startTree {e f g : Ent} (hg : g.holds w) (he : e.holds w) (hf : f.holds w) (h2 : g.fp = []) (h0 : e.fp = []) (h1 : f.ro = []) (ha : ∀ x, x ∈ f.fp → x ∉ e.ro) (hb : ∀ x, x ∈ f.fp → x ∉ g.ro) : Mem w f.fp w [g, e, f] :=
  (Mem.startRW he hf h0 h1 (fun x hx hx' => ha x hx' hx)).addRd hg h2 (fun b hbb e' he' => by
    rcases List.mem_cons.1 he' with rfl | he'
    · rw [h0]; exact List.not_mem_nil
    · rw [List.mem_singleton.1 he']; exact fun hx => hb b hx hbb)
theorem flat_takeR {es : Nat} : ∀ {ls : List Tg} {j : Nat}, (∀ x, x ∈ ls → x.length = es) → (ls.flatMap bv).take (j * es) = (ls.take j).flatMap bv
  | [], j, _ => by simp
  | x :: ls, 0, _ => by simp
  | x :: ls, j + 1, h => by
    have hx : (bv x).length = es := (bv_length x).trans (h x (List.mem_cons_self ..))
    rw [List.take_succ_cons, List.flatMap_cons, List.flatMap_cons, ← flat_takeR fun y hy => h y (List.mem_cons_of_mem _ hy), List.take_append, hx, List.take_of_length_le (by rw [hx, Nat.add_mul]; omega)]
    congr 2
    rw [Nat.add_mul]; omega
theorem flat_dropR {es : Nat} : ∀ {ls : List Tg} {j : Nat}, (∀ x, x ∈ ls → x.length = es) → (ls.flatMap bv).drop (j * es) = (ls.drop j).flatMap bv
  | [], j, _ => by simp
  | x :: ls, 0, _ => by simp
  | x :: ls, j + 1, h => by
    have hx : (bv x).length = es := (bv_length x).trans (h x (List.mem_cons_self ..))
    rw [List.drop_succ_cons, List.flatMap_cons, ← flat_dropR fun y hy => h y (List.mem_cons_of_mem _ hy), List.drop_append, hx, List.drop_of_length_le (by rw [hx, Nat.add_mul]; omega), List.nil_append]
    congr 1
    rw [Nat.add_mul]; omega
theorem flat_lenR {es : Nat} : ∀ {ls : List Tg}, (∀ x, x ∈ ls → x.length = es) → (ls.flatMap bv).length = ls.length * es
  | [], _ => by simp
  | x :: ls, h => by
    rw [List.flatMap_cons, List.length_append, flat_lenR fun y hy => h y (List.mem_cons_of_mem _ hy), bv_length, h x (List.mem_cons_self ..), List.length_cons, Nat.add_mul]
    omega
/-- Rows are written over others. -/
def putR (ls : List Tg) (j : Nat) (src : List Tg) : List Tg := ls.take j ++ src ++ ls.drop (j + src.length)
theorem putR_len {ls src : List Tg} {j : Nat} (h : j + src.length ≤ ls.length) : (putR ls j src).length = ls.length := by simp [putR]; omega
theorem rows_wrR {es : Nat} {ls src : List Tg} {j : Nat} (hl : ∀ x, x ∈ ls → x.length = es) (hs : ∀ x, x ∈ src → x.length = es) : wr (j * es) (src.flatMap bv) (ls.flatMap bv) = (putR ls j src).flatMap bv := by
  unfold wr putR
  rw [flat_lenR hs, ← Nat.add_mul, flat_takeR hl, flat_dropR hl]
  simp
theorem putR_one {ls : List Tg} {j : Nat} {x : Tg} (h : j < ls.length) : putR ls j [x] = ls.set j x := by
  unfold putR
  rw [List.set_eq_take_append_cons_drop, if_pos h]
  simp
theorem Mem.rowPut {v : Value} {es m : Nat} {ls : List Tg} {j : Nat} {x : Tg} (hM : Mem w0 M w (own v es m (wr (j * es) (bv x) (ls.flatMap bv)) :: H)) (hm : m = ls.length) (hl : ∀ x, x ∈ ls → x.length = es) (hx : x.length = es) (hj : j < ls.length) :
    Mem w0 M w (own v es (ls.set j x).length ((ls.set j x).flatMap bv) :: H) := by
  have e := rows_wrR (j := j) (src := [x]) hl (fun y hy => by rw [List.mem_singleton.1 hy]; exact hx)
  rw [List.flatMap_cons, List.flatMap_nil, List.append_nil, putR_one hj] at e
  rw [e, hm] at hM
  simpa using hM
theorem Mem.rowsPut {v : Value} {es m : Nat} {ls src : List Tg} {j : Nat} (hM : Mem w0 M w (own v es m (wr (j * es) (src.flatMap bv) (ls.flatMap bv)) :: H)) (hm : m = ls.length) (hl : ∀ x, x ∈ ls → x.length = es) (hs : ∀ x, x ∈ src → x.length = es) (hj : j + src.length ≤ ls.length) :
    Mem w0 M w (own v es (putR ls j src).length ((putR ls j src).flatMap bv) :: H) := by
  rw [rows_wrR hl hs, hm] at hM
  simpa [putR_len hj] using hM
end
theorem putR_base {n : Nat} {lv : List Tg} (h : lv.length ≤ n) : putR (List.replicate (2 * n) zTg) n lv = base n lv := by
  unfold putR base padL
  rw [List.take_replicate, List.drop_replicate, show min n (2 * n) = n by omega, show 2 * n - (n + lv.length) = n - lv.length by omega, List.append_assoc]
/-! ## In one form: what is told of any number -/
abbrev inN (a b : Nat) (z : Int) : Prop := (a : Int) ≤ z ∧ z < (b : Int)
def eZ (a b : Nat) (z : Int) : Nat := if inN a b z then 0 else 2
def tagZ (l : List Tg) (n : Nat) (z : Int) : Tg := if inN 1 (2 * n) z then gT l z.toNat else zTg
def nodeZ (l : List Tg) (n : Nat) (z : Int) : List UInt8 := if inN 1 n z then secA l z.toNat else zSc
def proofZ (l : List Tg) (h : Nat) (z : Int) : List (List UInt8) := if inN 0 (2 ^ h) z then ownP l (2 ^ h + z.toNat) h else []
def pathZ (h z : Int) : List Nat := if (1 ≤ h ∧ h ≤ 12) ∧ inN 0 (2 ^ h.toNat) z then pathL (2 ^ h.toNat + z.toNat) else []
def chkZ (k : List UInt8) (z : Int) (t : Tg) (p : List (List UInt8)) (top : Tg) : Bool := if (1 ≤ p.length ∧ p.length ≤ 12) ∧ inN 0 (2 ^ p.length) z then chkT k (2 ^ p.length + z.toNat) t p top else false
def lvZ (lv : List Tg) (h : Nat) (z : Int) (t : Tg) : List Tg := if inN 0 (2 ^ h) z then lv.set z.toNat t else lv
def chgZ (k : List UInt8) (h : Nat) (lv : List Tg) (z : Int) (t : Tg) : List Nat := if inN 0 (2 ^ h) z then (pathL (2 ^ h + z.toNat)).filter (chg (allT k (2 ^ h) lv) (allT k (2 ^ h) (lv.set z.toNat t))) else []
theorem eZ_in {a b : Nat} {z : Int} (h : inN a b z) : eZ a b z = 0 := if_pos h
theorem eZ_out {a b : Nat} {z : Int} (h : ¬ inN a b z) : eZ a b z = 2 := if_neg h
theorem tagZ_in {l : List Tg} {n q : Nat} (h : inN 1 (2 * n) (q : Int)) : tagZ l n (q : Int) = gT l q := if_pos h
theorem tagZ_out {l : List Tg} {n : Nat} {z : Int} (h : ¬ inN 1 (2 * n) z) : tagZ l n z = zTg := if_neg h
theorem nodeZ_in {l : List Tg} {n q : Nat} (h : inN 1 n (q : Int)) : nodeZ l n (q : Int) = secA l q := if_pos h
theorem nodeZ_out {l : List Tg} {n : Nat} {z : Int} (h : ¬ inN 1 n z) : nodeZ l n z = zSc := if_neg h
theorem proofZ_in {l : List Tg} {h q : Nat} (hz : inN 0 (2 ^ h) (q : Int)) : proofZ l h (q : Int) = ownP l (2 ^ h + q) h := if_pos hz
theorem proofZ_out {l : List Tg} {h : Nat} {z : Int} (hz : ¬ inN 0 (2 ^ h) z) : proofZ l h z = [] := if_neg hz
theorem lvZ_in {lv : List Tg} {h q : Nat} {t : Tg} (hz : inN 0 (2 ^ h) (q : Int)) : lvZ lv h (q : Int) t = lv.set q t := if_pos hz
theorem lvZ_out {lv : List Tg} {h : Nat} {z : Int} {t : Tg} (hz : ¬ inN 0 (2 ^ h) z) : lvZ lv h z t = lv := if_neg hz
theorem chgZ_in {k : List UInt8} {lv : List Tg} {h q : Nat} {t : Tg} (hz : inN 0 (2 ^ h) (q : Int)) : chgZ k h lv (q : Int) t = (pathL (2 ^ h + q)).filter (chg (allT k (2 ^ h) lv) (allT k (2 ^ h) (lv.set q t))) := if_pos hz
theorem chgZ_out {k : List UInt8} {lv : List Tg} {h : Nat} {z : Int} {t : Tg} (hz : ¬ inN 0 (2 ^ h) z) : chgZ k h lv z t = [] := if_neg hz
theorem pathZ_in {h q : Nat} (hh : 1 ≤ h ∧ h ≤ 12) (hz : inN 0 (2 ^ h) (q : Int)) : pathZ (h : Int) (q : Int) = pathL (2 ^ h + q) := if_pos ⟨by omega, hz⟩
theorem pathZ_out1 {h z : Int} (hh : ¬ (1 ≤ h ∧ h ≤ 12)) : pathZ h z = [] := if_neg fun e => hh e.1
theorem pathZ_out2 {h : Nat} {z : Int} (hz : ¬ inN 0 (2 ^ h) z) : pathZ (h : Int) z = [] := if_neg fun e => hz e.2
theorem chkZ_in {k : List UInt8} {q : Nat} {t top : Tg} {p : List (List UInt8)} (hh : 1 ≤ p.length ∧ p.length ≤ 12) (hz : inN 0 (2 ^ p.length) (q : Int)) : chkZ k (q : Int) t p top = chkT k (2 ^ p.length + q) t p top := if_pos ⟨hh, hz⟩
theorem chkZ_out1 {k : List UInt8} {z : Int} {t top : Tg} {p : List (List UInt8)} (hh : ¬ (1 ≤ p.length ∧ p.length ≤ 12)) : chkZ k z t p top = false := if_neg fun e => hh e.1
theorem chkZ_out2 {k : List UInt8} {z : Int} {t top : Tg} {p : List (List UInt8)} (hz : ¬ inN 0 (2 ^ p.length) z) : chkZ k z t p top = false := if_neg fun e => hz e.2
theorem tagZ_len {l : List Tg} {n : Nat} {z : Int} (ho : OkTs l) : (tagZ l n z).length = 32 := by unfold tagZ; split; exact ho.get _; exact zTg_len
theorem nodeZ_len {l : List Tg} {n : Nat} {z : Int} (ho : OkTs l) : (nodeZ l n z).length = 64 := by unfold nodeZ; split; exact secA_len ho _; exact List.length_replicate
theorem ownP_ok {l : List Tg} {m h : Nat} (ho : OkTs l) : ∀ x, x ∈ ownP l m h → x.length = 64 := fun x hx => by
  obtain ⟨i, _, rfl⟩ := List.mem_map.1 hx
  exact secA_len ho _
theorem proofZ_ok {l : List Tg} {h : Nat} {z : Int} (ho : OkTs l) : ∀ x, x ∈ proofZ l h z → x.length = 64 := by
  unfold proofZ; split
  · exact ownP_ok ho
  · exact fun x hx => by cases hx
@[simp] theorem lvZ_len {lv : List Tg} {h : Nat} {z : Int} {t : Tg} : (lvZ lv h z t).length = lv.length := by unfold lvZ; split <;> simp
theorem lvZ_ok {lv : List Tg} {h : Nat} {z : Int} {t : Tg} (ho : OkTs lv) (ht : t.length = 32) : OkTs (lvZ lv h z t) := by
  unfold lvZ; split
  · exact ho.set ht
  · exact ho
theorem allT_len {k : List UInt8} {n : Nat} {lv : List Tg} (h : lv.length ≤ n) : (allT k n lv).length = 2 * n := (allT_ce h).len
/-! ## Check -/
theorem mt_even {k : List UInt8} {m i : Nat} {t : Tg} {p : List (List UInt8)} (h : m / 2 ^ i % 2 = 0) : mtI k m t p i = decide ((gS p i).take 32 = tgI k m t p i) := by simp [mtI, part, h]
theorem mt_odd {k : List UInt8} {m i : Nat} {t : Tg} {p : List (List UInt8)} (h : ¬ m / 2 ^ i % 2 = 0) : mtI k m t p i = decide ((gS p i).drop 32 = tgI k m t p i) := by simp [mtI, part, h]
theorem tgI_len {k : List UInt8} {m : Nat} {t : Tg} {p : List (List UInt8)} (ht : t.length = 32) : ∀ i, (tgI k m t p i).length = 32
  | 0 => ht
  | i + 1 => nd_len ..
theorem mt_snoc {k : List UInt8} {m i : Nat} {t : Tg} {p : List (List UInt8)} (h : ∀ j, j < i → mtI k m t p j = true) (hi : mtI k m t p i = true) : ∀ j, j < i + 1 → mtI k m t p j = true := fun j hj => by
  rcases Nat.lt_succ_iff_lt_or_eq.1 hj with h' | rfl
  · exact h j h'
  · exact hi
/-! ## The reference's trees -/
end Go.Kx
/- Own library, part Tk: the examples of trees. -/
set_option linter.unusedSimpArgs false
set_option linter.unusedVariables false
namespace Go.Kx
open Go
theorem all_node {k : List UInt8} {n j : Nat} {lv : List Tg} (h : lv.length ≤ n) (h1 : 1 ≤ j) (h2 : j < n) : gT (allT k n lv) j = nd k j (secA (allT k n lv) j) := (allT_ce h).at_ j h1 h2 (by omega)
section
variable {k a b c d : List UInt8}
theorem pad3 : padL (2 ^ 2) [a, b, c] = [a, b, c, zTg] := rfl
theorem set3 : lvZ (padL (2 ^ 2) [a, b, c]) 2 3 d = [a, b, c, d] := rfl
theorem all_sec2 : secA (allT k (2 ^ 2) [a, b, c, d]) 2 = a ++ b := by
  unfold secA
  rw [show 2 * 2 = 2 ^ 2 + 0 from rfl, show 2 ^ 2 + 0 + 1 = 2 ^ 2 + 1 from rfl, allT_leaf (by simp), allT_leaf (by simp)]
  rfl
theorem all_sec3 : secA (allT k (2 ^ 2) [a, b, c, d]) 3 = c ++ d := by
  unfold secA
  rw [show 2 * 3 = 2 ^ 2 + 2 from rfl, show 2 ^ 2 + 2 + 1 = 2 ^ 2 + 3 from rfl, allT_leaf (by simp), allT_leaf (by simp)]
  rfl
theorem all_2 : gT (allT k (2 ^ 2) [a, b, c, d]) 2 = nd k 2 (a ++ b) := by rw [all_node (by simp) (by decide) (by decide), all_sec2]
theorem all_3 : gT (allT k (2 ^ 2) [a, b, c, d]) 3 = nd k 3 (c ++ d) := by rw [all_node (by simp) (by decide) (by decide), all_sec3]
theorem all_1 : gT (allT k (2 ^ 2) [a, b, c, d]) 1 = nd k 1 (nd k 2 (a ++ b) ++ nd k 3 (c ++ d)) := by
  rw [all_node (by simp) (by decide) (by decide)]
  unfold secA
  rw [show 2 * 1 = 2 from rfl, show 2 + 1 = 3 from rfl, all_2, all_3]
theorem all_leaf {i : Nat} {lv : List Tg} (h : lv.length ≤ 2 ^ 2) : gT (allT k (2 ^ 2) lv) (2 ^ 2 + i) = gT lv i := allT_leaf h
theorem ok31 : ∀ x, x ∈ ([3, 1] : List Nat) → x < 4096 := by intro x hx; simp only [List.mem_cons, List.not_mem_nil, or_false] at hx; omega
theorem path7 : pathL 7 = [3, 1] := by decide
theorem ex_chg (hd : zTg ≠ d) (hne : nd k 3 (c ++ zTg) ≠ nd k 3 (c ++ d)) : chgZ k 2 (padL (2 ^ 2) [a, b, c]) 3 d = [3, 1] := by
  have hz : inN 0 (2 ^ 2) ((3 : Nat) : Int) := by decide
  have e := chgZ_in (k := k) (lv := padL (2 ^ 2) [a, b, c]) (t := d) hz
  have e2 : (padL (2 ^ 2) [a, b, c]).set 3 d = [a, b, c, d] := rfl
  rw [e2, pad3] at e
  rw [pad3]
  refine e.trans ?_
  rw [show 2 ^ 2 + 3 = 7 from rfl, path7]
  have h1 : chg (allT k (2 ^ 2) [a, b, c, zTg]) (allT k (2 ^ 2) [a, b, c, d]) 3 = true := by
    unfold chg
    rw [show 2 * 3 + 1 = 2 ^ 2 + 3 from rfl, all_leaf (by simp), all_leaf (by simp)]
    simp only [Bool.or_eq_true, decide_eq_true_eq]
    exact .inr hd
  have h2 : chg (allT k (2 ^ 2) [a, b, c, zTg]) (allT k (2 ^ 2) [a, b, c, d]) 1 = true := by
    unfold chg
    rw [show 2 * 1 + 1 = 3 from rfl, all_3, all_3]
    simp only [Bool.or_eq_true, decide_eq_true_eq]
    exact .inr hne
  simp only [List.filter_cons, h1, h2, if_true, List.filter_nil]
theorem ex_top (hne : nd k 1 (nd k 2 (a ++ b) ++ nd k 3 (c ++ d)) ≠ nd k 1 (nd k 2 (a ++ b) ++ nd k 3 (c ++ zTg))) : gT (allT k (2 ^ 2) (lvZ (padL (2 ^ 2) [a, b, c]) 2 3 d)) 1 ≠ gT (allT k (2 ^ 2) (padL (2 ^ 2) [a, b, c])) 1 := by
  rw [set3, pad3, all_1, all_1]; exact hne
theorem ex_again (hd : d.length = 32) : chgZ k 2 (lvZ (padL (2 ^ 2) [a, b, c]) 2 3 d) 3 d = [] := by
  have hz : inN 0 (2 ^ 2) ((3 : Nat) : Int) := by decide
  have e := chgZ_in (k := k) (lv := [a, b, c, d]) (t := d) hz
  rw [set3]
  refine e.trans ?_
  rw [show ([a, b, c, d] : List Tg).set 3 d = [a, b, c, d] from rfl]
  exact List.filter_eq_nil_iff.2 fun x _ => by simp [chg_self]
/-- The tree's own proof leads to its top. -/
theorem own_chkZ {h : Nat} {lv : List Tg} {z : Int} (ho : OkTs lv) (hh : 1 ≤ h ∧ h ≤ 12) (hn : lv.length = 2 ^ h) (hz : inN 0 (2 ^ h) z) : chkZ k z (gT lv z.toNat) (proofZ (allT k (2 ^ h) lv) h z) (gT (allT k (2 ^ h) lv) 1) = true := by
  obtain ⟨q, rfl⟩ : ∃ q : Nat, z = (q : Int) := ⟨z.toNat, by omega⟩
  rw [proofZ_in hz, chkZ_in (by simpa using hh) (by rw [ownP_length]; exact hz), ownP_length, show ((q : Int).toNat) = q from rfl, ← allT_leaf (k := k) (n := 2 ^ h) (lv := lv) (i := q) (by omega)]
  exact own_chk ho.all (allT_ce (by omega)) (by omega) (by omega)
theorem proofZ_len {h : Nat} {l : List Tg} {z : Int} (hz : inN 0 (2 ^ h) z) : (proofZ l h z).length = h := by
  unfold proofZ; rw [if_pos hz]; simp
theorem eZ_0 {a b : Nat} {z : Int} (h : inN a b z) : eZ a b z = 0 := eZ_in h
theorem tup2 {x y : List UInt8} {m n : Nat} (h : x = y) (h' : m = n) : Value.tuple #[.agg (bv x).toArray, .int .i64 (m : Int)] = Value.tuple #[.agg (bv y).toArray, .int .i64 (n : Int)] := by rw [h, h']
theorem tupE {v : Value} {m n : Nat} (h' : m = n) : Value.tuple #[v, .int .i64 (m : Int)] = Value.tuple #[v, .int .i64 (n : Int)] := by rw [h']
theorem kt4 : tagZ (allT k (2 ^ 2) (padL (2 ^ 2) [a, b, c])) (2 ^ 2) 4 = a := by
  have h := tagZ_in (l := allT k (2 ^ 2) [a, b, c, zTg]) (n := 2 ^ 2) (q := 4) (by decide)
  rw [pad3]; exact h.trans (all_leaf (i := 0) (by simp))
theorem kt7 : tagZ (allT k (2 ^ 2) (padL (2 ^ 2) [a, b, c])) (2 ^ 2) 7 = List.replicate 32 0 := by
  have h := tagZ_in (l := allT k (2 ^ 2) [a, b, c, zTg]) (n := 2 ^ 2) (q := 7) (by decide)
  rw [pad3]; exact h.trans (all_leaf (i := 3) (by simp))
theorem kt2 : tagZ (allT k (2 ^ 2) (padL (2 ^ 2) [a, b, c])) (2 ^ 2) 2 = nd k 2 (a ++ b) := by
  have h := tagZ_in (l := allT k (2 ^ 2) [a, b, c, zTg]) (n := 2 ^ 2) (q := 2) (by decide)
  rw [pad3]; exact h.trans all_2
theorem kt3 : tagZ (allT k (2 ^ 2) (padL (2 ^ 2) [a, b, c])) (2 ^ 2) 3 = nd k 3 (c ++ List.replicate 32 0) := by
  have h := tagZ_in (l := allT k (2 ^ 2) [a, b, c, zTg]) (n := 2 ^ 2) (q := 3) (by decide)
  rw [pad3]; exact h.trans all_3
theorem kn3 : nodeZ (allT k (2 ^ 2) (padL (2 ^ 2) [a, b, c])) (2 ^ 2) 3 = c ++ List.replicate 32 0 := by
  have h := nodeZ_in (l := allT k (2 ^ 2) [a, b, c, zTg]) (n := 2 ^ 2) (q := 3) (by decide)
  rw [pad3]; exact h.trans all_sec3
theorem ktop : gT (allT k (2 ^ 2) (padL (2 ^ 2) [a, b, c])) 1 = nd k 1 (nd k 2 (a ++ b) ++ nd k 3 (c ++ List.replicate 32 0)) := by
  rw [pad3]; exact all_1
theorem kp23 : pathZ 2 3 = [3, 1] := by
  have h := pathZ_in (h := 2) (q := 3) (by decide) (by decide)
  exact h.trans path7
end
theorem w_a : nd [1, 0, 0, 0, 0, 0, 0, 0, 0, 0, 0, 0, 0, 0, 0, 0, 0, 0, 0, 0, 0, 0, 0, 0, 0, 0, 0, 0, 0, 0, 0, 0] 2 ([1, 0, 0, 0, 0, 0, 0, 0, 0, 0, 0, 0, 0, 0, 0, 0, 0, 0, 0, 0, 0, 0, 0, 0, 0, 0, 0, 0, 0, 0, 0, 0] ++ [2, 0, 0, 0, 0, 0, 0, 0, 0, 0, 0, 0, 0, 0, 0, 0, 0, 0, 0, 0, 0, 0, 0, 0, 0, 0, 0, 0, 0, 0, 0, 0]) = [71, 162, 57, 173, 106, 65, 54, 33, 1, 9, 200, 100, 138, 108, 206, 97, 151, 22, 217, 41, 218, 255, 78, 124, 96, 82, 212, 202, 111, 151, 69, 4] := by decide +kernel
theorem w_bo : nd [1, 0, 0, 0, 0, 0, 0, 0, 0, 0, 0, 0, 0, 0, 0, 0, 0, 0, 0, 0, 0, 0, 0, 0, 0, 0, 0, 0, 0, 0, 0, 0] 3 ([3, 0, 0, 0, 0, 0, 0, 0, 0, 0, 0, 0, 0, 0, 0, 0, 0, 0, 0, 0, 0, 0, 0, 0, 0, 0, 0, 0, 0, 0, 0, 0] ++ zTg) = [15, 109, 179, 45, 117, 190, 200, 133, 81, 188, 224, 237, 5, 66, 218, 43, 177, 218, 38, 236, 157, 84, 47, 159, 106, 39, 182, 109, 31, 189, 212, 174] := by decide +kernel
theorem w_bn : nd [1, 0, 0, 0, 0, 0, 0, 0, 0, 0, 0, 0, 0, 0, 0, 0, 0, 0, 0, 0, 0, 0, 0, 0, 0, 0, 0, 0, 0, 0, 0, 0] 3 ([3, 0, 0, 0, 0, 0, 0, 0, 0, 0, 0, 0, 0, 0, 0, 0, 0, 0, 0, 0, 0, 0, 0, 0, 0, 0, 0, 0, 0, 0, 0, 0] ++ [4, 0, 0, 0, 0, 0, 0, 0, 0, 0, 0, 0, 0, 0, 0, 0, 0, 0, 0, 0, 0, 0, 0, 0, 0, 0, 0, 0, 0, 0, 0, 0]) = [184, 230, 106, 68, 124, 16, 225, 75, 141, 70, 217, 215, 220, 170, 124, 138, 39, 219, 94, 18, 37, 162, 3, 199, 13, 250, 242, 92, 129, 16, 246, 85] := by decide +kernel
theorem w_to : nd [1, 0, 0, 0, 0, 0, 0, 0, 0, 0, 0, 0, 0, 0, 0, 0, 0, 0, 0, 0, 0, 0, 0, 0, 0, 0, 0, 0, 0, 0, 0, 0] 1 ([71, 162, 57, 173, 106, 65, 54, 33, 1, 9, 200, 100, 138, 108, 206, 97, 151, 22, 217, 41, 218, 255, 78, 124, 96, 82, 212, 202, 111, 151, 69, 4] ++ [15, 109, 179, 45, 117, 190, 200, 133, 81, 188, 224, 237, 5, 66, 218, 43, 177, 218, 38, 236, 157, 84, 47, 159, 106, 39, 182, 109, 31, 189, 212, 174]) = [244, 15, 32, 46, 41, 131, 198, 77, 46, 197, 233, 209, 129, 227, 201, 105, 87, 116, 169, 201, 26, 99, 208, 208, 150, 182, 188, 80, 169, 233, 240, 228] := by decide +kernel
theorem w_tn : nd [1, 0, 0, 0, 0, 0, 0, 0, 0, 0, 0, 0, 0, 0, 0, 0, 0, 0, 0, 0, 0, 0, 0, 0, 0, 0, 0, 0, 0, 0, 0, 0] 1 ([71, 162, 57, 173, 106, 65, 54, 33, 1, 9, 200, 100, 138, 108, 206, 97, 151, 22, 217, 41, 218, 255, 78, 124, 96, 82, 212, 202, 111, 151, 69, 4] ++ [184, 230, 106, 68, 124, 16, 225, 75, 141, 70, 217, 215, 220, 170, 124, 138, 39, 219, 94, 18, 37, 162, 3, 199, 13, 250, 242, 92, 129, 16, 246, 85]) = [80, 202, 20, 206, 197, 127, 203, 138, 65, 109, 38, 38, 243, 78, 132, 71, 77, 15, 144, 207, 21, 105, 63, 219, 181, 222, 132, 156, 252, 183, 201, 52] := by decide +kernel
theorem k_o : nd [9, 0, 0, 0, 0, 0, 0, 0, 0, 0, 0, 0, 0, 0, 0, 0, 0, 0, 0, 0, 0, 0, 0, 0, 0, 0, 0, 0, 0, 0, 0, 0] 3 ([3, 0, 0, 0, 0, 0, 0, 0, 0, 0, 0, 0, 0, 0, 0, 0, 0, 0, 0, 0, 0, 0, 0, 0, 0, 0, 0, 0, 0, 0, 0, 0] ++ zTg) = [139, 114, 140, 14, 34, 126, 29, 134, 92, 134, 135, 154, 223, 207, 7, 170, 112, 89, 77, 161, 149, 40, 13, 185, 64, 138, 21, 241, 33, 38, 229, 145] := by decide +kernel
theorem k_n : nd [9, 0, 0, 0, 0, 0, 0, 0, 0, 0, 0, 0, 0, 0, 0, 0, 0, 0, 0, 0, 0, 0, 0, 0, 0, 0, 0, 0, 0, 0, 0, 0] 3 ([3, 0, 0, 0, 0, 0, 0, 0, 0, 0, 0, 0, 0, 0, 0, 0, 0, 0, 0, 0, 0, 0, 0, 0, 0, 0, 0, 0, 0, 0, 0, 0] ++ [4, 0, 0, 0, 0, 0, 0, 0, 0, 0, 0, 0, 0, 0, 0, 0, 0, 0, 0, 0, 0, 0, 0, 0, 0, 0, 0, 0, 0, 0, 0, 0]) = [55, 226, 9, 186, 0, 243, 115, 158, 61, 71, 246, 241, 21, 67, 60, 180, 35, 39, 10, 112, 173, 56, 215, 202, 98, 235, 148, 134, 64, 185, 177, 57] := by decide +kernel
theorem wk_chg : chgZ [1, 0, 0, 0, 0, 0, 0, 0, 0, 0, 0, 0, 0, 0, 0, 0, 0, 0, 0, 0, 0, 0, 0, 0, 0, 0, 0, 0, 0, 0, 0, 0] 2 (padL (2 ^ 2) [[1, 0, 0, 0, 0, 0, 0, 0, 0, 0, 0, 0, 0, 0, 0, 0, 0, 0, 0, 0, 0, 0, 0, 0, 0, 0, 0, 0, 0, 0, 0, 0], [2, 0, 0, 0, 0, 0, 0, 0, 0, 0, 0, 0, 0, 0, 0, 0, 0, 0, 0, 0, 0, 0, 0, 0, 0, 0, 0, 0, 0, 0, 0, 0], [3, 0, 0, 0, 0, 0, 0, 0, 0, 0, 0, 0, 0, 0, 0, 0, 0, 0, 0, 0, 0, 0, 0, 0, 0, 0, 0, 0, 0, 0, 0, 0]]) 3 [4, 0, 0, 0, 0, 0, 0, 0, 0, 0, 0, 0, 0, 0, 0, 0, 0, 0, 0, 0, 0, 0, 0, 0, 0, 0, 0, 0, 0, 0, 0, 0] = [3, 1] := ex_chg (by decide) (by rw [w_bo, w_bn]; decide)
theorem wk_top : gT (allT [1, 0, 0, 0, 0, 0, 0, 0, 0, 0, 0, 0, 0, 0, 0, 0, 0, 0, 0, 0, 0, 0, 0, 0, 0, 0, 0, 0, 0, 0, 0, 0] (2 ^ 2) (lvZ (padL (2 ^ 2) [[1, 0, 0, 0, 0, 0, 0, 0, 0, 0, 0, 0, 0, 0, 0, 0, 0, 0, 0, 0, 0, 0, 0, 0, 0, 0, 0, 0, 0, 0, 0, 0], [2, 0, 0, 0, 0, 0, 0, 0, 0, 0, 0, 0, 0, 0, 0, 0, 0, 0, 0, 0, 0, 0, 0, 0, 0, 0, 0, 0, 0, 0, 0, 0], [3, 0, 0, 0, 0, 0, 0, 0, 0, 0, 0, 0, 0, 0, 0, 0, 0, 0, 0, 0, 0, 0, 0, 0, 0, 0, 0, 0, 0, 0, 0, 0]]) 2 3 [4, 0, 0, 0, 0, 0, 0, 0, 0, 0, 0, 0, 0, 0, 0, 0, 0, 0, 0, 0, 0, 0, 0, 0, 0, 0, 0, 0, 0, 0, 0, 0])) 1 ≠ gT (allT [1, 0, 0, 0, 0, 0, 0, 0, 0, 0, 0, 0, 0, 0, 0, 0, 0, 0, 0, 0, 0, 0, 0, 0, 0, 0, 0, 0, 0, 0, 0, 0] (2 ^ 2) (padL (2 ^ 2) [[1, 0, 0, 0, 0, 0, 0, 0, 0, 0, 0, 0, 0, 0, 0, 0, 0, 0, 0, 0, 0, 0, 0, 0, 0, 0, 0, 0, 0, 0, 0, 0], [2, 0, 0, 0, 0, 0, 0, 0, 0, 0, 0, 0, 0, 0, 0, 0, 0, 0, 0, 0, 0, 0, 0, 0, 0, 0, 0, 0, 0, 0, 0, 0], [3, 0, 0, 0, 0, 0, 0, 0, 0, 0, 0, 0, 0, 0, 0, 0, 0, 0, 0, 0, 0, 0, 0, 0, 0, 0, 0, 0, 0, 0, 0, 0]])) 1 := ex_top (by rw [w_a, w_bn, w_tn, w_bo, w_to]; decide)
theorem wk_prf : (proofZ (allT [1, 0, 0, 0, 0, 0, 0, 0, 0, 0, 0, 0, 0, 0, 0, 0, 0, 0, 0, 0, 0, 0, 0, 0, 0, 0, 0, 0, 0, 0, 0, 0] (2 ^ 2) (lvZ (padL (2 ^ 2) [[1, 0, 0, 0, 0, 0, 0, 0, 0, 0, 0, 0, 0, 0, 0, 0, 0, 0, 0, 0, 0, 0, 0, 0, 0, 0, 0, 0, 0, 0, 0, 0], [2, 0, 0, 0, 0, 0, 0, 0, 0, 0, 0, 0, 0, 0, 0, 0, 0, 0, 0, 0, 0, 0, 0, 0, 0, 0, 0, 0, 0, 0, 0, 0], [3, 0, 0, 0, 0, 0, 0, 0, 0, 0, 0, 0, 0, 0, 0, 0, 0, 0, 0, 0, 0, 0, 0, 0, 0, 0, 0, 0, 0, 0, 0, 0]]) 2 3 [4, 0, 0, 0, 0, 0, 0, 0, 0, 0, 0, 0, 0, 0, 0, 0, 0, 0, 0, 0, 0, 0, 0, 0, 0, 0, 0, 0, 0, 0, 0, 0])) 2 3).length = 2 := proofZ_len (by decide)
theorem wk_chk : chkZ [1, 0, 0, 0, 0, 0, 0, 0, 0, 0, 0, 0, 0, 0, 0, 0, 0, 0, 0, 0, 0, 0, 0, 0, 0, 0, 0, 0, 0, 0, 0, 0] 3 [4, 0, 0, 0, 0, 0, 0, 0, 0, 0, 0, 0, 0, 0, 0, 0, 0, 0, 0, 0, 0, 0, 0, 0, 0, 0, 0, 0, 0, 0, 0, 0] (proofZ (allT [1, 0, 0, 0, 0, 0, 0, 0, 0, 0, 0, 0, 0, 0, 0, 0, 0, 0, 0, 0, 0, 0, 0, 0, 0, 0, 0, 0, 0, 0, 0, 0] (2 ^ 2) (lvZ (padL (2 ^ 2) [[1, 0, 0, 0, 0, 0, 0, 0, 0, 0, 0, 0, 0, 0, 0, 0, 0, 0, 0, 0, 0, 0, 0, 0, 0, 0, 0, 0, 0, 0, 0, 0], [2, 0, 0, 0, 0, 0, 0, 0, 0, 0, 0, 0, 0, 0, 0, 0, 0, 0, 0, 0, 0, 0, 0, 0, 0, 0, 0, 0, 0, 0, 0, 0], [3, 0, 0, 0, 0, 0, 0, 0, 0, 0, 0, 0, 0, 0, 0, 0, 0, 0, 0, 0, 0, 0, 0, 0, 0, 0, 0, 0, 0, 0, 0, 0]]) 2 3 [4, 0, 0, 0, 0, 0, 0, 0, 0, 0, 0, 0, 0, 0, 0, 0, 0, 0, 0, 0, 0, 0, 0, 0, 0, 0, 0, 0, 0, 0, 0, 0])) 2 3) (gT (allT [1, 0, 0, 0, 0, 0, 0, 0, 0, 0, 0, 0, 0, 0, 0, 0, 0, 0, 0, 0, 0, 0, 0, 0, 0, 0, 0, 0, 0, 0, 0, 0] (2 ^ 2) (lvZ (padL (2 ^ 2) [[1, 0, 0, 0, 0, 0, 0, 0, 0, 0, 0, 0, 0, 0, 0, 0, 0, 0, 0, 0, 0, 0, 0, 0, 0, 0, 0, 0, 0, 0, 0, 0], [2, 0, 0, 0, 0, 0, 0, 0, 0, 0, 0, 0, 0, 0, 0, 0, 0, 0, 0, 0, 0, 0, 0, 0, 0, 0, 0, 0, 0, 0, 0, 0], [3, 0, 0, 0, 0, 0, 0, 0, 0, 0, 0, 0, 0, 0, 0, 0, 0, 0, 0, 0, 0, 0, 0, 0, 0, 0, 0, 0, 0, 0, 0, 0]]) 2 3 [4, 0, 0, 0, 0, 0, 0, 0, 0, 0, 0, 0, 0, 0, 0, 0, 0, 0, 0, 0, 0, 0, 0, 0, 0, 0, 0, 0, 0, 0, 0, 0])) 1) = true := own_chkZ (z := 3) (lv := (lvZ (padL (2 ^ 2) [[1, 0, 0, 0, 0, 0, 0, 0, 0, 0, 0, 0, 0, 0, 0, 0, 0, 0, 0, 0, 0, 0, 0, 0, 0, 0, 0, 0, 0, 0, 0, 0], [2, 0, 0, 0, 0, 0, 0, 0, 0, 0, 0, 0, 0, 0, 0, 0, 0, 0, 0, 0, 0, 0, 0, 0, 0, 0, 0, 0, 0, 0, 0, 0], [3, 0, 0, 0, 0, 0, 0, 0, 0, 0, 0, 0, 0, 0, 0, 0, 0, 0, 0, 0, 0, 0, 0, 0, 0, 0, 0, 0, 0, 0, 0, 0]]) 2 3 [4, 0, 0, 0, 0, 0, 0, 0, 0, 0, 0, 0, 0, 0, 0, 0, 0, 0, 0, 0, 0, 0, 0, 0, 0, 0, 0, 0, 0, 0, 0, 0])) (by rw [set3]; intro t ht; simp only [List.mem_cons, List.not_mem_nil, or_false] at ht; rcases ht with rfl | rfl | rfl | rfl <;> rfl) (by decide) rfl (by decide)
theorem kn_chg : chgZ [9, 0, 0, 0, 0, 0, 0, 0, 0, 0, 0, 0, 0, 0, 0, 0, 0, 0, 0, 0, 0, 0, 0, 0, 0, 0, 0, 0, 0, 0, 0, 0] 2 (padL (2 ^ 2) [[1, 0, 0, 0, 0, 0, 0, 0, 0, 0, 0, 0, 0, 0, 0, 0, 0, 0, 0, 0, 0, 0, 0, 0, 0, 0, 0, 0, 0, 0, 0, 0], [2, 0, 0, 0, 0, 0, 0, 0, 0, 0, 0, 0, 0, 0, 0, 0, 0, 0, 0, 0, 0, 0, 0, 0, 0, 0, 0, 0, 0, 0, 0, 0], [3, 0, 0, 0, 0, 0, 0, 0, 0, 0, 0, 0, 0, 0, 0, 0, 0, 0, 0, 0, 0, 0, 0, 0, 0, 0, 0, 0, 0, 0, 0, 0]]) 3 [4, 0, 0, 0, 0, 0, 0, 0, 0, 0, 0, 0, 0, 0, 0, 0, 0, 0, 0, 0, 0, 0, 0, 0, 0, 0, 0, 0, 0, 0, 0, 0] = [3, 1] := ex_chg (by decide) (by rw [k_o, k_n]; decide)
end Go.Kx
/- Own library, part Td: what the laws of trees do, act by act. -/
set_option linter.unusedSimpArgs false
set_option linter.unusedVariables false
namespace Go.Kx
open Go
/-! ## What comes in -/
section
variable {P : Program} {W : World}
end
end Go.Kx
/- Own library, part Tv: what the laws of proofs and of unlike trees need. -/
set_option linter.unusedSimpArgs false
set_option linter.unusedVariables false
namespace Go.Kx
open Go
section
variable {k : List UInt8} {h q : Nat} {lv : List Tg} {ps : List (List UInt8)} {tg : Tg}
/-! ## Two trees of which one leaf is unlike -/
end
/-! ## The reference -/
end Go.Kx
