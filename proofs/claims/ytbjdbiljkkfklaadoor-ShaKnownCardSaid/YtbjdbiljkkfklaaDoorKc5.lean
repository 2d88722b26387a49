/- Own library: parts KxSd. -/
import Derived.Test.YtbjdbiljkkfklaaDoorKc4
import Derived.Stop.LaidErr
set_option linter.unusedSimpArgs false
set_option linter.unusedVariables false
/- Own library, part Sd: digests spelt, in plain Lean; prefixes that may be none. -/
set_option linter.unusedSimpArgs false
namespace Go.Kx
open Go

/-! ## Digits -/
def deB64 : List Int := [0, 1, 56, 2, 57, 49, 28, 3, 61, 58, 42, 50, 38, 29, 17, 4, 62, 47, 59, 36, 45, 43, 51, 22, 53, 39, 33, 30, 24, 18, 12, 5, 63, 55, 48, 27, 60, 41, 37, 16, 46, 35, 44, 21, 52, 32, 23, 11, 54, 26, 40, 15, 34, 20, 31, 10, 25, 14, 19, 9, 13, 8, 7, 6]
theorem Ent.stay {e : Ent} {w w' : World} {H : List Ent} (h : e.holds w) (hM : Mem w [] w' H) : e.holds w' := e.loc w w' h fun b hb => hM.frame b (e.old w h b hb) (by simp)
theorem bld_lt {T e B b : Nat} {bs : List Value} {w : World} (h : Lib.IsBuilderF T e B b bs w) : b < w.heap.size := h.elim (fun x => x.lt) (fun x => x.lt)
def digL : List UInt8 := [48, 49, 50, 51, 52, 53, 54, 55, 56, 57, 97, 98, 99, 100, 101, 102, 103, 104, 105, 106, 107, 108, 109, 110, 111, 112, 113, 114, 115, 116, 117, 118, 119, 120, 121, 122]
def fmt3 (n : Nat) : List UInt8 := [digL.getD (n / 2 ^ 4 / 2 ^ 4) 0, digL.getD (n / 2 ^ 4 % 2 ^ 4) 0, digL.getD (n % 2 ^ 4) 0]
theorem fmt3_tail (c : UInt8) : (fmt3 (c.toNat + 256)).drop 1 = [hexD.getD (c.toNat / 16) 0, hexD.getD (c.toNat % 16) 0] := by
  have hc := c.toNat_lt
  have e1 : (c.toNat + 256) / 2 ^ 4 % 2 ^ 4 = c.toNat / 16 := by omega
  have e2 : (c.toNat + 256) % 2 ^ 4 = c.toNat % 16 := by omega
  have key : ∀ k, k < 16 → digL.getD k 0 = hexD.getD k 0 := by decide
  show [digL.getD ((c.toNat + 256) / 2 ^ 4 % 2 ^ 4) 0, digL.getD ((c.toNat + 256) % 2 ^ 4) 0] = _
  rw [e1, e2, key _ (by omega), key _ (by omega)]
theorem bld_hex {T e B b : Nat} {t : List UInt8} {i : Nat} {w : World} (hi : i < t.length) (h : Lib.IsBuilderF T e B b (Lib.byteCells (hexL (t.take i)) ++ Lib.strCells (str ((fmt3 ((t.getD i 0).toNat + 256)).drop 1))) w) : Lib.IsBuilderF T e B b (Lib.byteCells (hexL (t.take (i + 1)))) w := by
  rw [hexL_succ hi, ← fmt3_tail, Lib.byteCells_append]; exact h
/-- What a digit of base 36 counts; 255: it is none. -/
def dg (c : UInt8) : UInt8 := if 48 ≤ c.toNat ∧ c.toNat ≤ 57 then c - 48 else if 97 ≤ (c ||| 32).toNat ∧ (c ||| 32).toNat ≤ 122 then (c ||| 32) - 97 + 10 else 255
theorem dg_cases (c : UInt8) : ((48 ≤ c.toNat ∧ c.toNat ≤ 57) ∧ dg c = c - 48 ∧ (c - 48).toNat < 16) ∨ (57 < c.toNat ∧ ¬ c.toNat = 95 ∧ (97 ≤ (c ||| 32).toNat ∧ (c ||| 32).toNat ≤ 122) ∧ dg c = (c ||| 32) - 97 + 10) ∨
    (c.toNat < 48 ∧ (c ||| 32).toNat < 97 ∧ ¬ (dg c).toNat < 16) ∨ ((57 < c.toNat ∧ ¬ c.toNat = 95) ∧ (c ||| 32).toNat < 97 ∧ ¬ (dg c).toNat < 16) ∨ ((57 < c.toNat ∧ ¬ c.toNat = 95) ∧ 122 < (c ||| 32).toNat ∧ ¬ (dg c).toNat < 16) ∨ (c.toNat = 95 ∧ 122 < (c ||| 32).toNat ∧ ¬ (dg c).toNat < 16) := by
  have key : ∀ n : Fin 256, ((48 ≤ n.val ∧ n.val ≤ 57) ∧ dg (UInt8.ofNat n) = UInt8.ofNat n - 48 ∧ (UInt8.ofNat n - 48).toNat < 16) ∨ (57 < n.val ∧ ¬ n.val = 95 ∧ (97 ≤ (UInt8.ofNat n ||| 32).toNat ∧ (UInt8.ofNat n ||| 32).toNat ≤ 122) ∧ dg (UInt8.ofNat n) = (UInt8.ofNat n ||| 32) - 97 + 10) ∨
    (n.val < 48 ∧ (UInt8.ofNat n ||| 32).toNat < 97 ∧ ¬ (dg (UInt8.ofNat n)).toNat < 16) ∨ ((57 < n.val ∧ ¬ n.val = 95) ∧ (UInt8.ofNat n ||| 32).toNat < 97 ∧ ¬ (dg (UInt8.ofNat n)).toNat < 16) ∨ ((57 < n.val ∧ ¬ n.val = 95) ∧ 122 < (UInt8.ofNat n ||| 32).toNat ∧ ¬ (dg (UInt8.ofNat n)).toNat < 16) ∨ (n.val = 95 ∧ 122 < (UInt8.ofNat n ||| 32).toNat ∧ ¬ (dg (UInt8.ofNat n)).toNat < 16) := by decide +kernel
  have h := key ⟨c.toNat, c.toNat_lt⟩
  simp only [UInt8.ofNat_toNat] at h
  exact h
def puB (c d : UInt8) : Bool := decide ((dg c).toNat < 16) && decide ((dg d).toNat < 16)
def puV (c d : UInt8) : Nat := if puB c d then 16 * (dg c).toNat + (dg d).toNat else 0
/-- The inner error: none, or a syntax error. -/
def puI (t : TypeId) (c d : UInt8) : Value := if puB c d then .nilIface else .iface t (.int .i64 2)
theorem puV_lt (c d : UInt8) : puV c d < 256 := by
  unfold puV; split
  · rename_i h; simp [puB] at h; omega
  · omega
theorem pu_ok {c d : UInt8} (h1 : (dg c).toNat < 16) (h2 : (dg d).toNat < 16) (t : TypeId) : puV c d = 16 * (dg c).toNat + (dg d).toNat ∧ puI t c d = .nilIface := by
  have e : puB c d = true := by simp [puB, h1, h2]
  rw [puV, puI, if_pos e, if_pos e]; exact ⟨rfl, rfl⟩
theorem pu_no1 {c d : UInt8} (h1 : ¬ (dg c).toNat < 16) (t : TypeId) : puV c d = 0 ∧ puI t c d = .iface t (.int .i64 2) := by
  have e : ¬ puB c d = true := by simp [puB, h1]
  rw [puV, puI, if_neg e, if_neg e]; exact ⟨rfl, rfl⟩
theorem pu_no2 {c d : UInt8} (h1 : ¬ (dg d).toNat < 16) (t : TypeId) : puV c d = 0 ∧ puI t c d = .iface t (.int .i64 2) := by
  have e : ¬ puB c d = true := by simp [puB, h1]
  rw [puV, puI, if_neg e, if_neg e]; exact ⟨rfl, rfl⟩
def hdg (c : UInt8) : UInt8 := if 97 ≤ c.toNat ∧ c.toNat ≤ 102 then c - 97 + 10 else if 48 ≤ c.toNat ∧ c.toNat ≤ 57 then c - 48 else 99

/-! ## The program's way -/
def okP (s : List UInt8) (i : Nat) : Prop := ∀ k, k < i → puB (s.getD (2 * k) 0) (s.getD (2 * k + 1) 0) = true
def decP (s : List UInt8) : Nat → List UInt8
  | 0 => List.replicate 32 0
  | i + 1 => (decP s i).set i (UInt8.ofNat (puV (s.getD (2 * i) 0) (s.getD (2 * i + 1) 0)))
theorem decP_len (s : List UInt8) : ∀ i, (decP s i).length = 32
  | 0 => by simp [decP]
  | i + 1 => by simp [decP, decP_len s i]
theorem okP_zero {s : List UInt8} : okP s 0 := fun _ hk => absurd hk (Nat.not_lt_zero _)
theorem okP_succ {s : List UInt8} {i : Nat} (h : okP s i) (e : puB (s.getD (2 * i) 0) (s.getD (2 * i + 1) 0) = true) : okP s (i + 1) := fun k hk => by
  by_cases hki : k = i
  · subst hki; exact e
  · exact h k (by omega)
open Classical in
/-- Which digest a text spells, and whether it spells one. -/
noncomputable def ofT (s : List UInt8) : List UInt8 × Bool := if s.length = 64 ∧ okP s 32 ∧ hexL (decP s 32) = s then (decP s 32, true) else (List.replicate 32 0, false)

/-! ## The reference's way -/
def okR (s : List UInt8) (i : Nat) : Prop := ∀ k, k < i → ¬ hdg (s.getD k 0) = 99
def decR (s : List UInt8) : Nat → List UInt8
  | 0 => List.replicate 32 0
  | i + 1 => (decR s i).set (i / 2) (16 * (decR s i).getD (i / 2) 0 + hdg (s.getD i 0))
theorem decR_len (s : List UInt8) : ∀ i, (decR s i).length = 32
  | 0 => by simp [decR]
  | i + 1 => by simp [decR, decR_len s i]
def hexI (t : List UInt8) : Nat → List UInt8
  | 0 => []
  | i + 1 => hexI t i ++ [hexD.getD (if i % 2 = 1 then (t.getD (i / 2) 0).toNat % 16 else (t.getD (i / 2) 0).toNat / 16) 0]
@[simp] theorem hexI_len (t : List UInt8) : ∀ i, (hexI t i).length = i
  | 0 => rfl
  | i + 1 => by simp [hexI, hexI_len t i]
/-! ## Both are alike -/
theorem pair_ok {a b : UInt8} (h1 : ¬ hdg a = 99) (h2 : ¬ hdg b = 99) : puB a b = true ∧ UInt8.ofNat (puV a b) = 16 * (16 * 0 + hdg a) + hdg b ∧ hexD.getD (puV a b / 16) 0 = a ∧ hexD.getD (puV a b % 16) 0 = b := by
  have key : ∀ n : Fin 256, ¬ hdg (UInt8.ofNat n) = 99 → (dg (UInt8.ofNat n)).toNat < 16 ∧ dg (UInt8.ofNat n) = hdg (UInt8.ofNat n) ∧ hexD.getD (dg (UInt8.ofNat n)).toNat 0 = UInt8.ofNat n := by decide +kernel
  have ka := key ⟨a.toNat, a.toNat_lt⟩
  have kb := key ⟨b.toNat, b.toNat_lt⟩
  simp only [UInt8.ofNat_toNat] at ka kb
  obtain ⟨a1, a2, a3⟩ := ka h1
  obtain ⟨b1, b2, b3⟩ := kb h2
  have e : puB a b = true := by simp [puB, a1, b1]
  have e2 : puV a b = 16 * (dg a).toNat + (dg b).toNat := by rw [puV, if_pos e]
  refine ⟨e, ?_, ?_, ?_⟩
  · rw [e2, ← a2, ← b2]
    apply UInt8.toNat_inj.1
    simp [UInt8.toNat_add, UInt8.toNat_mul]
  · rw [e2, show (16 * (dg a).toNat + (dg b).toNat) / 16 = (dg a).toNat by omega, a3]
  · rw [e2, show (16 * (dg a).toNat + (dg b).toNat) % 16 = (dg b).toNat by omega, b3]
theorem hex_hv (k : Nat) (h : k < 16) : ¬ hdg (hexD.getD k 0) = 99 := by
  have key : ∀ k : Fin 16, ¬ hdg (hexD.getD k.val 0) = 99 := by decide
  exact key ⟨k, h⟩
theorem hexL_get {t : List UInt8} : ∀ {k : Nat}, k < 2 * t.length → ¬ hdg ((hexL t).getD k 0) = 99 := by
  induction t with
  | nil => intro k h; simp at h
  | cons c r ih =>
    intro k h
    have hc := c.toNat_lt
    have e : hexL (c :: r) = hexD.getD (c.toNat / 16) 0 :: hexD.getD (c.toNat % 16) 0 :: hexL r := by simp [hexL]
    rw [e]
    match k with
    | 0 => exact hex_hv _ (by omega)
    | 1 => exact hex_hv _ (by omega)
    | k + 2 =>
      simp only [List.getD_cons_succ]
      exact ih (by simp at h; omega)
theorem decR_zero_above (s : List UInt8) : ∀ i j, i ≤ 2 * j → (decR s i).getD j 0 = 0
  | 0, j, _ => by
    rw [decR, List.getD, List.getElem?_replicate]
    split <;> rfl
  | i + 1, j, h => by
    rw [decR]
    have hij : ¬ i / 2 = j := by omega
    rw [List.getD, List.getElem?_set_ne hij]
    exact decR_zero_above s i j (by omega)
theorem dec_same {s : List UInt8} : ∀ i, i ≤ 32 → okR s (2 * i) → okP s i ∧ decP s i = decR s (2 * i)
  | 0, _, _ => ⟨okP_zero, rfl⟩
  | i + 1, h, ho => by
    obtain ⟨h1, h2⟩ := dec_same i (by omega) (fun k hk => ho k (by omega))
    obtain ⟨p1, p2, _, _⟩ := pair_ok (ho (2 * i) (by omega)) (ho (2 * i + 1) (by omega))
    refine ⟨okP_succ h1 p1, ?_⟩
    have e1 : (2 * i + 1) / 2 = i := by omega
    have e3 : 2 * i / 2 = i := by omega
    have hz := decR_zero_above s (2 * i) i (Nat.le_refl _)
    have hl := decR_len s (2 * i)
    rw [decP, h2, show 2 * (i + 1) = 2 * i + 1 + 1 by omega, decR, decR, e1, e3, p2, hz, List.set_set]
    congr 2
    simp [List.getD, hl, show i < 32 by omega]
theorem hex_dec {s : List UInt8} : ∀ i, i ≤ 32 → 2 * i ≤ s.length → okR s (2 * i) → hexL ((decP s i).take i) = s.take (2 * i)
  | 0, _, _, _ => by simp [hexL]
  | i + 1, h, hs, ho => by
    have ih := hex_dec i (by omega) (by omega) (fun k hk => ho k (by omega))
    obtain ⟨_, _, p3, p4⟩ := pair_ok (ho (2 * i) (by omega)) (ho (2 * i + 1) (by omega))
    have hl := decP_len s i
    have hlt := puV_lt (s.getD (2 * i) 0) (s.getD (2 * i + 1) 0)
    have e : (UInt8.ofNat (puV (s.getD (2 * i) 0) (s.getD (2 * i + 1) 0))).toNat = puV (s.getD (2 * i) 0) (s.getD (2 * i + 1) 0) := UInt8.toNat_ofNat_of_lt' hlt
    have hg : (decP s (i + 1)).getD i 0 = UInt8.ofNat (puV (s.getD (2 * i) 0) (s.getD (2 * i + 1) 0)) := by
      rw [decP]; simp [List.getD, hl, show i < 32 by omega]
    have ht : (decP s (i + 1)).take i = (decP s i).take i := by
      rw [decP, List.take_set_of_le (Nat.le_refl i)]
    rw [hexL_succ (by rw [decP_len]; omega), hg, e, p3, p4, ht, ih, show 2 * (i + 1) = 2 * i + 1 + 1 by omega, take_snoc (show 2 * i + 1 < s.length by omega), take_snoc (show 2 * i < s.length by omega)]
    simp
open Classical in
theorem ofT_ref (s : List UInt8) : ofT s = if s.length = 64 ∧ okR s 64 then (decR s 64, true) else (List.replicate 32 0, false) := by
  unfold ofT
  by_cases hs : s.length = 64
  · by_cases ho : okR s 64
    · obtain ⟨h1, h2⟩ := dec_same (s := s) 32 (Nat.le_refl _) ho
      have h3 := hex_dec (s := s) 32 (Nat.le_refl _) (by omega) ho
      rw [List.take_of_length_le (by rw [decP_len]; omega), List.take_of_length_le (by omega)] at h3
      rw [if_pos ⟨hs, h1, h3⟩, if_pos ⟨hs, ho⟩, h2]
    · have hB : ¬ (s.length = 64 ∧ okR s 64) := fun h => ho h.2
      have hA : ¬ (s.length = 64 ∧ okP s 32 ∧ hexL (decP s 32) = s) := by
        rintro ⟨_, _, h⟩
        apply ho
        intro k hk
        rw [← h]
        exact hexL_get (by rw [decP_len]; omega)
      rw [if_neg hA, if_neg hB]
  · have hB : ¬ (s.length = 64 ∧ okR s 64) := fun h => hs h.1
    have hA : ¬ (s.length = 64 ∧ okP s 32 ∧ hexL (decP s 32) = s) := fun h => hs h.1
    rw [if_neg hA, if_neg hB]
theorem ofT_len (s : List UInt8) : (ofT s).1.length = 32 := by
  unfold ofT; split
  · rw [decP_len]
  · rw [List.length_replicate]
/-! ## Errors of the library's that a variable holds -/
def errE (g : Nat) : Ent where
  fp := []
  ro := [g]
  holds w := ∃ t p, w.cell? ⟨g, 0, none⟩ = some (.iface t p)
  loc w w' h hb := by
    obtain ⟨t, p, h⟩ := h
    have e := hb g (.inr (.head _))
    refine ⟨t, p, ?_⟩
    rw [← h]
    unfold World.cell?
    simp only [e]
  old w h b hb := by
    obtain ⟨t, p, h⟩ := h
    simp at hb
    subst hb
    exact World.block_lt_of_cell? w _ h
theorem err_of_laid {P : Program} {n nm : String} {text : List UInt8} {r : List (String × DataW Unit)} {W : World} {g : Nat} {ti tp te ts : TypeId} {ms : Array (String × TypeId)} {f : Field}
    (h : laidMet P ((n, .iface nm (.ptr (.agg [.lit (.string text)]))) :: r) W) (hg : P.globalNamed n = some g) (ht : (P.globals[g]?).map (·.type) = some ti) (hi : P.underlying ti = some (.interface ms))
    (hrow : ∀ u, P.typeName? 3 u = some nm → u = tp) (hp : P.underlying tp = some (.pointer te)) (he : P.underlying te = some (.struct #[f])) (hft : f.type = ts) (hfo : f.offset = 0) (hs : P.underlying ts = some .string) (hc : P.cellsOf te = 1) (hcs : P.cellsOf ts = 1) : (errE g).holds W := by
  obtain ⟨a, s, hv, _⟩ := laid_sentinel h hg ht hi hrow hp he hft hfo hs hc hcs
  exact ⟨_, _, by have h0 := World.var?_cell hg hv 0; simpa using h0⟩
theorem puI_if {t : TypeId} {c d : UInt8} : IfV (puB c d) (puI t c d) := by
  unfold puI
  cases h : puB c d
  · exact .inr ⟨rfl, _, _, rfl⟩
  · exact .inl ⟨rfl, rfl⟩
theorem puI_no {t : TypeId} {c d : UInt8} (h : puB c d = false) : puI t c d = .iface t (.int .i64 2) := by rw [puI, h]; rfl
theorem pair_at {s : List UInt8} {i : Nat} (h : 2 * i + 1 < s.length) : (s.drop (2 * i)).take 2 = [s.getD (2 * i) 0, s.getD (2 * i + 1) 0] := by
  have h0 : 2 * i < s.length := by omega
  have e : s.drop (2 * i) = s[2 * i] :: s[2 * i + 1] :: s.drop (2 * i + 1 + 1) := by rw [← List.drop_eq_getElem_cons h, ← List.drop_eq_getElem_cons h0]
  rw [e]
  simp only [List.take_succ_cons, List.take_zero, List.getD, List.getElem?_eq_getElem h, List.getElem?_eq_getElem h0, Option.getD_some]
theorem str_list (l : List UInt8) : (str l).data.toList = l := rfl
theorem pair_mid {s : List UInt8} {i : Nat} (h : 2 * i + 1 < s.length) : (s.take (2 * i + 2)).drop (2 * i) = [s.getD (2 * i) 0, s.getD (2 * i + 1) 0] := by rw [List.drop_take, show 2 * i + 2 - 2 * i = 2 by omega, pair_at h]
theorem ofT_no0 {s : List UInt8} (h : ¬ s.length = 64) : ofT s = (List.replicate 32 0, false) := if_neg (fun k => h k.1)
theorem ofT_no1 {s : List UInt8} (h : ¬ okP s 32) : ofT s = (List.replicate 32 0, false) := if_neg (fun k => h k.2.1)
theorem ofT_no2 {s : List UInt8} (h : ¬ hexL (decP s 32) = s) : ofT s = (List.replicate 32 0, false) := if_neg (fun k => h k.2.2)
theorem ofT_yes {s : List UInt8} (h0 : s.length = 64) (h1 : okP s 32) (h2 : hexL (decP s 32) = s) : ofT s = (decP s 32, true) := if_pos ⟨h0, h1, h2⟩
theorem ofT_noR {s : List UInt8} (h : ¬ okR s 64) : ofT s = (List.replicate 32 0, false) := (ofT_ref s).trans (if_neg (fun k => h k.2))
/-! ## Prefixes that may be none -/
abbrev Pf := Option (List UInt32 × Nat)
def zeroP : List Value := wd (List.replicate 8 0) ++ [.int .i64 0, .bool false]
def pfL : Pf → List Value
  | none => zeroP
  | some (ns, z) => prefL ns z
def OkPf : Pf → Prop
  | none => True
  | some (ns, z) => ns.length = 8 ∧ z % 64 = 0 ∧ z ≤ 1099511627776
def pfA (b : List UInt8) : Pf := if b.length % 64 = 0 then some (overW (b.length / 64) seedsW b, b.length) else none
def pfE (b : List UInt8) : Nat := if b.length % 64 = 0 then 0 else 2
def pfM (p : Pf) (b : List UInt8) : Pf := match p with
  | none => none
  | some (ns, z) => if b.length % 64 = 0 then some (overW (b.length / 64) ns b, z + b.length) else none
def pfF (p : Pf) (b : List UInt8) : Nat := match p with
  | none => 1
  | some _ => if b.length % 64 = 0 then 0 else 2
def pfS (p : Pf) (b : List UInt8) : List UInt8 := match p with
  | none => List.replicate 32 0
  | some (ns, z) => endW ns z b
def pfN : Pf → Nat
  | none => 0
  | some (_, z) => z
theorem pfL_length {p : Pf} (h : OkPf p) : (pfL p).length = 10 := by
  match p, h with
  | none, _ => simp [pfL, zeroP]
  | some (ns, z), h => rw [pfL, prefL_length, h.1]
theorem zeroP_one : One zeroP := fun v hv => by
  simp only [zeroP, List.mem_append, List.mem_cons, List.not_mem_nil, or_false] at hv
  rcases hv with hv | rfl | rfl
  · exact wd_one _ v hv
  · rfl
  · rfl
theorem pfL_one (p : Pf) : One (pfL p) := by
  match p with
  | none => exact zeroP_one
  | some (ns, z) => exact prefL_one ns z
theorem pfA_ok {b : List UInt8} (h : b.length ≤ 1099511627776) : OkPf (pfA b) := by
  unfold pfA; split
  · rename_i h0; exact ⟨by rw [overW_length]; rfl, h0, h⟩
  · trivial
theorem pfM_ok {p : Pf} {b : List UInt8} (hp : OkPf p) (h : pfN p + b.length ≤ 1099511627776) : OkPf (pfM p b) := by
  match p, hp with
  | none, _ => trivial
  | some (ns, z), hp =>
    unfold pfM; simp only; split
    · rename_i h0; exact ⟨by simp [hp.1], by rw [Nat.add_mod, hp.2.1, h0], h⟩
    · trivial
theorem pfS_len (p : Pf) (b : List UInt8) : (pfS p b).length = 32 := by
  match p with
  | none => exact List.length_replicate
  | some (ns, z) => exact endW_length ..
theorem pfS_nil (b : List UInt8) : pfS (pfA []) b = shaW b := rfl
theorem pfE_zero {a : List UInt8} (h : a.length % 64 = 0) : pfE a = 0 := if_pos h
theorem pfE_two {a : List UInt8} (h : ¬ a.length % 64 = 0) : pfE a = 2 := if_neg h
theorem pfA_none {a : List UInt8} (h : ¬ a.length % 64 = 0) : pfA a = none := if_neg h
theorem pfA_some {a : List UInt8} (h : a.length % 64 = 0) : pfA a = some (overW (a.length / 64) seedsW a, a.length) := if_pos h
theorem pfF_two {x : List UInt32 × Nat} {b : List UInt8} (h : ¬ b.length % 64 = 0) : pfF (some x) b = 2 := if_neg h
theorem pfM_A {a b : List UInt8} (h : a.length % 64 = 0) (hb : b.length % 64 = 0) : pfM (pfA a) b = some (overW (b.length / 64) (overW (a.length / 64) seedsW a) b, a.length + b.length) := by
  rw [pfA_some h]; exact if_pos hb
theorem pfF_A {a b : List UInt8} (h : a.length % 64 = 0) (hb : b.length % 64 = 0) : pfF (pfA a) b = 0 := by
  rw [pfA_some h]; exact if_pos hb
theorem pfN_A {a : List UInt8} (h : a.length % 64 = 0) : pfN (pfA a) = a.length := by rw [pfA_some h]; rfl
theorem pfN_M {a b : List UInt8} (h : a.length % 64 = 0) (hb : b.length % 64 = 0) : pfN (pfM (pfA a) b) = a.length + b.length := by rw [pfM_A h hb]; rfl
/-! ## What is too long -/
end Go.Kx
