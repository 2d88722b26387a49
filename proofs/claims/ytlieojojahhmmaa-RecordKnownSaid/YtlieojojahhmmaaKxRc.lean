/- Own library, part Rc: root records and writes as bytes, in plain Lean. -/
import Derived.Test.YtlieojojahhmmaaKxSx
import Derived.Test.YtlieojojahhmmaaKxY2
set_option linter.unusedSimpArgs false
set_option linter.unusedVariables false
namespace Go.Kx
open Go
/-! ## Root records and writes -/
def numB (z : Int) : Bool := decide (0 ≤ z) && decide (z ≤ 2147483647)
theorem numB_nat {z : Int} (h : numB z = true) : ∃ n : Nat, z = (n : Int) ∧ n ≤ 2147483647 := by
  simp only [numB, Bool.and_eq_true, decide_eq_true_eq] at h
  obtain ⟨n, rfl⟩ := Int.eq_ofNat_of_zero_le h.1
  exact ⟨n, rfl, by omega⟩
def rootOk (c : Nat) (m y : Int) : Bool := decide (c ≤ 4611686018427387904) && numB m && numB y
def markR : List UInt8 := [67, 65, 83, 69, 82, 79, 79, 84]
def rootB (c : Nat) (top head body : List UInt8) (m y : Nat) : List UInt8 := ((((((markR ++ laid 8 c) ++ top) ++ head) ++ body) ++ laid 4 m) ++ laid 4 y) ++ laid 8 0
theorem rootB_len {c m y : Nat} {t h b : List UInt8} (ht : t.length = 32) (hh : h.length = 32) (hb : b.length = 32) : (rootB c t h b m y).length = 128 := by simp [rootB, markR, *]

theorem rootOk_nat {c : Nat} {m y : Int} (h : rootOk c m y = true) : c ≤ 4611686018427387904 ∧ ∃ a b : Nat, m = (a : Int) ∧ y = (b : Int) ∧ a ≤ 2147483647 ∧ b ≤ 2147483647 := by
  simp only [rootOk, Bool.and_eq_true, decide_eq_true_eq] at h
  obtain ⟨a, ha, ha'⟩ := numB_nat h.1.2
  obtain ⟨b, hb, hb'⟩ := numB_nat h.2
  exact ⟨h.1.1, a, b, ha, hb, ha', hb'⟩
theorem rootOk_of {c a b : Nat} (h : c ≤ 4611686018427387904) (ha : a ≤ 2147483647) (hb : b ≤ 2147483647) : rootOk c (a : Int) (b : Int) = true := by
  simp [rootOk, numB]; omega
def putL (c : Nat) (t h b : List UInt8) (m y : Int) : List UInt8 := if rootOk c m y then rootB c t h b m.toNat y.toNat else []
def putE (c : Nat) (m y : Int) : Nat := if rootOk c m y then 0 else 2
def rootC (c : Nat) (t h b : List UInt8) (m y : Int) : List Value := [[.int .u64 (c : Int)], bv t, bv h, bv b, [.int .i64 m], [.int .i64 y]].flatten
def z32 : List UInt8 := List.replicate 32 0
/-! What bytes are as a root record. -/
def pc (b : List UInt8) : Nat := val ((b.drop 8).take 8)
def pt (b : List UInt8) : List UInt8 := (b.drop 16).take 32
def ph_ (b : List UInt8) : List UInt8 := (b.drop 48).take 32
def pb (b : List UInt8) : List UInt8 := (b.drop 80).take 32
def pm (b : List UInt8) : Nat := val ((b.drop 112).take 4)
def py (b : List UInt8) : Nat := val ((b.drop 116).take 4)
def getOk (b : List UInt8) : Bool := decide (b.length = 128) && decide (b.take 8 = markR) && decide (val ((b.drop 120).take 8) = 0) && rootOk (pc b) (pm b) (py b)
def getV (b : List UInt8) : List Value := if getOk b then rootC (pc b) (pt b) (ph_ b) (pb b) (pm b) (py b) else rootC 0 z32 z32 z32 0 0
def getE (b : List UInt8) : Nat := if getOk b then 0 else 4
theorem getOk_facts {b : List UInt8} (h : getOk b = true) : b.length = 128 ∧ b.take 8 = markR ∧ val ((b.drop 120).take 8) = 0 ∧ rootOk (pc b) (pm b) (py b) = true := by
  simp only [getOk, Bool.and_eq_true, decide_eq_true_eq] at h
  exact ⟨h.1.1.1, h.1.1.2, h.1.2, h.2⟩

theorem rootB_assoc (c m y : Nat) (t h b : List UInt8) : rootB c t h b m y = markR ++ (laid 8 c ++ (t ++ (h ++ (b ++ (laid 4 m ++ (laid 4 y ++ laid 8 0)))))) := by simp [rootB]
theorem drop_add {l r : List UInt8} {i j : Nat} (h : l.length = i) : (l ++ r).drop (i + j) = r.drop j := by rw [← List.drop_drop, List.drop_left' h]
/-- The parts of a root record's bytes. -/
theorem rootB_parts {c m y : Nat} {t h b : List UInt8} (ht : t.length = 32) (hh : h.length = 32) (hb : b.length = 32) (hc : c < 256 ^ 8) (hm : m < 256 ^ 4) (hy : y < 256 ^ 4) :
    (rootB c t h b m y).take 8 = markR ∧ pc (rootB c t h b m y) = c ∧ pt (rootB c t h b m y) = t ∧ ph_ (rootB c t h b m y) = h ∧ pb (rootB c t h b m y) = b ∧ pm (rootB c t h b m y) = m ∧ py (rootB c t h b m y) = y ∧ ((rootB c t h b m y).drop 120).take 8 = laid 8 0 := by
  have l0 : markR.length = 8 := rfl
  have l8 : ∀ k n, (laid k n).length = k := fun k n => by simp
  unfold pc pt ph_ pb pm py
  rw [rootB_assoc]
  refine ⟨List.take_left' l0, ?_, ?_, ?_, ?_, ?_, ?_, ?_⟩
  · rw [show 8 = 8 + 0 from rfl, drop_add l0, List.drop_zero, show 8 + 0 = 8 from rfl, List.take_left' (l8 8 c), val_laid, Nat.mod_eq_of_lt hc]
  · rw [show 16 = 8 + (8 + 0) from rfl, drop_add l0, drop_add (l8 8 c), List.drop_zero, List.take_left' ht]
  · rw [show 48 = 8 + (8 + (32 + 0)) from rfl, drop_add l0, drop_add (l8 8 c), drop_add ht, List.drop_zero, List.take_left' hh]
  · rw [show 80 = 8 + (8 + (32 + (32 + 0))) from rfl, drop_add l0, drop_add (l8 8 c), drop_add ht, drop_add hh, List.drop_zero, List.take_left' hb]
  · rw [show 112 = 8 + (8 + (32 + (32 + (32 + 0)))) from rfl, drop_add l0, drop_add (l8 8 c), drop_add ht, drop_add hh, drop_add hb, List.drop_zero, List.take_left' (l8 4 m), val_laid, Nat.mod_eq_of_lt hm]
  · rw [show 116 = 8 + (8 + (32 + (32 + (32 + (4 + 0))))) from rfl, drop_add l0, drop_add (l8 8 c), drop_add ht, drop_add hh, drop_add hb, drop_add (l8 4 m), List.drop_zero, List.take_left' (l8 4 y), val_laid, Nat.mod_eq_of_lt hy]
  · rw [show 120 = 8 + (8 + (32 + (32 + (32 + (4 + (4 + 0)))))) from rfl, drop_add l0, drop_add (l8 8 c), drop_add ht, drop_add hh, drop_add hb, drop_add (l8 4 m), drop_add (l8 4 y), List.drop_zero, List.take_of_length_le (by simp)]
theorem pieces (b : List UInt8) (hl : b.length = 128) : b = b.take 8 ++ ((b.drop 8).take 8 ++ ((b.drop 16).take 32 ++ ((b.drop 48).take 32 ++ ((b.drop 80).take 32 ++ ((b.drop 112).take 4 ++ ((b.drop 116).take 4 ++ (b.drop 120).take 8)))))) := by
  have s : ∀ (i j : Nat), b.drop i = (b.drop i).take j ++ b.drop (i + j) := fun i j => by rw [← List.drop_drop, List.take_append_drop]
  conv => lhs; rw [← List.take_append_drop 8 b, s 8 8, s (8 + 8) 32, s (8 + 8 + 32) 32, s (8 + 8 + 32 + 32) 32, s (8 + 8 + 32 + 32 + 32) 4, s (8 + 8 + 32 + 32 + 32 + 4) 4]
  rw [List.take_of_length_le (l := b.drop 120) (by simp; omega)]
theorem pieces_len (b : List UInt8) (hl : b.length = 128) : ((b.drop 8).take 8).length = 8 ∧ (pt b).length = 32 ∧ (ph_ b).length = 32 ∧ (pb b).length = 32 ∧ ((b.drop 112).take 4).length = 4 ∧ ((b.drop 116).take 4).length = 4 ∧ ((b.drop 120).take 8).length = 8 := by
  simp [pt, ph_, pb, hl]
theorem rootB_parse {b : List UInt8} (hl : b.length = 128) : rootB (pc b) (pt b) (ph_ b) (pb b) (pm b) (py b) = b ↔ b.take 8 = markR ∧ val ((b.drop 120).take 8) = 0 := by
  obtain ⟨l1, l2, l3, l4, l5, l6, l7⟩ := pieces_len b hl
  have e : rootB (pc b) (pt b) (ph_ b) (pb b) (pm b) (py b) = markR ++ ((b.drop 8).take 8 ++ ((b.drop 16).take 32 ++ ((b.drop 48).take 32 ++ ((b.drop 80).take 32 ++ ((b.drop 112).take 4 ++ ((b.drop 116).take 4 ++ laid 8 0)))))) := by
    rw [rootB_assoc]; unfold pc pm py; rw [laid_val l1, laid_val l5, laid_val l6]; rfl
  constructor
  · intro h
    have p := rootB_parts (c := pc b) (m := pm b) (y := py b) l2 l3 l4 (by have := val_lt ((b.drop 8).take 8); rw [l1] at this; exact this) (by have := val_lt ((b.drop 112).take 4); rw [l5] at this; exact this) (by have := val_lt ((b.drop 116).take 4); rw [l6] at this; exact this)
    rw [h] at p
    exact ⟨p.1, by rw [p.2.2.2.2.2.2.2, val_laid]⟩
  · rintro ⟨h1, h2⟩
    rw [e]
    conv => rhs; rw [pieces b hl, h1]
    have : laid 8 0 = (b.drop 120).take 8 := by rw [← h2, laid_val l7]
    rw [this]
theorem getOk_put {b : List UInt8} (hl : b.length = 128) : getOk b = true ↔ rootOk (pc b) (pm b) (py b) = true ∧ rootB (pc b) (pt b) (ph_ b) (pb b) (pm b) (py b) = b := by
  rw [rootB_parse hl]
  simp only [getOk, Bool.and_eq_true, decide_eq_true_eq]
  constructor
  · rintro ⟨⟨⟨_, h2⟩, h3⟩, h4⟩; exact ⟨h4, h2, h3⟩
  · rintro ⟨h4, h2, h3⟩; exact ⟨⟨⟨hl, h2⟩, h3⟩, h4⟩
/-- What is put is got. -/
theorem getOk_rootB {c m y : Nat} {t h b : List UInt8} (ht : t.length = 32) (hh : h.length = 32) (hb : b.length = 32) (hc : c ≤ 4611686018427387904) (hm : m ≤ 2147483647) (hy : y ≤ 2147483647) : getOk (rootB c t h b m y) = true ∧ getV (rootB c t h b m y) = rootC c t h b m y := by
  obtain ⟨p1, p2, p3, p4, p5, p6, p7, p8⟩ := rootB_parts ht hh hb (c := c) (m := m) (y := y) (by omega) (by omega) (by omega)
  have e : getOk (rootB c t h b m y) = true := by
    simp only [getOk, Bool.and_eq_true, decide_eq_true_eq]
    refine ⟨⟨⟨rootB_len ht hh hb, p1⟩, by rw [p8, val_laid]⟩, ?_⟩
    rw [p2, p6, p7]; exact rootOk_of hc hm hy
  exact ⟨e, by rw [getV, if_pos e, p2, p3, p4, p5, p6, p7]⟩

theorem rootOk_le {c m y : Nat} (h : rootOk c (m : Int) (y : Int) = true) : c ≤ 4611686018427387904 ∧ m ≤ 2147483647 ∧ y ≤ 2147483647 := by
  simp [rootOk, numB] at h; omega
theorem putL_ok {c : Nat} {t h b : List UInt8} {m y : Nat} (hr : rootOk c (m : Int) (y : Int) = true) : putL c t h b m y = rootB c t h b m y := by rw [putL, if_pos hr]; rfl
theorem putL_no {c : Nat} {t h b : List UInt8} {m y : Int} (hr : rootOk c m y = false) : putL c t h b m y = [] := by rw [putL, hr]; rfl
theorem putE_ok {c : Nat} {m y : Int} (hr : rootOk c m y = true) : putE c m y = 0 := by rw [putE, if_pos hr]
theorem putE_no {c : Nat} {m y : Int} (hr : rootOk c m y = false) : putE c m y = 2 := by rw [putE, hr]; rfl
end Go.Kx
