/- Own library, part Sx: plain laws that the second walk printer's loops need. -/
import Derived.Test.YtamjaacddbecaaaKxSw
import Derived.LoopN
set_option linter.unusedSimpArgs false
set_option linter.unusedVariables false
namespace Go.Kx
open Go

theorem cpy_set {b : List UInt8} {i n : Nat} (h : i < b.length) (hn : b.length = n) : (b.take i ++ List.replicate (n - i) 0).set i (b.getD i 0) = b.take (i + 1) ++ List.replicate (n - (i + 1)) 0 := by
  have hl : (b.take i).length = i := by simp; omega
  obtain ⟨k, hk⟩ : ∃ k, n - i = k + 1 := ⟨n - i - 1, by omega⟩
  rw [hk, show n - (i + 1) = k by omega, List.replicate_succ, List.set_append_right _ _ (by omega), hl, Nat.sub_self, List.set_cons_zero, take_snoc h, List.append_assoc]
  rfl
theorem cpy_end {b : List UInt8} {n : Nat} (hn : b.length = n) : b.take n ++ List.replicate (n - n) 0 = b := by
  rw [List.take_of_length_le (by omega), Nat.sub_self]; simp
theorem cpy_len {b : List UInt8} {i n : Nat} (hn : b.length = n) (h : i ≤ n) : (b.take i ++ List.replicate (n - i) (0 : UInt8)).length = n := by simp; omega

theorem laid_cons (k m : Nat) : laid (k + 1) m = UInt8.ofNat (m / 256 ^ k) :: laid k m := by
  unfold laid
  rw [List.range_succ_eq_map, List.map_cons, List.map_map]
  congr 1
  · rw [two8]; simp
  · apply List.map_congr_left
    intro i hi
    have hi := List.mem_range.1 hi
    show UInt8.ofNat (m / 2 ^ (8 * (k + 1 - 1 - (i + 1)))) = _
    rw [show k + 1 - 1 - (i + 1) = k - 1 - i by omega]
theorem take_all {l : List UInt8} {n : Nat} (h : l.length = n) : l.take n = l := List.take_of_length_le (Nat.le_of_eq h)

/-! ## Loops that are gone through step by step; parts of blocks as slices; tapes in another text -/
theorem c_rounds {P : Program} {c : Code} {Q : Exit → Act → World → Prop} {n : Nat} {a : Act} {w : World} (h : c.wp P (Exit.then (Code.rounds P c Q n) Q) a w) : Code.rounds P c Q (n + 1) a w := h
theorem rd_seg8 {b o N T : Nat} {ss : List (List Value)} {ns : List Nat} {x : List UInt8} {w : World} (h : (blk b ss ns T).holds w) (hs : rdSeg o N ss ns = some (bv x)) (hx : x.length = N) : (rd (.slice (some ⟨b, o, none⟩) N N) 1 x.length N (bv x)).holds w := by
  subst hx
  exact rd_of_blk h hs (by omega) (Nat.le_refl _)
theorem Mem.tapEq {w0 w : World} {M : List Nat} {H : List Ent} {b T : Nat} {bb : List Nat} {p q : List UInt8} {t : Bool} (hM : Mem w0 M w (tap b bb p t T :: H)) (h : p = q) : Mem w0 M w (tap b bb q t T :: H) := h ▸ hM

theorem numI_set {w j n : Nat} (h : j < w) : (List.replicate (w - j) 0 ++ laid j n).set (w - 1 - j) (UInt8.ofNat (n / 256 ^ j % 256)) = List.replicate (w - (j + 1)) 0 ++ laid (j + 1) n := by
  rw [ofNat_mod, laid_cons]
  obtain ⟨k, hk⟩ : ∃ k, w - j = k + 1 := ⟨w - j - 1, by omega⟩
  rw [hk, show w - (j + 1) = k by omega, show w - 1 - j = k by omega, List.set_append_left _ _ (by simp), List.replicate_succ', List.set_append_right _ _ (by simp), List.length_replicate, Nat.sub_self, List.set_cons_zero, List.append_assoc]
  rfl
theorem numI_len {w j n : Nat} (h : j ≤ w) : (List.replicate (w - j) (0 : UInt8) ++ laid j n).length = w := by simp; omega
theorem wrap_u64n {m : Nat} (h : m < 18446744073709551616) : IntKind.u64.wrap (m : Int) = (m : Int) := wrap_u64 (by omega) (by omega)
theorem div_lt64 {n k : Nat} (h : n < 18446744073709551616) : n / k < 18446744073709551616 := Nat.lt_of_le_of_lt (Nat.div_le_self ..) h
theorem pNum_fit {bs : List UInt8} {k m : Nat} (hw : widthB (k : Int) = true) (hf : 8 ≤ k ∨ m < 256 ^ k) : pNum bs k m = (bs ++ laid k m, 0) := by
  have h0 : 0 < 256 ^ k := Nat.pow_pos (by omega)
  have : numFits (k : Int) m = true := by
    simp only [numFits, hw, Bool.true_and, Bool.or_eq_true, decide_eq_true_eq, Int.toNat_natCast]
    rcases hf with h | h
    · left; omega
    · right; rw [two8, Nat.div_eq_zero_iff]; right; exact h
  simp [pNum, this]

theorem val4 {l : List UInt8} (h : l.length = 4) : val l < 4294967296 := by have := val_lt l; rw [h] at this; exact this
theorem val8 {l : List UInt8} (h : l.length = 8) : val l < 18446744073709551616 := by have := val_lt l; rw [h] at this; exact this
theorem val1 {l : List UInt8} (h : l.length = 1) : val l < 256 := by have := val_lt l; rw [h] at this; exact this

/-! ## Cells in parts are compared; strings -/
theorem flat_eq : ∀ {ss tt : List (List Value)}, ss.map List.length = tt.map List.length → (ss.flatten = tt.flatten ↔ ss = tt)
  | [], [], _ => by simp
  | [], _ :: _, h => by simp at h
  | _ :: _, [], h => by simp at h
  | a :: ss, b :: tt, h => by
    simp only [List.map_cons, List.cons.injEq] at h
    simp only [List.flatten_cons, List.cons.injEq, ← flat_eq h.2]
    exact ⟨fun e => List.append_inj e h.1, fun ⟨e, f⟩ => by rw [e, f]⟩
theorem bv_iff {a b : List UInt8} : bv a = bv b ↔ a = b := ⟨bv_inj, fun h => by rw [h]⟩
end Go.Kx
