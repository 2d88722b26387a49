/- Own library: parts KxTk, KxTd, KxTv. -/
import Derived.Test.YtacebdngbalkmaaDoorKc5
set_option linter.unusedSimpArgs false
set_option linter.unusedVariables false
/- Own library, part Tk: the examples of trees. -/
set_option linter.unusedSimpArgs false
set_option linter.unusedVariables false
namespace Go.Kx
open Go
theorem all_node {k : List UInt8} {n j : Nat} {lv : List Tg} (h : lv.length ≤ n) (h1 : 1 ≤ j) (h2 : j < n) : gT (allT k n lv) j = nd k j (secA (allT k n lv) j) := (allT_ce h).at_ j h1 h2 (by omega)
section
variable {k a b c d : List UInt8}
theorem pad3 : padL (2 ^ 2) [a, b, c] = [a, b, c, zTg] := rfl
theorem set3 : lvZ (padL (2 ^ 2) [a, b, c]) 2 3 d = [a, b, c, d] := rfl
theorem all_sec2 : secA (allT k (2 ^ 2) [a, b, c, d]) 2 = a ++ b := by
  unfold secA
  rw [show 2 * 2 = 2 ^ 2 + 0 from rfl, show 2 ^ 2 + 0 + 1 = 2 ^ 2 + 1 from rfl, allT_leaf (by simp), allT_leaf (by simp)]
  rfl
theorem all_sec3 : secA (allT k (2 ^ 2) [a, b, c, d]) 3 = c ++ d := by
  unfold secA
  rw [show 2 * 3 = 2 ^ 2 + 2 from rfl, show 2 ^ 2 + 2 + 1 = 2 ^ 2 + 3 from rfl, allT_leaf (by simp), allT_leaf (by simp)]
  rfl
theorem all_2 : gT (allT k (2 ^ 2) [a, b, c, d]) 2 = nd k 2 (a ++ b) := by rw [all_node (by simp) (by decide) (by decide), all_sec2]
theorem all_3 : gT (allT k (2 ^ 2) [a, b, c, d]) 3 = nd k 3 (c ++ d) := by rw [all_node (by simp) (by decide) (by decide), all_sec3]
theorem all_1 : gT (allT k (2 ^ 2) [a, b, c, d]) 1 = nd k 1 (nd k 2 (a ++ b) ++ nd k 3 (c ++ d)) := by
  rw [all_node (by simp) (by decide) (by decide)]
  unfold secA
  rw [show 2 * 1 = 2 from rfl, show 2 + 1 = 3 from rfl, all_2, all_3]
theorem all_leaf {i : Nat} {lv : List Tg} (h : lv.length ≤ 2 ^ 2) : gT (allT k (2 ^ 2) lv) (2 ^ 2 + i) = gT lv i := allT_leaf h
theorem ok31 : ∀ x, x ∈ ([3, 1] : List Nat) → x < 4096 := by intro x hx; simp only [List.mem_cons, List.not_mem_nil, or_false] at hx; omega
theorem path7 : pathL 7 = [3, 1] := by decide
theorem ex_chg (hd : zTg ≠ d) (hne : nd k 3 (c ++ zTg) ≠ nd k 3 (c ++ d)) : chgZ k 2 (padL (2 ^ 2) [a, b, c]) 3 d = [3, 1] := by
  have hz : inN 0 (2 ^ 2) ((3 : Nat) : Int) := by decide
  have e := chgZ_in (k := k) (lv := padL (2 ^ 2) [a, b, c]) (t := d) hz
  have e2 : (padL (2 ^ 2) [a, b, c]).set 3 d = [a, b, c, d] := rfl
  rw [e2, pad3] at e
  rw [pad3]
  refine e.trans ?_
  rw [show 2 ^ 2 + 3 = 7 from rfl, path7]
  have h1 : chg (allT k (2 ^ 2) [a, b, c, zTg]) (allT k (2 ^ 2) [a, b, c, d]) 3 = true := by
    unfold chg
    rw [show 2 * 3 + 1 = 2 ^ 2 + 3 from rfl, all_leaf (by simp), all_leaf (by simp)]
    simp only [Bool.or_eq_true, decide_eq_true_eq]
    exact .inr hd
  have h2 : chg (allT k (2 ^ 2) [a, b, c, zTg]) (allT k (2 ^ 2) [a, b, c, d]) 1 = true := by
    unfold chg
    rw [show 2 * 1 + 1 = 3 from rfl, all_3, all_3]
    simp only [Bool.or_eq_true, decide_eq_true_eq]
    exact .inr hne
  simp only [List.filter_cons, h1, h2, if_true, List.filter_nil]
theorem ex_top (hne : nd k 1 (nd k 2 (a ++ b) ++ nd k 3 (c ++ d)) ≠ nd k 1 (nd k 2 (a ++ b) ++ nd k 3 (c ++ zTg))) : gT (allT k (2 ^ 2) (lvZ (padL (2 ^ 2) [a, b, c]) 2 3 d)) 1 ≠ gT (allT k (2 ^ 2) (padL (2 ^ 2) [a, b, c])) 1 := by
  rw [set3, pad3, all_1, all_1]; exact hne
/-- The tree's own proof leads to its top. -/
theorem own_chkZ {h : Nat} {lv : List Tg} {z : Int} (ho : OkTs lv) (hh : 1 ≤ h ∧ h ≤ 12) (hn : lv.length = 2 ^ h) (hz : inN 0 (2 ^ h) z) : chkZ k z (gT lv z.toNat) (proofZ (allT k (2 ^ h) lv) h z) (gT (allT k (2 ^ h) lv) 1) = true := by
  obtain ⟨q, rfl⟩ : ∃ q : Nat, z = (q : Int) := ⟨z.toNat, by omega⟩
  rw [proofZ_in hz, chkZ_in (by simpa using hh) (by rw [ownP_length]; exact hz), ownP_length, show ((q : Int).toNat) = q from rfl, ← allT_leaf (k := k) (n := 2 ^ h) (lv := lv) (i := q) (by omega)]
  exact own_chk ho.all (allT_ce (by omega)) (by omega) (by omega)
theorem proofZ_len {h : Nat} {l : List Tg} {z : Int} (hz : inN 0 (2 ^ h) z) : (proofZ l h z).length = h := by
  unfold proofZ; rw [if_pos hz]; simp
end
theorem w_a : nd [1, 0, 0, 0, 0, 0, 0, 0, 0, 0, 0, 0, 0, 0, 0, 0, 0, 0, 0, 0, 0, 0, 0, 0, 0, 0, 0, 0, 0, 0, 0, 0] 2 ([1, 0, 0, 0, 0, 0, 0, 0, 0, 0, 0, 0, 0, 0, 0, 0, 0, 0, 0, 0, 0, 0, 0, 0, 0, 0, 0, 0, 0, 0, 0, 0] ++ [2, 0, 0, 0, 0, 0, 0, 0, 0, 0, 0, 0, 0, 0, 0, 0, 0, 0, 0, 0, 0, 0, 0, 0, 0, 0, 0, 0, 0, 0, 0, 0]) = [71, 162, 57, 173, 106, 65, 54, 33, 1, 9, 200, 100, 138, 108, 206, 97, 151, 22, 217, 41, 218, 255, 78, 124, 96, 82, 212, 202, 111, 151, 69, 4] := by decide +kernel
theorem w_bo : nd [1, 0, 0, 0, 0, 0, 0, 0, 0, 0, 0, 0, 0, 0, 0, 0, 0, 0, 0, 0, 0, 0, 0, 0, 0, 0, 0, 0, 0, 0, 0, 0] 3 ([3, 0, 0, 0, 0, 0, 0, 0, 0, 0, 0, 0, 0, 0, 0, 0, 0, 0, 0, 0, 0, 0, 0, 0, 0, 0, 0, 0, 0, 0, 0, 0] ++ zTg) = [15, 109, 179, 45, 117, 190, 200, 133, 81, 188, 224, 237, 5, 66, 218, 43, 177, 218, 38, 236, 157, 84, 47, 159, 106, 39, 182, 109, 31, 189, 212, 174] := by decide +kernel
theorem w_bn : nd [1, 0, 0, 0, 0, 0, 0, 0, 0, 0, 0, 0, 0, 0, 0, 0, 0, 0, 0, 0, 0, 0, 0, 0, 0, 0, 0, 0, 0, 0, 0, 0] 3 ([3, 0, 0, 0, 0, 0, 0, 0, 0, 0, 0, 0, 0, 0, 0, 0, 0, 0, 0, 0, 0, 0, 0, 0, 0, 0, 0, 0, 0, 0, 0, 0] ++ [4, 0, 0, 0, 0, 0, 0, 0, 0, 0, 0, 0, 0, 0, 0, 0, 0, 0, 0, 0, 0, 0, 0, 0, 0, 0, 0, 0, 0, 0, 0, 0]) = [184, 230, 106, 68, 124, 16, 225, 75, 141, 70, 217, 215, 220, 170, 124, 138, 39, 219, 94, 18, 37, 162, 3, 199, 13, 250, 242, 92, 129, 16, 246, 85] := by decide +kernel
theorem w_to : nd [1, 0, 0, 0, 0, 0, 0, 0, 0, 0, 0, 0, 0, 0, 0, 0, 0, 0, 0, 0, 0, 0, 0, 0, 0, 0, 0, 0, 0, 0, 0, 0] 1 ([71, 162, 57, 173, 106, 65, 54, 33, 1, 9, 200, 100, 138, 108, 206, 97, 151, 22, 217, 41, 218, 255, 78, 124, 96, 82, 212, 202, 111, 151, 69, 4] ++ [15, 109, 179, 45, 117, 190, 200, 133, 81, 188, 224, 237, 5, 66, 218, 43, 177, 218, 38, 236, 157, 84, 47, 159, 106, 39, 182, 109, 31, 189, 212, 174]) = [244, 15, 32, 46, 41, 131, 198, 77, 46, 197, 233, 209, 129, 227, 201, 105, 87, 116, 169, 201, 26, 99, 208, 208, 150, 182, 188, 80, 169, 233, 240, 228] := by decide +kernel
theorem w_tn : nd [1, 0, 0, 0, 0, 0, 0, 0, 0, 0, 0, 0, 0, 0, 0, 0, 0, 0, 0, 0, 0, 0, 0, 0, 0, 0, 0, 0, 0, 0, 0, 0] 1 ([71, 162, 57, 173, 106, 65, 54, 33, 1, 9, 200, 100, 138, 108, 206, 97, 151, 22, 217, 41, 218, 255, 78, 124, 96, 82, 212, 202, 111, 151, 69, 4] ++ [184, 230, 106, 68, 124, 16, 225, 75, 141, 70, 217, 215, 220, 170, 124, 138, 39, 219, 94, 18, 37, 162, 3, 199, 13, 250, 242, 92, 129, 16, 246, 85]) = [80, 202, 20, 206, 197, 127, 203, 138, 65, 109, 38, 38, 243, 78, 132, 71, 77, 15, 144, 207, 21, 105, 63, 219, 181, 222, 132, 156, 252, 183, 201, 52] := by decide +kernel
theorem wk_chg : chgZ [1, 0, 0, 0, 0, 0, 0, 0, 0, 0, 0, 0, 0, 0, 0, 0, 0, 0, 0, 0, 0, 0, 0, 0, 0, 0, 0, 0, 0, 0, 0, 0] 2 (padL (2 ^ 2) [[1, 0, 0, 0, 0, 0, 0, 0, 0, 0, 0, 0, 0, 0, 0, 0, 0, 0, 0, 0, 0, 0, 0, 0, 0, 0, 0, 0, 0, 0, 0, 0], [2, 0, 0, 0, 0, 0, 0, 0, 0, 0, 0, 0, 0, 0, 0, 0, 0, 0, 0, 0, 0, 0, 0, 0, 0, 0, 0, 0, 0, 0, 0, 0], [3, 0, 0, 0, 0, 0, 0, 0, 0, 0, 0, 0, 0, 0, 0, 0, 0, 0, 0, 0, 0, 0, 0, 0, 0, 0, 0, 0, 0, 0, 0, 0]]) 3 [4, 0, 0, 0, 0, 0, 0, 0, 0, 0, 0, 0, 0, 0, 0, 0, 0, 0, 0, 0, 0, 0, 0, 0, 0, 0, 0, 0, 0, 0, 0, 0] = [3, 1] := ex_chg (by decide) (by rw [w_bo, w_bn]; decide)
theorem wk_top : gT (allT [1, 0, 0, 0, 0, 0, 0, 0, 0, 0, 0, 0, 0, 0, 0, 0, 0, 0, 0, 0, 0, 0, 0, 0, 0, 0, 0, 0, 0, 0, 0, 0] (2 ^ 2) (lvZ (padL (2 ^ 2) [[1, 0, 0, 0, 0, 0, 0, 0, 0, 0, 0, 0, 0, 0, 0, 0, 0, 0, 0, 0, 0, 0, 0, 0, 0, 0, 0, 0, 0, 0, 0, 0], [2, 0, 0, 0, 0, 0, 0, 0, 0, 0, 0, 0, 0, 0, 0, 0, 0, 0, 0, 0, 0, 0, 0, 0, 0, 0, 0, 0, 0, 0, 0, 0], [3, 0, 0, 0, 0, 0, 0, 0, 0, 0, 0, 0, 0, 0, 0, 0, 0, 0, 0, 0, 0, 0, 0, 0, 0, 0, 0, 0, 0, 0, 0, 0]]) 2 3 [4, 0, 0, 0, 0, 0, 0, 0, 0, 0, 0, 0, 0, 0, 0, 0, 0, 0, 0, 0, 0, 0, 0, 0, 0, 0, 0, 0, 0, 0, 0, 0])) 1 ≠ gT (allT [1, 0, 0, 0, 0, 0, 0, 0, 0, 0, 0, 0, 0, 0, 0, 0, 0, 0, 0, 0, 0, 0, 0, 0, 0, 0, 0, 0, 0, 0, 0, 0] (2 ^ 2) (padL (2 ^ 2) [[1, 0, 0, 0, 0, 0, 0, 0, 0, 0, 0, 0, 0, 0, 0, 0, 0, 0, 0, 0, 0, 0, 0, 0, 0, 0, 0, 0, 0, 0, 0, 0], [2, 0, 0, 0, 0, 0, 0, 0, 0, 0, 0, 0, 0, 0, 0, 0, 0, 0, 0, 0, 0, 0, 0, 0, 0, 0, 0, 0, 0, 0, 0, 0], [3, 0, 0, 0, 0, 0, 0, 0, 0, 0, 0, 0, 0, 0, 0, 0, 0, 0, 0, 0, 0, 0, 0, 0, 0, 0, 0, 0, 0, 0, 0, 0]])) 1 := ex_top (by rw [w_a, w_bn, w_tn, w_bo, w_to]; decide)
theorem wk_prf : (proofZ (allT [1, 0, 0, 0, 0, 0, 0, 0, 0, 0, 0, 0, 0, 0, 0, 0, 0, 0, 0, 0, 0, 0, 0, 0, 0, 0, 0, 0, 0, 0, 0, 0] (2 ^ 2) (lvZ (padL (2 ^ 2) [[1, 0, 0, 0, 0, 0, 0, 0, 0, 0, 0, 0, 0, 0, 0, 0, 0, 0, 0, 0, 0, 0, 0, 0, 0, 0, 0, 0, 0, 0, 0, 0], [2, 0, 0, 0, 0, 0, 0, 0, 0, 0, 0, 0, 0, 0, 0, 0, 0, 0, 0, 0, 0, 0, 0, 0, 0, 0, 0, 0, 0, 0, 0, 0], [3, 0, 0, 0, 0, 0, 0, 0, 0, 0, 0, 0, 0, 0, 0, 0, 0, 0, 0, 0, 0, 0, 0, 0, 0, 0, 0, 0, 0, 0, 0, 0]]) 2 3 [4, 0, 0, 0, 0, 0, 0, 0, 0, 0, 0, 0, 0, 0, 0, 0, 0, 0, 0, 0, 0, 0, 0, 0, 0, 0, 0, 0, 0, 0, 0, 0])) 2 3).length = 2 := proofZ_len (by decide)
theorem wk_chk : chkZ [1, 0, 0, 0, 0, 0, 0, 0, 0, 0, 0, 0, 0, 0, 0, 0, 0, 0, 0, 0, 0, 0, 0, 0, 0, 0, 0, 0, 0, 0, 0, 0] 3 [4, 0, 0, 0, 0, 0, 0, 0, 0, 0, 0, 0, 0, 0, 0, 0, 0, 0, 0, 0, 0, 0, 0, 0, 0, 0, 0, 0, 0, 0, 0, 0] (proofZ (allT [1, 0, 0, 0, 0, 0, 0, 0, 0, 0, 0, 0, 0, 0, 0, 0, 0, 0, 0, 0, 0, 0, 0, 0, 0, 0, 0, 0, 0, 0, 0, 0] (2 ^ 2) (lvZ (padL (2 ^ 2) [[1, 0, 0, 0, 0, 0, 0, 0, 0, 0, 0, 0, 0, 0, 0, 0, 0, 0, 0, 0, 0, 0, 0, 0, 0, 0, 0, 0, 0, 0, 0, 0], [2, 0, 0, 0, 0, 0, 0, 0, 0, 0, 0, 0, 0, 0, 0, 0, 0, 0, 0, 0, 0, 0, 0, 0, 0, 0, 0, 0, 0, 0, 0, 0], [3, 0, 0, 0, 0, 0, 0, 0, 0, 0, 0, 0, 0, 0, 0, 0, 0, 0, 0, 0, 0, 0, 0, 0, 0, 0, 0, 0, 0, 0, 0, 0]]) 2 3 [4, 0, 0, 0, 0, 0, 0, 0, 0, 0, 0, 0, 0, 0, 0, 0, 0, 0, 0, 0, 0, 0, 0, 0, 0, 0, 0, 0, 0, 0, 0, 0])) 2 3) (gT (allT [1, 0, 0, 0, 0, 0, 0, 0, 0, 0, 0, 0, 0, 0, 0, 0, 0, 0, 0, 0, 0, 0, 0, 0, 0, 0, 0, 0, 0, 0, 0, 0] (2 ^ 2) (lvZ (padL (2 ^ 2) [[1, 0, 0, 0, 0, 0, 0, 0, 0, 0, 0, 0, 0, 0, 0, 0, 0, 0, 0, 0, 0, 0, 0, 0, 0, 0, 0, 0, 0, 0, 0, 0], [2, 0, 0, 0, 0, 0, 0, 0, 0, 0, 0, 0, 0, 0, 0, 0, 0, 0, 0, 0, 0, 0, 0, 0, 0, 0, 0, 0, 0, 0, 0, 0], [3, 0, 0, 0, 0, 0, 0, 0, 0, 0, 0, 0, 0, 0, 0, 0, 0, 0, 0, 0, 0, 0, 0, 0, 0, 0, 0, 0, 0, 0, 0, 0]]) 2 3 [4, 0, 0, 0, 0, 0, 0, 0, 0, 0, 0, 0, 0, 0, 0, 0, 0, 0, 0, 0, 0, 0, 0, 0, 0, 0, 0, 0, 0, 0, 0, 0])) 1) = true := own_chkZ (z := 3) (lv := (lvZ (padL (2 ^ 2) [[1, 0, 0, 0, 0, 0, 0, 0, 0, 0, 0, 0, 0, 0, 0, 0, 0, 0, 0, 0, 0, 0, 0, 0, 0, 0, 0, 0, 0, 0, 0, 0], [2, 0, 0, 0, 0, 0, 0, 0, 0, 0, 0, 0, 0, 0, 0, 0, 0, 0, 0, 0, 0, 0, 0, 0, 0, 0, 0, 0, 0, 0, 0, 0], [3, 0, 0, 0, 0, 0, 0, 0, 0, 0, 0, 0, 0, 0, 0, 0, 0, 0, 0, 0, 0, 0, 0, 0, 0, 0, 0, 0, 0, 0, 0, 0]]) 2 3 [4, 0, 0, 0, 0, 0, 0, 0, 0, 0, 0, 0, 0, 0, 0, 0, 0, 0, 0, 0, 0, 0, 0, 0, 0, 0, 0, 0, 0, 0, 0, 0])) (by rw [set3]; intro t ht; simp only [List.mem_cons, List.not_mem_nil, or_false] at ht; rcases ht with rfl | rfl | rfl | rfl <;> rfl) (by decide) rfl (by decide)
end Go.Kx
/- Own library, part Td: what the laws of trees do, act by act. -/
set_option linter.unusedSimpArgs false
set_option linter.unusedVariables false
namespace Go.Kx
open Go
/-! ## What comes in -/
section
variable {P : Program} {W : World}
theorem dec_rowsV {α : Type} {f : α → List Value} {ok : α → Prop} {t e es by_ : Nat} (hu : P.underlying t = some (.slice e)) (hes : P.cellsOf e = es) (hby : P.bytesOf e = by_) (h0 : 0 < es) (hd : Dec P W e (fun cs => ∃ x, cs = f x ∧ ok x)) :
    Dec P W t (fun cs => ∃ (v : Value) (xs : List α) (c : Nat), cs = [v] ∧ (rd v es xs.length c (xs.flatMap f)).holds W ∧ (∀ x, x ∈ xs → ok x) ∧ xs.length * by_ ≤ 140737488351232) :=
  (dec_slice hu hes hby h0 hd).mono fun cs h => by
    obtain ⟨v, m, c, l, rfl, hr, hR, hb⟩ := h
    obtain ⟨xs, rfl, rfl, hok⟩ := flat_of h0 m l hr.1 hR
    exact ⟨v, xs, c, rfl, hr, hok, by
      have e : reachBytes = 140737488351232 := rfl
      omega⟩
end
end Go.Kx
/- Own library, part Tv: what the laws of proofs and of unlike trees need. -/
set_option linter.unusedSimpArgs false
set_option linter.unusedVariables false
namespace Go.Kx
open Go
section
variable {k : List UInt8} {h q : Nat} {lv : List Tg} {ps : List (List UInt8)} {tg : Tg}
theorem tag_leaf (hn : lv.length = 2 ^ h) (hq : q < 2 ^ h) : tagZ (allT k (2 ^ h) lv) (2 ^ h) ((2 ^ h + q : Nat) : Int) = gT lv q := by
  rw [tagZ_in (by omega), allT_leaf (by omega)]
theorem path_len (hh : 1 ≤ h ∧ h ≤ 12) (hq : q < 2 ^ h) : (pathZ (h : Int) (q : Int)).length = h := by
  rw [pathZ_in hh (by omega)]; exact pathL_len (by omega) (by omega)
theorem path_getD (hh : 1 ≤ h ∧ h ≤ 12) (hq : q < 2 ^ h) {j : Nat} (hj : j < h) : (pathZ (h : Int) (q : Int)).getD j 0 = (2 ^ h + q) / 2 ^ (j + 1) := by
  rw [pathZ_in hh (by omega), List.getD, pathL_at ((path_lt hq).2 hj)]; rfl
/-! ## Two trees of which one leaf is unlike -/
theorem node_same (hn : lv.length = 2 ^ h) (hq : q < 2 ^ h) {j : Nat} (h1 : 1 ≤ j) (hj : j < 2 ^ h) (hp : j ∉ pathL (2 ^ h + q)) : secA (allT k (2 ^ h) (lv.set q tg)) j = secA (allT k (2 ^ h) lv) j := by
  have he := (setT_all (k := k) (t := tg) hn hq).2.2
  have hup : ∀ i, i / 2 = j → i ≠ 2 ^ h + q ∧ i ∉ pathL (2 ^ h + q) := by
    intro i hi
    have hm : ∀ (x : Nat), x ∈ pathL (2 ^ h + q) → 1 ≤ x / 2 → x / 2 ∈ pathL (2 ^ h + q) := by
      intro x hx hx1
      rw [pathL_eq (h := h) (by omega) (by omega)] at hx ⊢
      obtain ⟨a, ha, rfl⟩ := List.mem_map.1 hx
      have ha' : a < h := List.mem_range.1 ha
      rw [← div_step] at hx1 ⊢
      exact List.mem_map.2 ⟨a + 1, List.mem_range.2 ((path_lt hq).1 hx1), rfl⟩
    refine ⟨fun e => hp ?_, fun e => hp ?_⟩
    · subst e
      rw [pathL_cons (by omega)]
      rw [← hi]; exact List.mem_cons_self ..
    · rw [← hi]; exact hm i e (by omega)
  unfold secA
  rw [he (2 * j) (hup _ (by omega)).1 (hup _ (by omega)).2, he (2 * j + 1) (hup _ (by omega)).1 (hup _ (by omega)).2]
theorem node_low (ho : OkTs lv) (ht : tg.length = 32) (hn : lv.length = 2 ^ h) (hq : q < 2 ^ h) : secA (allT k (2 ^ h) lv) ((2 ^ h + q) / 2) = secA (allT k (2 ^ h) (lv.set q tg)) ((2 ^ h + q) / 2) ↔ gT lv q = tg := by
  have hl : ∀ i, gT (allT k (2 ^ h) (lv.set q tg)) (2 ^ h + i) = if q = i then tg else gT lv i := fun i => by rw [allT_leaf (by simp; omega), gT_lv (by omega)]
  have hl0 : ∀ i, gT (allT k (2 ^ h) lv) (2 ^ h + i) = gT lv i := fun i => allT_leaf (by omega)
  have hev : ∀ h, 1 ≤ h → 2 ^ h % 2 = 0 := fun h hh => by cases h with
    | zero => omega
    | succ h => rw [Nat.pow_succ]; omega
  rcases Nat.eq_zero_or_pos h with rfl | hh
  · obtain rfl : q = 0 := by simpa using hq
    unfold secA
    rw [show (2 ^ 0 + 0) / 2 = 0 from rfl, show 2 * 0 + 1 = 2 ^ 0 + 0 from rfl, hl0, hl, if_pos rfl, show 2 * 0 = 0 from rfl, allT_zero (by decide) (by omega), allT_zero (by decide) (by simp; omega)]
    exact ⟨fun e => List.append_cancel_left e, fun e => by rw [e]⟩
  · have h2 := hev h hh
    unfold secA
    rcases Nat.mod_two_eq_zero_or_one q with e | e
    · have e1 : 2 * ((2 ^ h + q) / 2) = 2 ^ h + q := by omega
      rw [e1, show 2 ^ h + q + 1 = 2 ^ h + (q + 1) by omega, hl0, hl0, hl, hl, if_pos rfl, if_neg (by omega)]
      exact ⟨fun e => (List.append_cancel_right e), fun e => by rw [e]⟩
    · have e1 : 2 * ((2 ^ h + q) / 2) = 2 ^ h + (q - 1) := by omega
      rw [e1, show 2 ^ h + (q - 1) + 1 = 2 ^ h + q by omega, hl0, hl0, hl, hl, if_pos rfl, if_neg (by omega)]
      exact ⟨fun e => List.append_cancel_left e, fun e => by rw [e]⟩
theorem apart_node (hh : 1 ≤ h ∧ h ≤ 12) (hn : lv.length = 2 ^ h) (hq : q < 2 ^ h) {j : Nat} (h1 : 1 ≤ j) (hj : j < 2 ^ h) (hp : ¬ j ∈ pathZ (h : Int) (q : Int)) : nodeZ (allT k (2 ^ h) lv) (2 ^ h) (j : Int) = nodeZ (allT k (2 ^ h) (lvZ lv h (q : Int) tg)) (2 ^ h) (j : Int) := by
  rw [pathZ_in hh (by omega)] at hp
  rw [nodeZ_in (by omega), nodeZ_in (by omega), lvZ_in (by omega)]
  exact (node_same hn hq h1 hj hp).symm
theorem apart_low (ho : OkTs lv) (ht : tg.length = 32) (hh : 1 ≤ h ∧ h ≤ 12) (hn : lv.length = 2 ^ h) (hq : q < 2 ^ h) {j : Nat} (hj : j = (pathZ (h : Int) (q : Int)).getD 0 0) : nodeZ (allT k (2 ^ h) lv) (2 ^ h) (j : Int) = nodeZ (allT k (2 ^ h) (lvZ lv h (q : Int) tg)) (2 ^ h) (j : Int) ↔ tagZ (allT k (2 ^ h) lv) (2 ^ h) ((2 ^ h + q : Nat) : Int) = tg := by
  rw [path_getD hh hq (by omega)] at hj
  have hj' : j = (2 ^ h + q) / 2 := hj
  subst hj'
  have hpw := two_pow_le hh
  rw [tag_leaf hn hq, nodeZ_in (by omega), nodeZ_in (by omega), lvZ_in (by omega)]
  exact node_low ho ht hn hq
end
theorem neq_same {a b : Prop} [Decidable a] [Decidable b] (h : a ↔ b) : (!(decide a == decide b)) = false := by
  by_cases hb : b
  · rw [decide_eq_true hb, decide_eq_true (h.2 hb)]; rfl
  · rw [decide_eq_false hb, decide_eq_false fun e => hb (h.1 e)]; rfl
theorem on_yes {l : List Nat} {x i : Nat} (h : x ∈ l.take i) : true = decide (x ∈ l.take (i + 1)) := (decide_eq_true (by
  rw [List.take_add_one]; exact List.mem_append_left _ h)).symm
theorem on_no {l : List Nat} {x i : Nat} (hi : i < l.length) (h : ¬ x ∈ l.take i) : decide (((l.getD i 0 : Nat) : Int) = ((x : Nat) : Int)) = decide (x ∈ l.take (i + 1)) := by
  rw [take_snocG (d := 0) hi]
  refine decide_eq_decide.2 ?_
  rw [List.mem_append, List.mem_singleton]
  constructor
  · intro e; exact .inr (by omega)
  · rintro (e | e)
    · exact absurd e h
    · omega
theorem bin_tmod {P : Program} {t : TypeId} {z r : Int} {n : Nat} (hn : 0 < n) (hr : z.tmod (n : Int) = r) : Bin P .rem t (.int .i64 z) (.int .i64 (n : Int)) (.int .i64 r) := bin_rem (by omega) hr
theorem tmod_case (z : Int) {n : Nat} (hn : 0 < n) : (∃ q : Nat, q < n ∧ z.tmod (n : Int) = (q : Int)) ∨ (∃ q : Nat, q < n ∧ z.tmod (n : Int) + (n : Int) = (q : Int) ∧ z.tmod (n : Int) < 0) := by
  have h1 := Int.tmod_lt_of_pos z (show (0 : Int) < (n : Int) by omega)
  have h2 : -(n : Int) < z.tmod (n : Int) := by
    rcases Int.lt_or_le z 0 with hz | hz
    · have h3 := Int.tmod_lt_of_pos (-z) (show (0 : Int) < (n : Int) by omega)
      rw [Int.neg_tmod] at h3
      omega
    · have := Int.tmod_nonneg (n : Int) hz; omega
  rcases Int.lt_or_le (z.tmod (n : Int)) 0 with hz | hz
  · exact .inr ⟨(z.tmod (n : Int) + (n : Int)).toNat, by omega, by omega, hz⟩
  · exact .inl ⟨(z.tmod (n : Int)).toNat, by omega, by omega⟩
/-! ## The reference -/
end Go.Kx
