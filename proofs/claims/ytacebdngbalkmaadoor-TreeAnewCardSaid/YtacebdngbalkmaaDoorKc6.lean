/- Own library: parts KxTk, KxTd. -/
import Derived.Test.YtacebdngbalkmaaDoorKc5
set_option linter.unusedSimpArgs false
set_option linter.unusedVariables false
/- Own library, part Tk: the examples of trees. -/
set_option linter.unusedSimpArgs false
set_option linter.unusedVariables false
namespace Go.Kx
open Go
theorem all_node {k : List UInt8} {n j : Nat} {lv : List Tg} (h : lv.length ≤ n) (h1 : 1 ≤ j) (h2 : j < n) : gT (allT k n lv) j = nd k j (secA (allT k n lv) j) := (allT_ce h).at_ j h1 h2 (by omega)
section
variable {k a b c d : List UInt8}
theorem pad3 : padL (2 ^ 2) [a, b, c] = [a, b, c, zTg] := rfl
theorem set3 : lvZ (padL (2 ^ 2) [a, b, c]) 2 3 d = [a, b, c, d] := rfl
theorem all_sec2 : secA (allT k (2 ^ 2) [a, b, c, d]) 2 = a ++ b := by
  unfold secA
  rw [show 2 * 2 = 2 ^ 2 + 0 from rfl, show 2 ^ 2 + 0 + 1 = 2 ^ 2 + 1 from rfl, allT_leaf (by simp), allT_leaf (by simp)]
  rfl
theorem all_sec3 : secA (allT k (2 ^ 2) [a, b, c, d]) 3 = c ++ d := by
  unfold secA
  rw [show 2 * 3 = 2 ^ 2 + 2 from rfl, show 2 ^ 2 + 2 + 1 = 2 ^ 2 + 3 from rfl, allT_leaf (by simp), allT_leaf (by simp)]
  rfl
theorem all_2 : gT (allT k (2 ^ 2) [a, b, c, d]) 2 = nd k 2 (a ++ b) := by rw [all_node (by simp) (by decide) (by decide), all_sec2]
theorem all_3 : gT (allT k (2 ^ 2) [a, b, c, d]) 3 = nd k 3 (c ++ d) := by rw [all_node (by simp) (by decide) (by decide), all_sec3]
theorem all_1 : gT (allT k (2 ^ 2) [a, b, c, d]) 1 = nd k 1 (nd k 2 (a ++ b) ++ nd k 3 (c ++ d)) := by
  rw [all_node (by simp) (by decide) (by decide)]
  unfold secA
  rw [show 2 * 1 = 2 from rfl, show 2 + 1 = 3 from rfl, all_2, all_3]
theorem all_leaf {i : Nat} {lv : List Tg} (h : lv.length ≤ 2 ^ 2) : gT (allT k (2 ^ 2) lv) (2 ^ 2 + i) = gT lv i := allT_leaf h
theorem ok31 : ∀ x, x ∈ ([3, 1] : List Nat) → x < 4096 := by intro x hx; simp only [List.mem_cons, List.not_mem_nil, or_false] at hx; omega
theorem path7 : pathL 7 = [3, 1] := by decide
theorem ex_chg (hd : zTg ≠ d) (hne : nd k 3 (c ++ zTg) ≠ nd k 3 (c ++ d)) : chgZ k 2 (padL (2 ^ 2) [a, b, c]) 3 d = [3, 1] := by
  have hz : inN 0 (2 ^ 2) ((3 : Nat) : Int) := by decide
  have e := chgZ_in (k := k) (lv := padL (2 ^ 2) [a, b, c]) (t := d) hz
  have e2 : (padL (2 ^ 2) [a, b, c]).set 3 d = [a, b, c, d] := rfl
  rw [e2, pad3] at e
  rw [pad3]
  refine e.trans ?_
  rw [show 2 ^ 2 + 3 = 7 from rfl, path7]
  have h1 : chg (allT k (2 ^ 2) [a, b, c, zTg]) (allT k (2 ^ 2) [a, b, c, d]) 3 = true := by
    unfold chg
    rw [show 2 * 3 + 1 = 2 ^ 2 + 3 from rfl, all_leaf (by simp), all_leaf (by simp)]
    simp only [Bool.or_eq_true, decide_eq_true_eq]
    exact .inr hd
  have h2 : chg (allT k (2 ^ 2) [a, b, c, zTg]) (allT k (2 ^ 2) [a, b, c, d]) 1 = true := by
    unfold chg
    rw [show 2 * 1 + 1 = 3 from rfl, all_3, all_3]
    simp only [Bool.or_eq_true, decide_eq_true_eq]
    exact .inr hne
  simp only [List.filter_cons, h1, h2, if_true, List.filter_nil]
theorem ex_top (hne : nd k 1 (nd k 2 (a ++ b) ++ nd k 3 (c ++ d)) ≠ nd k 1 (nd k 2 (a ++ b) ++ nd k 3 (c ++ zTg))) : gT (allT k (2 ^ 2) (lvZ (padL (2 ^ 2) [a, b, c]) 2 3 d)) 1 ≠ gT (allT k (2 ^ 2) (padL (2 ^ 2) [a, b, c])) 1 := by
  rw [set3, pad3, all_1, all_1]; exact hne
/-- The tree's own proof leads to its top. -/
theorem own_chkZ {h : Nat} {lv : List Tg} {z : Int} (ho : OkTs lv) (hh : 1 ≤ h ∧ h ≤ 12) (hn : lv.length = 2 ^ h) (hz : inN 0 (2 ^ h) z) : chkZ k z (gT lv z.toNat) (proofZ (allT k (2 ^ h) lv) h z) (gT (allT k (2 ^ h) lv) 1) = true := by
  obtain ⟨q, rfl⟩ : ∃ q : Nat, z = (q : Int) := ⟨z.toNat, by omega⟩
  rw [proofZ_in hz, chkZ_in (by simpa using hh) (by rw [ownP_length]; exact hz), ownP_length, show ((q : Int).toNat) = q from rfl, ← allT_leaf (k := k) (n := 2 ^ h) (lv := lv) (i := q) (by omega)]
  exact own_chk ho.all (allT_ce (by omega)) (by omega) (by omega)
theorem proofZ_len {h : Nat} {l : List Tg} {z : Int} (hz : inN 0 (2 ^ h) z) : (proofZ l h z).length = h := by
  unfold proofZ; rw [if_pos hz]; simp
end
theorem w_a : nd [1, 0, 0, 0, 0, 0, 0, 0, 0, 0, 0, 0, 0, 0, 0, 0, 0, 0, 0, 0, 0, 0, 0, 0, 0, 0, 0, 0, 0, 0, 0, 0] 2 ([1, 0, 0, 0, 0, 0, 0, 0, 0, 0, 0, 0, 0, 0, 0, 0, 0, 0, 0, 0, 0, 0, 0, 0, 0, 0, 0, 0, 0, 0, 0, 0] ++ [2, 0, 0, 0, 0, 0, 0, 0, 0, 0, 0, 0, 0, 0, 0, 0, 0, 0, 0, 0, 0, 0, 0, 0, 0, 0, 0, 0, 0, 0, 0, 0]) = [71, 162, 57, 173, 106, 65, 54, 33, 1, 9, 200, 100, 138, 108, 206, 97, 151, 22, 217, 41, 218, 255, 78, 124, 96, 82, 212, 202, 111, 151, 69, 4] := by decide +kernel
theorem w_bo : nd [1, 0, 0, 0, 0, 0, 0, 0, 0, 0, 0, 0, 0, 0, 0, 0, 0, 0, 0, 0, 0, 0, 0, 0, 0, 0, 0, 0, 0, 0, 0, 0] 3 ([3, 0, 0, 0, 0, 0, 0, 0, 0, 0, 0, 0, 0, 0, 0, 0, 0, 0, 0, 0, 0, 0, 0, 0, 0, 0, 0, 0, 0, 0, 0, 0] ++ zTg) = [15, 109, 179, 45, 117, 190, 200, 133, 81, 188, 224, 237, 5, 66, 218, 43, 177, 218, 38, 236, 157, 84, 47, 159, 106, 39, 182, 109, 31, 189, 212, 174] := by decide +kernel
theorem w_bn : nd [1, 0, 0, 0, 0, 0, 0, 0, 0, 0, 0, 0, 0, 0, 0, 0, 0, 0, 0, 0, 0, 0, 0, 0, 0, 0, 0, 0, 0, 0, 0, 0] 3 ([3, 0, 0, 0, 0, 0, 0, 0, 0, 0, 0, 0, 0, 0, 0, 0, 0, 0, 0, 0, 0, 0, 0, 0, 0, 0, 0, 0, 0, 0, 0, 0] ++ [4, 0, 0, 0, 0, 0, 0, 0, 0, 0, 0, 0, 0, 0, 0, 0, 0, 0, 0, 0, 0, 0, 0, 0, 0, 0, 0, 0, 0, 0, 0, 0]) = [184, 230, 106, 68, 124, 16, 225, 75, 141, 70, 217, 215, 220, 170, 124, 138, 39, 219, 94, 18, 37, 162, 3, 199, 13, 250, 242, 92, 129, 16, 246, 85] := by decide +kernel
theorem w_to : nd [1, 0, 0, 0, 0, 0, 0, 0, 0, 0, 0, 0, 0, 0, 0, 0, 0, 0, 0, 0, 0, 0, 0, 0, 0, 0, 0, 0, 0, 0, 0, 0] 1 ([71, 162, 57, 173, 106, 65, 54, 33, 1, 9, 200, 100, 138, 108, 206, 97, 151, 22, 217, 41, 218, 255, 78, 124, 96, 82, 212, 202, 111, 151, 69, 4] ++ [15, 109, 179, 45, 117, 190, 200, 133, 81, 188, 224, 237, 5, 66, 218, 43, 177, 218, 38, 236, 157, 84, 47, 159, 106, 39, 182, 109, 31, 189, 212, 174]) = [244, 15, 32, 46, 41, 131, 198, 77, 46, 197, 233, 209, 129, 227, 201, 105, 87, 116, 169, 201, 26, 99, 208, 208, 150, 182, 188, 80, 169, 233, 240, 228] := by decide +kernel
theorem w_tn : nd [1, 0, 0, 0, 0, 0, 0, 0, 0, 0, 0, 0, 0, 0, 0, 0, 0, 0, 0, 0, 0, 0, 0, 0, 0, 0, 0, 0, 0, 0, 0, 0] 1 ([71, 162, 57, 173, 106, 65, 54, 33, 1, 9, 200, 100, 138, 108, 206, 97, 151, 22, 217, 41, 218, 255, 78, 124, 96, 82, 212, 202, 111, 151, 69, 4] ++ [184, 230, 106, 68, 124, 16, 225, 75, 141, 70, 217, 215, 220, 170, 124, 138, 39, 219, 94, 18, 37, 162, 3, 199, 13, 250, 242, 92, 129, 16, 246, 85]) = [80, 202, 20, 206, 197, 127, 203, 138, 65, 109, 38, 38, 243, 78, 132, 71, 77, 15, 144, 207, 21, 105, 63, 219, 181, 222, 132, 156, 252, 183, 201, 52] := by decide +kernel
theorem wk_chg : chgZ [1, 0, 0, 0, 0, 0, 0, 0, 0, 0, 0, 0, 0, 0, 0, 0, 0, 0, 0, 0, 0, 0, 0, 0, 0, 0, 0, 0, 0, 0, 0, 0] 2 (padL (2 ^ 2) [[1, 0, 0, 0, 0, 0, 0, 0, 0, 0, 0, 0, 0, 0, 0, 0, 0, 0, 0, 0, 0, 0, 0, 0, 0, 0, 0, 0, 0, 0, 0, 0], [2, 0, 0, 0, 0, 0, 0, 0, 0, 0, 0, 0, 0, 0, 0, 0, 0, 0, 0, 0, 0, 0, 0, 0, 0, 0, 0, 0, 0, 0, 0, 0], [3, 0, 0, 0, 0, 0, 0, 0, 0, 0, 0, 0, 0, 0, 0, 0, 0, 0, 0, 0, 0, 0, 0, 0, 0, 0, 0, 0, 0, 0, 0, 0]]) 3 [4, 0, 0, 0, 0, 0, 0, 0, 0, 0, 0, 0, 0, 0, 0, 0, 0, 0, 0, 0, 0, 0, 0, 0, 0, 0, 0, 0, 0, 0, 0, 0] = [3, 1] := ex_chg (by decide) (by rw [w_bo, w_bn]; decide)
theorem wk_top : gT (allT [1, 0, 0, 0, 0, 0, 0, 0, 0, 0, 0, 0, 0, 0, 0, 0, 0, 0, 0, 0, 0, 0, 0, 0, 0, 0, 0, 0, 0, 0, 0, 0] (2 ^ 2) (lvZ (padL (2 ^ 2) [[1, 0, 0, 0, 0, 0, 0, 0, 0, 0, 0, 0, 0, 0, 0, 0, 0, 0, 0, 0, 0, 0, 0, 0, 0, 0, 0, 0, 0, 0, 0, 0], [2, 0, 0, 0, 0, 0, 0, 0, 0, 0, 0, 0, 0, 0, 0, 0, 0, 0, 0, 0, 0, 0, 0, 0, 0, 0, 0, 0, 0, 0, 0, 0], [3, 0, 0, 0, 0, 0, 0, 0, 0, 0, 0, 0, 0, 0, 0, 0, 0, 0, 0, 0, 0, 0, 0, 0, 0, 0, 0, 0, 0, 0, 0, 0]]) 2 3 [4, 0, 0, 0, 0, 0, 0, 0, 0, 0, 0, 0, 0, 0, 0, 0, 0, 0, 0, 0, 0, 0, 0, 0, 0, 0, 0, 0, 0, 0, 0, 0])) 1 ≠ gT (allT [1, 0, 0, 0, 0, 0, 0, 0, 0, 0, 0, 0, 0, 0, 0, 0, 0, 0, 0, 0, 0, 0, 0, 0, 0, 0, 0, 0, 0, 0, 0, 0] (2 ^ 2) (padL (2 ^ 2) [[1, 0, 0, 0, 0, 0, 0, 0, 0, 0, 0, 0, 0, 0, 0, 0, 0, 0, 0, 0, 0, 0, 0, 0, 0, 0, 0, 0, 0, 0, 0, 0], [2, 0, 0, 0, 0, 0, 0, 0, 0, 0, 0, 0, 0, 0, 0, 0, 0, 0, 0, 0, 0, 0, 0, 0, 0, 0, 0, 0, 0, 0, 0, 0], [3, 0, 0, 0, 0, 0, 0, 0, 0, 0, 0, 0, 0, 0, 0, 0, 0, 0, 0, 0, 0, 0, 0, 0, 0, 0, 0, 0, 0, 0, 0, 0]])) 1 := ex_top (by rw [w_a, w_bn, w_tn, w_bo, w_to]; decide)
theorem wk_prf : (proofZ (allT [1, 0, 0, 0, 0, 0, 0, 0, 0, 0, 0, 0, 0, 0, 0, 0, 0, 0, 0, 0, 0, 0, 0, 0, 0, 0, 0, 0, 0, 0, 0, 0] (2 ^ 2) (lvZ (padL (2 ^ 2) [[1, 0, 0, 0, 0, 0, 0, 0, 0, 0, 0, 0, 0, 0, 0, 0, 0, 0, 0, 0, 0, 0, 0, 0, 0, 0, 0, 0, 0, 0, 0, 0], [2, 0, 0, 0, 0, 0, 0, 0, 0, 0, 0, 0, 0, 0, 0, 0, 0, 0, 0, 0, 0, 0, 0, 0, 0, 0, 0, 0, 0, 0, 0, 0], [3, 0, 0, 0, 0, 0, 0, 0, 0, 0, 0, 0, 0, 0, 0, 0, 0, 0, 0, 0, 0, 0, 0, 0, 0, 0, 0, 0, 0, 0, 0, 0]]) 2 3 [4, 0, 0, 0, 0, 0, 0, 0, 0, 0, 0, 0, 0, 0, 0, 0, 0, 0, 0, 0, 0, 0, 0, 0, 0, 0, 0, 0, 0, 0, 0, 0])) 2 3).length = 2 := proofZ_len (by decide)
theorem wk_chk : chkZ [1, 0, 0, 0, 0, 0, 0, 0, 0, 0, 0, 0, 0, 0, 0, 0, 0, 0, 0, 0, 0, 0, 0, 0, 0, 0, 0, 0, 0, 0, 0, 0] 3 [4, 0, 0, 0, 0, 0, 0, 0, 0, 0, 0, 0, 0, 0, 0, 0, 0, 0, 0, 0, 0, 0, 0, 0, 0, 0, 0, 0, 0, 0, 0, 0] (proofZ (allT [1, 0, 0, 0, 0, 0, 0, 0, 0, 0, 0, 0, 0, 0, 0, 0, 0, 0, 0, 0, 0, 0, 0, 0, 0, 0, 0, 0, 0, 0, 0, 0] (2 ^ 2) (lvZ (padL (2 ^ 2) [[1, 0, 0, 0, 0, 0, 0, 0, 0, 0, 0, 0, 0, 0, 0, 0, 0, 0, 0, 0, 0, 0, 0, 0, 0, 0, 0, 0, 0, 0, 0, 0], [2, 0, 0, 0, 0, 0, 0, 0, 0, 0, 0, 0, 0, 0, 0, 0, 0, 0, 0, 0, 0, 0, 0, 0, 0, 0, 0, 0, 0, 0, 0, 0], [3, 0, 0, 0, 0, 0, 0, 0, 0, 0, 0, 0, 0, 0, 0, 0, 0, 0, 0, 0, 0, 0, 0, 0, 0, 0, 0, 0, 0, 0, 0, 0]]) 2 3 [4, 0, 0, 0, 0, 0, 0, 0, 0, 0, 0, 0, 0, 0, 0, 0, 0, 0, 0, 0, 0, 0, 0, 0, 0, 0, 0, 0, 0, 0, 0, 0])) 2 3) (gT (allT [1, 0, 0, 0, 0, 0, 0, 0, 0, 0, 0, 0, 0, 0, 0, 0, 0, 0, 0, 0, 0, 0, 0, 0, 0, 0, 0, 0, 0, 0, 0, 0] (2 ^ 2) (lvZ (padL (2 ^ 2) [[1, 0, 0, 0, 0, 0, 0, 0, 0, 0, 0, 0, 0, 0, 0, 0, 0, 0, 0, 0, 0, 0, 0, 0, 0, 0, 0, 0, 0, 0, 0, 0], [2, 0, 0, 0, 0, 0, 0, 0, 0, 0, 0, 0, 0, 0, 0, 0, 0, 0, 0, 0, 0, 0, 0, 0, 0, 0, 0, 0, 0, 0, 0, 0], [3, 0, 0, 0, 0, 0, 0, 0, 0, 0, 0, 0, 0, 0, 0, 0, 0, 0, 0, 0, 0, 0, 0, 0, 0, 0, 0, 0, 0, 0, 0, 0]]) 2 3 [4, 0, 0, 0, 0, 0, 0, 0, 0, 0, 0, 0, 0, 0, 0, 0, 0, 0, 0, 0, 0, 0, 0, 0, 0, 0, 0, 0, 0, 0, 0, 0])) 1) = true := own_chkZ (z := 3) (lv := (lvZ (padL (2 ^ 2) [[1, 0, 0, 0, 0, 0, 0, 0, 0, 0, 0, 0, 0, 0, 0, 0, 0, 0, 0, 0, 0, 0, 0, 0, 0, 0, 0, 0, 0, 0, 0, 0], [2, 0, 0, 0, 0, 0, 0, 0, 0, 0, 0, 0, 0, 0, 0, 0, 0, 0, 0, 0, 0, 0, 0, 0, 0, 0, 0, 0, 0, 0, 0, 0], [3, 0, 0, 0, 0, 0, 0, 0, 0, 0, 0, 0, 0, 0, 0, 0, 0, 0, 0, 0, 0, 0, 0, 0, 0, 0, 0, 0, 0, 0, 0, 0]]) 2 3 [4, 0, 0, 0, 0, 0, 0, 0, 0, 0, 0, 0, 0, 0, 0, 0, 0, 0, 0, 0, 0, 0, 0, 0, 0, 0, 0, 0, 0, 0, 0, 0])) (by rw [set3]; intro t ht; simp only [List.mem_cons, List.not_mem_nil, or_false] at ht; rcases ht with rfl | rfl | rfl | rfl <;> rfl) (by decide) rfl (by decide)
end Go.Kx
/- Own library, part Td: what the laws of trees do, act by act. -/
set_option linter.unusedSimpArgs false
set_option linter.unusedVariables false
namespace Go.Kx
open Go
/-- An act: what, leaf, tag (its cells are wcl's). -/
def ac0 : Wr := (0, 0, zTg)
def OkAc (x : Wr) : Prop := x.2.2.length = 32 ∧ In64 x.1 ∧ In64 x.2.1
theorem acl_len {x : Wr} (h : x.2.2.length = 32) : (wcl x).length = 34 := by simp [wcl, h]
theorem acl_data {x : Wr} (h : x.2.2.length = 32) : ((wcl x).drop 2).take 32 = bv x.2.2 := by
  simp only [wcl, List.flatten_cons, List.flatten_nil, List.append_nil, List.singleton_append, List.drop_succ_cons, List.drop_zero]
  rw [List.take_of_length_le (by simp [h])]
/-- The leaves behind i acts that all set. -/
def playA (h : Nat) (lv : List Tg) (acs : List Wr) (i : Nat) : List Tg := (acs.take i).foldl (fun v a => lvZ v h a.2.1 a.2.2) lv
theorem playA_succ {h i : Nat} {lv : List Tg} {acs : List Wr} (hi : i < acs.length) : playA h lv acs (i + 1) = lvZ (playA h lv acs i) h (acs.getD i ac0).2.1 (acs.getD i ac0).2.2 := by
  unfold playA
  rw [take_snocG (d := ac0) hi, List.foldl_append]
  rfl
theorem playA_inv {h : Nat} {lv : List Tg} {acs : List Wr} (ho : OkTs lv) (ha : ∀ x, x ∈ acs → OkAc x) : ∀ {i : Nat}, i ≤ acs.length → OkTs (playA h lv acs i) ∧ (playA h lv acs i).length = lv.length
  | 0, _ => ⟨ho, rfl⟩
  | i + 1, hi => by
    obtain ⟨h1, h2⟩ := playA_inv (i := i) ho ha (by omega)
    rw [playA_succ (by omega)]
    exact ⟨lvZ_ok h1 (ha _ (getD_mem (by omega))).1, by rw [lvZ_len, h2]⟩
theorem eZ_iff {a b : Nat} {z : Int} : ((eZ a b z : Nat) : Int) = 0 ↔ inN a b z := by
  unfold eZ
  by_cases h : inN a b z
  · simp only [if_pos h]; exact ⟨fun _ => h, fun _ => rfl⟩
  · simp only [if_neg h]; exact ⟨fun e => absurd e (by decide), fun e => absurd e h⟩
theorem eZ_dec {a b : Nat} {z : Int} : decide (((eZ a b z : Nat) : Int) = 0) = decide (inN a b z) := decide_eq_decide.2 eZ_iff
theorem pad_grow {i : Nat} {lv : List Tg} : lv ++ List.replicate i zTg ++ [zTg] = lv ++ List.replicate (i + 1) zTg := by rw [List.append_assoc, ← List.replicate_succ']
/-! ## What comes in -/
section
variable {P : Program} {W : World}
theorem dec_rowsV {α : Type} {f : α → List Value} {ok : α → Prop} {t e es by_ : Nat} (hu : P.underlying t = some (.slice e)) (hes : P.cellsOf e = es) (hby : P.bytesOf e = by_) (h0 : 0 < es) (hd : Dec P W e (fun cs => ∃ x, cs = f x ∧ ok x)) :
    Dec P W t (fun cs => ∃ (v : Value) (xs : List α) (c : Nat), cs = [v] ∧ (rd v es xs.length c (xs.flatMap f)).holds W ∧ (∀ x, x ∈ xs → ok x) ∧ xs.length * by_ ≤ 140737488351232) :=
  (dec_slice hu hes hby h0 hd).mono fun cs h => by
    obtain ⟨v, m, c, l, rfl, hr, hR, hb⟩ := h
    obtain ⟨xs, rfl, rfl, hok⟩ := flat_of h0 m l hr.1 hR
    exact ⟨v, xs, c, rfl, hr, hok, by
      have e : reachBytes = 140737488351232 := rfl
      omega⟩
theorem ac_of {r i : Int} {dd : List UInt8} {cs : List Value} (hl : cs.length = 34) (h0 : (cs.drop 0).take 1 = [.int .i64 r]) (h1 : (cs.drop 1).take 1 = [.int .i64 i]) (h2 : (cs.drop 2).take 32 = bv dd) : cs = wcl (r, i, dd) := by
  match cs, hl with
  | u :: v :: q, hl =>
    simp only [List.length_cons, Nat.add_right_cancel_iff] at hl
    simp only [List.drop_zero, List.take_succ_cons, List.take_zero, List.cons.injEq, and_true] at h0
    simp only [List.drop_succ_cons, List.drop_zero, List.take_succ_cons, List.take_zero, List.cons.injEq, and_true] at h1
    simp only [List.drop_succ_cons, List.drop_zero] at h2
    rw [List.take_of_length_le (by omega)] at h2
    rw [h0, h1, h2]; simp [wcl]
theorem dec_ac {t t0 t1 t2 e : Nat} {fs : Array Field} (hu : P.underlying t = some (.struct fs)) (hs : P.cellsOf t = 34) (hl : fs.toList.map (fun f => (f.type, f.offset, P.cellsOf f.type)) = [(t0, 0, 1), (t1, 1, 1), (t2, 2, 32)])
    (h0 : P.underlying t0 = some (.int .i64)) (h1 : P.underlying t1 = some (.int .i64)) (h2 : P.underlying t2 = some (.array 32 e)) (he : P.underlying e = some (.int .u8)) (hes : P.cellsOf e = 1) (hts : P.cellsOf t2 = 32) : Dec P W t (fun cs => ∃ x : Wr, cs = wcl x ∧ OkAc x) :=
  (dec_structL [(t0, 0, 1, fun cs => ∃ i, cs = [.int .i64 i] ∧ IntKind.i64.min ≤ i ∧ i ≤ IntKind.i64.max), (t1, 1, 1, fun cs => ∃ i, cs = [.int .i64 i] ∧ IntKind.i64.min ≤ i ∧ i ≤ IntKind.i64.max), (t2, 2, 32, fun cs => ∃ bs : List UInt8, cs = bv bs ∧ bs.length = 32)] hu hs hl (by
    intro p hp
    simp only [List.mem_cons, List.not_mem_nil, or_false] at hp
    rcases hp with rfl | rfl | rfl
    · exact dec_int h0
    · exact dec_int h1
    · exact dec_arr8 h2 he hes hts)).mono fun cs h => by
    obtain ⟨i, hi, hi1, hi2⟩ := h.2 _ (.head _)
    obtain ⟨j, hj, hj1, hj2⟩ := h.2 _ (.tail _ (.head _))
    obtain ⟨b, hb, hb1⟩ := h.2 _ (.tail _ (.tail _ (.head _)))
    exact ⟨(i, j, b), ac_of h.1 hi hj hb, hb1, ⟨hi1, hi2⟩, hj1, hj2⟩
end
end Go.Kx
