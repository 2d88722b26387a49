/- Own library: parts KxSd. -/
import Derived.Test.YtbjdbiljkkfklaaDoorKc4
import Derived.Stop.LaidErr
set_option linter.unusedSimpArgs false
set_option linter.unusedVariables false
/- Own library, part Sd: digests spelt, in plain Lean; prefixes that may be none. -/
set_option linter.unusedSimpArgs false
namespace Go.Kx
open Go

/-! ## Digits -/
def deB64 : List Int := [0, 1, 56, 2, 57, 49, 28, 3, 61, 58, 42, 50, 38, 29, 17, 4, 62, 47, 59, 36, 45, 43, 51, 22, 53, 39, 33, 30, 24, 18, 12, 5, 63, 55, 48, 27, 60, 41, 37, 16, 46, 35, 44, 21, 52, 32, 23, 11, 54, 26, 40, 15, 34, 20, 31, 10, 25, 14, 19, 9, 13, 8, 7, 6]
theorem Ent.stay {e : Ent} {w w' : World} {H : List Ent} (h : e.holds w) (hM : Mem w [] w' H) : e.holds w' := e.loc w w' h fun b hb => hM.frame b (e.old w h b hb) (by simp)
theorem bld_lt {T e B b : Nat} {bs : List Value} {w : World} (h : Lib.IsBuilderF T e B b bs w) : b < w.heap.size := h.elim (fun x => x.lt) (fun x => x.lt)
def digL : List UInt8 := [48, 49, 50, 51, 52, 53, 54, 55, 56, 57, 97, 98, 99, 100, 101, 102, 103, 104, 105, 106, 107, 108, 109, 110, 111, 112, 113, 114, 115, 116, 117, 118, 119, 120, 121, 122]
def fmt3 (n : Nat) : List UInt8 := [digL.getD (n / 2 ^ 4 / 2 ^ 4) 0, digL.getD (n / 2 ^ 4 % 2 ^ 4) 0, digL.getD (n % 2 ^ 4) 0]
theorem fmt3_tail (c : UInt8) : (fmt3 (c.toNat + 256)).drop 1 = [hexD.getD (c.toNat / 16) 0, hexD.getD (c.toNat % 16) 0] := by
  have hc := c.toNat_lt
  have e1 : (c.toNat + 256) / 2 ^ 4 % 2 ^ 4 = c.toNat / 16 := by omega
  have e2 : (c.toNat + 256) % 2 ^ 4 = c.toNat % 16 := by omega
  have key : ∀ k, k < 16 → digL.getD k 0 = hexD.getD k 0 := by decide
  show [digL.getD ((c.toNat + 256) / 2 ^ 4 % 2 ^ 4) 0, digL.getD ((c.toNat + 256) % 2 ^ 4) 0] = _
  rw [e1, e2, key _ (by omega), key _ (by omega)]
theorem bld_hex {T e B b : Nat} {t : List UInt8} {i : Nat} {w : World} (hi : i < t.length) (h : Lib.IsBuilderF T e B b (Lib.byteCells (hexL (t.take i)) ++ Lib.strCells (str ((fmt3 ((t.getD i 0).toNat + 256)).drop 1))) w) : Lib.IsBuilderF T e B b (Lib.byteCells (hexL (t.take (i + 1)))) w := by
  rw [hexL_succ hi, ← fmt3_tail, Lib.byteCells_append]; exact h
/-! ## The program's way -/
/-! ## The reference's way -/
def hexI (t : List UInt8) : Nat → List UInt8
  | 0 => []
  | i + 1 => hexI t i ++ [hexD.getD (if i % 2 = 1 then (t.getD (i / 2) 0).toNat % 16 else (t.getD (i / 2) 0).toNat / 16) 0]
@[simp] theorem hexI_len (t : List UInt8) : ∀ i, (hexI t i).length = i
  | 0 => rfl
  | i + 1 => by simp [hexI, hexI_len t i]
/-! ## Both are alike -/
/-! ## Errors of the library's that a variable holds -/
/-! ## Prefixes that may be none -/
abbrev Pf := Option (List UInt32 × Nat)
def zeroP : List Value := wd (List.replicate 8 0) ++ [.int .i64 0, .bool false]
def pfL : Pf → List Value
  | none => zeroP
  | some (ns, z) => prefL ns z
def OkPf : Pf → Prop
  | none => True
  | some (ns, z) => ns.length = 8 ∧ z % 64 = 0 ∧ z ≤ 1099511627776
def pfA (b : List UInt8) : Pf := if b.length % 64 = 0 then some (overW (b.length / 64) seedsW b, b.length) else none
def pfE (b : List UInt8) : Nat := if b.length % 64 = 0 then 0 else 2
def pfS (p : Pf) (b : List UInt8) : List UInt8 := match p with
  | none => List.replicate 32 0
  | some (ns, z) => endW ns z b
def pfN : Pf → Nat
  | none => 0
  | some (_, z) => z
theorem pfL_length {p : Pf} (h : OkPf p) : (pfL p).length = 10 := by
  match p, h with
  | none, _ => simp [pfL, zeroP]
  | some (ns, z), h => rw [pfL, prefL_length, h.1]
theorem zeroP_one : One zeroP := fun v hv => by
  simp only [zeroP, List.mem_append, List.mem_cons, List.not_mem_nil, or_false] at hv
  rcases hv with hv | rfl | rfl
  · exact wd_one _ v hv
  · rfl
  · rfl
theorem pfL_one (p : Pf) : One (pfL p) := by
  match p with
  | none => exact zeroP_one
  | some (ns, z) => exact prefL_one ns z
theorem pfA_ok {b : List UInt8} (h : b.length ≤ 1099511627776) : OkPf (pfA b) := by
  unfold pfA; split
  · rename_i h0; exact ⟨by rw [overW_length]; rfl, h0, h⟩
  · trivial
theorem endW_whole (n : List UInt32) (z : Nat) (bs : List UInt8) (hz : z % 64 = 0) : endW n z bs = bytesW (overW ((bs ++ tailW (z + bs.length)).length / 64) n (bs ++ tailW (z + bs.length))) 32 := by
  have ht := tailW_length (z + bs.length)
  simp only [endW]
  have e : bs ++ tailW (z + bs.length) = bs.take (64 * (bs.length / 64)) ++ (bs.drop (64 * (bs.length / 64)) ++ tailW (z + bs.length)) := by
    rw [← List.append_assoc, List.take_append_drop]
  have h1 : (bs.take (64 * (bs.length / 64))).length = 64 * (bs.length / 64) := by simp; omega
  have h2 : (bs ++ tailW (z + bs.length)).length / 64 = bs.length / 64 + (bs.drop (64 * (bs.length / 64)) ++ tailW (z + bs.length)).length / 64 := by
    simp only [List.length_append, List.length_drop]; omega
  rw [h2, e, overW_append _ _ _ _ _ h1]
theorem endW_app {n : List UInt32} {z k : Nat} {a b : List UInt8} (hz : z % 64 = 0) (ha : a.length = 64 * k) : endW (overW k n a) (z + a.length) b = endW n z (a ++ b) := by
  have ht := tailW_length (z + (a.length + b.length))
  have e : z + (a ++ b).length = z + a.length + b.length := by rw [List.length_append, Nat.add_assoc]
  rw [endW_whole _ _ _ (by omega), endW_whole _ _ _ hz, e, List.append_assoc]
  have h2 : (a ++ (b ++ tailW (z + a.length + b.length))).length / 64 = k + (b ++ tailW (z + a.length + b.length)).length / 64 := by
    simp only [List.length_append]; omega
  rw [h2, overW_append _ _ _ _ _ ha]
theorem pfS_len (p : Pf) (b : List UInt8) : (pfS p b).length = 32 := by
  match p with
  | none => exact List.length_replicate
  | some (ns, z) => exact endW_length ..
theorem pfS_nil (b : List UInt8) : pfS (pfA []) b = shaW b := rfl
theorem pfE_zero {a : List UInt8} (h : a.length % 64 = 0) : pfE a = 0 := if_pos h
theorem pfE_two {a : List UInt8} (h : ¬ a.length % 64 = 0) : pfE a = 2 := if_neg h
theorem pfA_none {a : List UInt8} (h : ¬ a.length % 64 = 0) : pfA a = none := if_neg h
theorem pfA_some {a : List UInt8} (h : a.length % 64 = 0) : pfA a = some (overW (a.length / 64) seedsW a, a.length) := if_pos h
theorem pfS_A {a b : List UInt8} (h : a.length % 64 = 0) : pfS (pfA a) b = shaW (a ++ b) := by
  rw [pfA_some h]
  have := endW_app (n := seedsW) (z := 0) (k := a.length / 64) (a := a) (b := b) rfl (by omega)
  rw [Nat.zero_add] at this
  exact this
theorem pfN_A {a : List UInt8} (h : a.length % 64 = 0) : pfN (pfA a) = a.length := by rw [pfA_some h]; rfl
/-! ## What is too long -/
def longP (ps : List (List UInt8)) : Bool := ps.any fun b => decide (3000 < b.length)
theorem longP_no {ps : List (List UInt8)} (h : longP ps = false) : ∀ i, i < ps.length → (ps.getD i []).length ≤ 3000 := by
  intro i hi
  have := List.any_eq_false.1 h (ps.getD i []) (by simp [List.getD, hi])
  simpa using this
theorem longP_yes {ps : List (List UInt8)} {i : Nat} (hi : i < ps.length) (h : 3000 < (ps.getD i []).length) : longP ps = true := by
  refine List.any_eq_true.2 ⟨ps.getD i [], by simp [List.getD, hi], by simpa using h⟩
theorem longP_false {ps : List (List UInt8)} (h : ∀ k, k < ps.length → ¬ 3000 < (ps.getD k []).length) : longP ps = false := by
  refine List.any_eq_false.2 fun b hb => ?_
  obtain ⟨i, hi, rfl⟩ := List.mem_iff_getElem.1 hb
  have := h i hi
  simpa [List.getD, hi] using this
end Go.Kx
