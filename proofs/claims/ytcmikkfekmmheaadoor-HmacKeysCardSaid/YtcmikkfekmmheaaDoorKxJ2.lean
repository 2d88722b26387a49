/- Own library, part J2: aggregates are compared; plain laws of HMAC. -/
import Derived.Test.YtcmikkfekmmheaaDoorKxJ
namespace Go.Kx
open Go
variable {P : Program} {w : World}

theorem bins_aggs {t : TypeId} {cs ds : Array Value} {b : Bool} (hg : P.eqGuardType P.depth t = false) (h : ∀ d w, (Op.equalIn (d + 2) t (.agg cs) (.agg ds)).run P w = .ok b w) :
    Bin P .eql t (.agg cs) (.agg ds) (.bool b) ∧ Bin P .neq t (.agg cs) (.agg ds) (.bool (!b)) := by
  have h' : ∀ w, (Op.equal t (.agg cs) (.agg ds)).run P w = .ok b w := fun w => h 9998 w
  have hgd : ∀ (op : BinOp) x y (w : World), op = .eql ∨ op = .neq → (eqGuard op t x y (.agg cs) (.agg ds)).run P w = .ok () w := by
    intro op x y w ho
    rcases ho with rfl | rfl <;> simp [eqGuard, Sem.run_bind, run_program, Result.andThen_ok, hg]
  constructor
  · intro x y w
    have e : (binOp .eql t (.agg cs) (.agg ds)).run P w = .ok (.bool b) w := by
      show (do pure (Value.bool (← Op.equal t (.agg cs) (.agg ds))) : Sem Value).run P w = _
      rw [Sem.run_bind, h']; rfl
    rw [Sem.run_bind, hgd _ _ _ _ (.inl rfl)]; exact e
  · intro x y w
    have e : (binOp .neq t (.agg cs) (.agg ds)).run P w = .ok (.bool (!b)) w := by
      show (do pure (Value.bool (!(← Op.equal t (.agg cs) (.agg ds)))) : Sem Value).run P w = _
      rw [Sem.run_bind, h']; rfl
    rw [Sem.run_bind, hgd _ _ _ _ (.inr rfl)]; exact e

theorem bins_arr8 {t e n : Nat} {a b : List UInt8} (ht : P.underlying t = some (.array n e)) (hie : (P.info? e).isSome = true) (he : P.underlying e = some (.int .u8)) (hc : P.cellsOf e = 1) (hg : P.eqGuardType P.depth t = false) (ha : a.length = n) (hb : b.length = n) :
    Bin P .eql t (.agg (bv a).toArray) (.agg (bv b).toArray) (.bool (decide (a = b))) ∧ Bin P .neq t (.agg (bv a).toArray) (.agg (bv b).toArray) (.bool (!decide (a = b))) := by
  obtain ⟨ie, hie⟩ := Option.isSome_iff_exists.1 hie
  exact bins_aggs hg fun d w => equal_u8s ht hie he hc ha hb d

theorem blockW_zeros {key : List UInt8} {i : Nat} (h : key.length + i ≤ 64) : blockW (key ++ List.replicate i 0) = blockW key := by
  unfold blockW
  rw [if_neg (by simp; omega), if_neg (by omega)]
  simp only [List.length_append, List.length_replicate, List.append_assoc, List.append_cancel_left_eq]
  rw [show 64 - key.length = i + (64 - (key.length + i)) by omega]
  exact (List.replicate_append_replicate).symm ▸ rfl
theorem hmacW_zeros {key m : List UInt8} {i : Nat} (h : key.length + i ≤ 64) : hmacW (key ++ List.replicate i 0) m = hmacW key m := by
  unfold hmacW padW; rw [blockW_zeros h]
theorem blockW_digest {key : List UInt8} (h : 64 < key.length) : blockW (shaW key) = blockW key := by
  simp [blockW, h]
theorem hmacW_digest {key m : List UInt8} (h : 64 < key.length) : hmacW (shaW key) m = hmacW key m := by
  unfold hmacW padW; rw [blockW_digest h]

theorem strO_take (key b : List UInt8) : ∀ (i j : Nat), i ≤ j → (strO key b j).take (32 * i) = strO key b i
  | i, 0, h => by obtain rfl : i = 0 := by omega
                  rfl
  | i, j + 1, h => by
    rcases Nat.lt_or_eq_of_le h with h' | rfl
    · have := strO_take key b i j (by omega)
      rw [strO, List.take_append_of_le_length (by simp; omega), this]
    · exact List.take_of_length_le (by simp)
/-- What Stretch makes of so many bytes. -/
def strW (key b : List UInt8) (size : Nat) : List UInt8 := (strO key b ((size + 31) / 32)).take size
theorem strW_length (key b : List UInt8) (size : Nat) : (strW key b size).length = size := by simp [strW]; omega
theorem strW_take {key b : List UInt8} {m n : Nat} (h : m ≤ n) : (strW key b n).take m = strW key b m := by
  unfold strW
  rw [List.take_take, Nat.min_eq_left h, ← strO_take key b ((m + 31) / 32) ((n + 31) / 32) (by omega), List.take_take, Nat.min_eq_left (by omega)]
end Go.Kx
