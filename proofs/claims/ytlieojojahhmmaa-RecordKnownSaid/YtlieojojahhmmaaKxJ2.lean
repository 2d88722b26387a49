/- Own library, part J2: aggregates are compared; plain laws of HMAC. -/
import Derived.Test.YtlieojojahhmmaaKxJ
set_option linter.unusedSimpArgs false
set_option linter.unusedVariables false
namespace Go.Kx
open Go
variable {P : Program} {w : World}

theorem bins_aggs {t : TypeId} {cs ds : Array Value} {b : Bool} (hg : P.eqGuardType P.depth t = false) (h : ∀ d w, (Op.equalIn (d + 2) t (.agg cs) (.agg ds)).run P w = .ok b w) :
    Bin P .eql t (.agg cs) (.agg ds) (.bool b) ∧ Bin P .neq t (.agg cs) (.agg ds) (.bool (!b)) := by
  have h' : ∀ w, (Op.equal t (.agg cs) (.agg ds)).run P w = .ok b w := fun w => h 9998 w
  have hgd : ∀ (op : BinOp) x y (w : World), op = .eql ∨ op = .neq → (eqGuard op t x y (.agg cs) (.agg ds)).run P w = .ok () w := by
    intro op x y w ho
    rcases ho with rfl | rfl <;> simp [eqGuard, Sem.run_bind, run_program, Result.andThen_ok, hg]
  constructor
  · intro x y w
    have e : (binOp .eql t (.agg cs) (.agg ds)).run P w = .ok (.bool b) w := by
      show (do pure (Value.bool (← Op.equal t (.agg cs) (.agg ds))) : Sem Value).run P w = _
      rw [Sem.run_bind, h']; rfl
    rw [Sem.run_bind, hgd _ _ _ _ (.inl rfl)]; exact e
  · intro x y w
    have e : (binOp .neq t (.agg cs) (.agg ds)).run P w = .ok (.bool (!b)) w := by
      show (do pure (Value.bool (!(← Op.equal t (.agg cs) (.agg ds)))) : Sem Value).run P w = _
      rw [Sem.run_bind, h']; rfl
    rw [Sem.run_bind, hgd _ _ _ _ (.inr rfl)]; exact e

theorem bins_arr8 {t e n : Nat} {a b : List UInt8} (ht : P.underlying t = some (.array n e)) (hie : (P.info? e).isSome = true) (he : P.underlying e = some (.int .u8)) (hc : P.cellsOf e = 1) (hg : P.eqGuardType P.depth t = false) (ha : a.length = n) (hb : b.length = n) :
    Bin P .eql t (.agg (bv a).toArray) (.agg (bv b).toArray) (.bool (decide (a = b))) ∧ Bin P .neq t (.agg (bv a).toArray) (.agg (bv b).toArray) (.bool (!decide (a = b))) := by
  obtain ⟨ie, hie⟩ := Option.isSome_iff_exists.1 hie
  exact bins_aggs hg fun d w => equal_u8s ht hie he hc ha hb d

theorem blockW_zeros {key : List UInt8} {i : Nat} (h : key.length + i ≤ 64) : blockW (key ++ List.replicate i 0) = blockW key := by
  unfold blockW
  rw [if_neg (by simp; omega), if_neg (by omega)]
  simp only [List.length_append, List.length_replicate, List.append_assoc, List.append_cancel_left_eq]
  rw [show 64 - key.length = i + (64 - (key.length + i)) by omega]
  exact (List.replicate_append_replicate).symm ▸ rfl
theorem hmacW_zeros {key m : List UInt8} {i : Nat} (h : key.length + i ≤ 64) : hmacW (key ++ List.replicate i 0) m = hmacW key m := by
  unfold hmacW padW; rw [blockW_zeros h]
theorem blockW_digest {key : List UInt8} (h : 64 < key.length) : blockW (shaW key) = blockW key := by
  simp [blockW, h]
theorem hmacW_digest {key m : List UInt8} (h : 64 < key.length) : hmacW (shaW key) m = hmacW key m := by
  unfold hmacW padW; rw [blockW_digest h]

theorem strO_take (key b : List UInt8) : ∀ (i j : Nat), i ≤ j → (strO key b j).take (32 * i) = strO key b i
  | i, 0, h => by obtain rfl : i = 0 := by omega
                  rfl
  | i, j + 1, h => by
    rcases Nat.lt_or_eq_of_le h with h' | rfl
    · have := strO_take key b i j (by omega)
      rw [strO, List.take_append_of_le_length (by simp; omega), this]
    · exact List.take_of_length_le (by simp)
/-- What Stretch makes of so many bytes. -/
def strW (key b : List UInt8) (size : Nat) : List UInt8 := (strO key b ((size + 31) / 32)).take size
theorem strW_length (key b : List UInt8) (size : Nat) : (strW key b size).length = size := by simp [strW]; omega
theorem strW_take {key b : List UInt8} {m n : Nat} (h : m ≤ n) : (strW key b n).take m = strW key b m := by
  unfold strW
  rw [List.take_take, Nat.min_eq_left h, ← strO_take key b ((m + 31) / 32) ((n + 31) / 32) (by omega), List.take_take, Nat.min_eq_left (by omega)]
def hexD : List UInt8 := [48, 49, 50, 51, 52, 53, 54, 55, 56, 57, 97, 98, 99, 100, 101, 102]
def hexL (bs : List UInt8) : List UInt8 := bs.flatMap fun c => [hexD.getD (c.toNat / 16) 0, hexD.getD (c.toNat % 16) 0]
theorem hexL_succ {bs : List UInt8} {i : Nat} (h : i < bs.length) : hexL (bs.take (i + 1)) = hexL (bs.take i) ++ [hexD.getD ((bs.getD i 0).toNat / 16) 0, hexD.getD ((bs.getD i 0).toNat % 16) 0] := by
  rw [List.take_succ_eq_append_getElem h, hexL, List.flatMap_append]
  simp [hexL, List.getD, h]
@[simp] theorem hexL_length (bs : List UInt8) : (hexL bs).length = 2 * bs.length := by
  induction bs with
  | nil => rfl
  | cons c r ih => simp [hexL] at ih ⊢; omega

section
variable {ops : Array Oper} {D : Option (Nat → Prop)} {Q : Exit → Act → World → Prop} {a : Act} {n : Nat} {L : List (Nat × Value)} {rest : List (Bool × Oper)} {d : Nat} {ty : TypeId} {pos : String} {aft : Array Edge} {x y : Operand}
theorem s_indexStr {t j : Nat} {i : Int} {k' : IntKind} {s : ByteArray} {l : List UInt8} {b : UInt8} (hE : Env a n L) (hx : ev L x = some (.string s)) (hy : ev L y = some (.int k' i)) (hu : P.underlying t = some .string) (hs : s.data.toList = l)
    (hi : i = (j : Int)) (hb : l[j]? = some b) (hn : Nat.blt d n = true) (k : ∀ a', Env a' n ((d, bV b) :: L) → wpL P ops D Q rest a' w) : wpL P ops D Q ((true, ⟨some d, .index t x y, ty, pos, aft, none⟩) :: rest) a w := by
  subst hi hs
  refine s_val hE hn (Flo.of_all (fun w => ?_) w) k
  have hg : s[j]? = some b := by
    obtain ⟨hj, he⟩ := List.getElem?_eq_some_iff.1 hb
    have hj' : j < s.size := hj
    rw [getElem?_pos s j hj']
    congr 1
  simp only [execOp, hE.eval hx, hE.eval hy, Instr.index, asIntOf, Sem.run_bind, Sem.run_pure, Result.andThen_ok, run_underlying hu, Int.toNat_natCast]
  rw [if_pos (by omega), hg]
  rfl
end

theorem own_subR {v : Value} {bs : List UInt8} {m l : Nat} (h : (own v 1 m (bv bs)).holds w) (hl : l ≤ m) (hm : m = bs.length) : ∃ c, (rd (subV v l) 1 (bs.take l).length c (bv (bs.take l))).holds w := by
  obtain ⟨c, hc⟩ := own_rd (own_subB h hl)
  refine ⟨c, ?_⟩
  have e : (bs.take l).length = l := by simp; omega
  rw [e]; exact hc

theorem cut4 {M : List UInt8} {I J : Nat} (h : I ≤ J) : [M.take I, (M.drop I).take (J - I), [], M.drop J].flatten = M := by
  simp only [List.flatten_cons, List.flatten_nil, List.nil_append, List.append_nil]
  rw [show M.drop J = (M.drop I).drop (J - I) by rw [List.drop_drop]; congr 1; omega, List.take_append_drop, List.take_append_drop]

theorem wrap_u8_lt {m : Nat} (h : m < 256) : IntKind.u8.wrap (m : Int) = (m : Int) := by
  rw [wrap_u8_ofNat, UInt8.toNat_ofNat_of_lt' h]

theorem fill_set {i n : Nat} {x : UInt8} (h : i < n) : (List.replicate i x ++ List.replicate (n - i) 0).set i x = List.replicate (i + 1) x ++ List.replicate (n - (i + 1)) 0 := by
  obtain ⟨k, hk⟩ : ∃ k, n - i = k + 1 := ⟨n - i - 1, by omega⟩
  rw [hk, show n - (i + 1) = k by omega, List.replicate_succ, List.set_append_right _ _ (by simp), List.replicate_succ' (n := i)]
  simp
end Go.Kx
