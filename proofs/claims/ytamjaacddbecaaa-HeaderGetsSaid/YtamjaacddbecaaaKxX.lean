/- Own library, part X: arrays of bytes and structs are compared. -/
import Derived.Test.YtamjaacddbecaaaKxW
import Derived.DeepKeys
set_option linter.unusedSimpArgs false
set_option linter.unusedVariables false
namespace Go.Kx
open Go
variable {P : Program} {w : World}

theorem part_u8 {e : Nat} {a : List UInt8} {i : Nat} (he : P.underlying e = some (.int .u8)) (hi : i < a.length) : (part e (bv a).toArray i).run P w = .ok (bV (a.getD i 0)) w := by
  simp [part, isAgg, run_underlying he, bv, hi, List.getD]

theorem eqItems_u8 {e : Nat} (he : P.underlying e = some (.int .u8)) (d : Nat) (a b : List UInt8) : ∀ is : List Nat, (∀ i, i ∈ is → i < a.length ∧ i < b.length) →
    (Op.eqItems (d + 1) e 1 (bv a).toArray (bv b).toArray is).run P w = .ok (is.all fun i => decide (a.getD i 0 = b.getD i 0)) w
  | [], _ => by simp [Op.eqItems]
  | i :: is, h => by
    obtain ⟨h1, h2⟩ := h i (.head _)
    have ih := eqItems_u8 he d a b is (fun j hj => h j (.tail _ hj))
    have hv : ∀ x y : UInt8, (Op.equalIn (d + 1) e (bV x) (bV y)).run P w = .ok (decide (x = y)) w := fun x y => by
      have : ((x.toNat : Int) == (y.toNat : Int)) = decide (x = y) := by
        rw [Bool.eq_iff_iff]
        simp only [beq_iff_eq, decide_eq_true_eq]
        rw [← UInt8.toNat_inj]
        omega
      simp [Op.equalIn, run_underlying he, bV, this]
    simp only [Op.eqItems, Nat.mul_one, Sem.run_bind, part_u8 he h1, part_u8 he h2, hv, Result.andThen_ok, List.all_cons]
    by_cases hxy : a.getD i 0 = b.getD i 0
    · simp only [hxy, decide_true, Bool.not_true, Bool.false_eq_true, if_false, Bool.true_and]
      exact ih
    · simp only [hxy, decide_false, Bool.not_false, if_true, Bool.false_and, Sem.run_pure]

theorem all_eq {a b : List UInt8} (h : a.length = b.length) : ((List.range a.length).all fun i => decide (a.getD i 0 = b.getD i 0)) = decide (a = b) := by
  rw [Bool.eq_iff_iff]
  simp only [List.all_eq_true, List.mem_range, decide_eq_true_eq]
  constructor
  · intro hh
    apply List.ext_getElem h
    intro i h1 h2
    have := hh i h1
    simpa [List.getD, h1, h2] using this
  · rintro rfl i _; rfl

/-- Two arrays of bytes. -/
theorem equal_u8s {t e n : Nat} {ie : TypeInfo} {a b : List UInt8} (ht : P.underlying t = some (.array n e)) (hie : P.info? e = some ie) (he : P.underlying e = some (.int .u8)) (hc : P.cellsOf e = 1) (ha : a.length = n) (hb : b.length = n) (d : Nat) :
    (Op.equalIn (d + 2) t (.agg (bv a).toArray) (.agg (bv b).toArray)).run P w = .ok (decide (a = b)) w := by
  rw [run_equalIn_array w (d + 1) _ _ ht hie, hc, ← ha, eqItems_u8 he d a b _ (fun i hi => by have := List.mem_range.1 hi; omega), all_eq (by omega)]

end Go.Kx
