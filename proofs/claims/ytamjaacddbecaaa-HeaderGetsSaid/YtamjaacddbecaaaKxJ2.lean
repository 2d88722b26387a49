/- Own library, part J2: aggregates are compared; plain laws of HMAC. -/
import Derived.Test.YtamjaacddbecaaaKxJ
set_option linter.unusedSimpArgs false
set_option linter.unusedVariables false
namespace Go.Kx
open Go
variable {P : Program} {w : World}

theorem bins_aggs {t : TypeId} {cs ds : Array Value} {b : Bool} (hg : P.eqGuardType P.depth t = false) (h : ∀ d w, (Op.equalIn (d + 2) t (.agg cs) (.agg ds)).run P w = .ok b w) :
    Bin P .eql t (.agg cs) (.agg ds) (.bool b) ∧ Bin P .neq t (.agg cs) (.agg ds) (.bool (!b)) := by
  have h' : ∀ w, (Op.equal t (.agg cs) (.agg ds)).run P w = .ok b w := fun w => h 9998 w
  have hgd : ∀ (op : BinOp) x y (w : World), op = .eql ∨ op = .neq → (eqGuard op t x y (.agg cs) (.agg ds)).run P w = .ok () w := by
    intro op x y w ho
    rcases ho with rfl | rfl <;> simp [eqGuard, Sem.run_bind, run_program, Result.andThen_ok, hg]
  constructor
  · intro x y w
    have e : (binOp .eql t (.agg cs) (.agg ds)).run P w = .ok (.bool b) w := by
      show (do pure (Value.bool (← Op.equal t (.agg cs) (.agg ds))) : Sem Value).run P w = _
      rw [Sem.run_bind, h']; rfl
    rw [Sem.run_bind, hgd _ _ _ _ (.inl rfl)]; exact e
  · intro x y w
    have e : (binOp .neq t (.agg cs) (.agg ds)).run P w = .ok (.bool (!b)) w := by
      show (do pure (Value.bool (!(← Op.equal t (.agg cs) (.agg ds)))) : Sem Value).run P w = _
      rw [Sem.run_bind, h']; rfl
    rw [Sem.run_bind, hgd _ _ _ _ (.inr rfl)]; exact e

theorem bins_arr8 {t e n : Nat} {a b : List UInt8} (ht : P.underlying t = some (.array n e)) (hie : (P.info? e).isSome = true) (he : P.underlying e = some (.int .u8)) (hc : P.cellsOf e = 1) (hg : P.eqGuardType P.depth t = false) (ha : a.length = n) (hb : b.length = n) :
    Bin P .eql t (.agg (bv a).toArray) (.agg (bv b).toArray) (.bool (decide (a = b))) ∧ Bin P .neq t (.agg (bv a).toArray) (.agg (bv b).toArray) (.bool (!decide (a = b))) := by
  obtain ⟨ie, hie⟩ := Option.isSome_iff_exists.1 hie
  exact bins_aggs hg fun d w => equal_u8s ht hie he hc ha hb d

def hexD : List UInt8 := [48, 49, 50, 51, 52, 53, 54, 55, 56, 57, 97, 98, 99, 100, 101, 102]
def hexL (bs : List UInt8) : List UInt8 := bs.flatMap fun c => [hexD.getD (c.toNat / 16) 0, hexD.getD (c.toNat % 16) 0]
@[simp] theorem hexL_length (bs : List UInt8) : (hexL bs).length = 2 * bs.length := by
  induction bs with
  | nil => rfl
  | cons c r ih => simp [hexL] at ih ⊢; omega

section
variable {ops : Array Oper} {D : Option (Nat → Prop)} {Q : Exit → Act → World → Prop} {a : Act} {n : Nat} {L : List (Nat × Value)} {rest : List (Bool × Oper)} {d : Nat} {ty : TypeId} {pos : String} {aft : Array Edge} {x y : Operand}
end

theorem own_subR {v : Value} {bs : List UInt8} {m l : Nat} (h : (own v 1 m (bv bs)).holds w) (hl : l ≤ m) (hm : m = bs.length) : ∃ c, (rd (subV v l) 1 (bs.take l).length c (bv (bs.take l))).holds w := by
  obtain ⟨c, hc⟩ := own_rd (own_subB h hl)
  refine ⟨c, ?_⟩
  have e : (bs.take l).length = l := by simp; omega
  rw [e]; exact hc

end Go.Kx
