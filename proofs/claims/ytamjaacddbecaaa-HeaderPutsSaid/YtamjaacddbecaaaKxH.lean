/- Own library, part H: words of 32 bits, arrays that are indexed by what is not known, closures' cells, drawn regions in two phases over memory. -/
import Derived.Test.YtamjaacddbecaaaKxB2
import Derived.Test.YtamjaacddbecaaaKxW
import Derived.Test.YtamjaacddbecaaaKxX
set_option linter.unusedSimpArgs false
set_option linter.unusedVariables false
namespace Go.Kx
open Go
variable {P : Program} {Q : Exit → Act → World → Prop} {D : Option (Nat → Prop)} {ops : Array Oper} {rest : List (Bool × Oper)} {a : Act} {w w0 w' : World} {n d : Nat} {L : List (Nat × Value)} {x y : Operand} {v u : Value} {M : List Nat} {H : List Ent} {ty : TypeId} {pos : String} {aft : Array Edge}

theorem q_ph {l : List (Bool × Oper)} (h : wpL P ops D Q l a w) : ph P ops D Q l .normal a w := h

/-! ## Words -/

def wV (x : UInt32) : Value := .int .u32 (x.toNat : Int)
def wd (l : List UInt32) : List Value := l.map wV
@[simp] theorem wd_length (l : List UInt32) : (wd l).length = l.length := by simp [wd]
theorem bv_get {l : List UInt8} {j : Nat} (h : j < l.length) : (bv l)[j]? = some (bV (l.getD j 0)) := by simp [bv, h]
theorem bv_set' {l : List UInt8} {j : Nat} {x : UInt8} : (bv l).set j (bV x) = bv (l.set j x) := by simp [bv, List.map_set]

theorem bv_setI {l : List UInt8} {j : Nat} {x : UInt8} : (bv l).set j (.int .u8 (x.toNat : Int)) = bv (l.set j x) := bv_set'

def shrW (x : UInt32) (k : Nat) : UInt32 := UInt32.ofNat (x.toNat / 2 ^ k)
def shlW (x : UInt32) (k : Nat) : UInt32 := UInt32.ofNat (x.toNat * 2 ^ k)

/-! ## Arrays -/

theorem cellsAt_elem {b m T j : Nat} {cs : List Value} (h : (blk b [cs] [m] T).holds w) (hj : cs[j]? = some v) : (cellsAt (.pointer (some ⟨b, j, none⟩)) [v]).holds w := by
  obtain ⟨hm, fr, hh, hf⟩ := h
  refine ⟨b, j, rfl, (Array.getElem?_eq_some_iff.1 hh).1, fun i x hx => ?_⟩
  cases i with
  | zero =>
    simp only [List.getElem?_cons_zero, Option.some.injEq] at hx
    subst hx
    rw [Nat.add_zero, cell_of_row w b j _ T fr hh]
    simpa using hj
  | succ i => simp at hx

theorem s_loadIdx {t b o m T j : Nat} {cs : List Value} (hE : Env a n L) (hx : ev L x = some (.pointer (some ⟨b, o, none⟩))) (ho : o = j) (hB : (blk b [cs] [m] T).holds w) (hj : cs[j]? = some v) (ht : OneT P t)
    (hX : ∀ X, D = some X → ¬ X b) (hn : Nat.blt d n = true) (k : ∀ a', Env a' n ((d, v) :: L) → wpL P ops D Q rest a' w) : wpL P ops D Q ((true, ⟨some d, .load t x, ty, pos, aft, none⟩) :: rest) a w := by
  subst ho
  exact s_loadAt1 hE hx (cellsAt_elem hB hj) ht (fun X hD b' hb => by simp [valBlocks] at hb; subst hb; exact hX X hD) hn k

theorem s_storeIdx {t b o j m T : Nat} {cs : List Value} (hE : Env a n L) (hx : ev L x = some (.pointer (some ⟨b, o, none⟩))) (ho : o = j) (hy : ev L y = some u) (hM : Mem w0 M w (blk b [cs] [m] T :: H))
    (hv : u.cells = #[u]) (h1 : u.oneCell' = true) (ht : (P.info? t).map (·.size) = some 1) (hj : j < cs.length)
    (hX : ∀ X, D = some X → X b) (kk : ∀ w', Mem w0 M w' (blk b [cs.set j u] [m] T :: H) → wpL P ops D Q rest a w') : wpL P ops D Q ((false, ⟨none, .store t x y, ty, pos, aft, none⟩) :: rest) a w := by
  subst ho
  exact s_store (j := o) 0 (vs := [u]) (g := cs) hE hx hy hM hv ht rfl (one1 h1) rfl (by simp only [List.length_singleton]; omega) (by simp) (show [wr o [u] cs] = _ by rw [wr_set hj]) hX kk

end Go.Kx
