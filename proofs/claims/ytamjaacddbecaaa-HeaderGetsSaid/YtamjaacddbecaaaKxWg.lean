/- Own library, part Wg: bytes as writes; a byte inside a part of a block. -/
import Derived.Test.YtamjaacddbecaaaKxWx
import Derived.Scope
set_option linter.unusedSimpArgs false
set_option linter.unusedVariables false
namespace Go.Kx
open Go
variable {P : Program} {ops : Array Oper} {D : Option (Nat → Prop)} {Q : Exit → Act → World → Prop} {w0 w w' : World} {M : List Nat} {H H' : List Ent}
  {a : Act} {n : Nat} {L : List (Nat × Value)} {rest : List (Bool × Oper)} {d : Nat} {ty : TypeId} {pos : String} {aft : Array Edge} {x y z : Operand} {u v r : Value}
theorem wrSeg_set1 : ∀ {ss : List (List Value)} {k j : Nat} {u : Value} {g : List Value}, ss[k]? = some g → j < g.length → wrSeg k j [u] ss = ss.set k (g.set j u)
  | [], k, j, u, g, h, _ => by simp at h
  | g' :: ss, 0, j, u, g, h, hj => by
    simp at h; subst h
    simp [wrSeg, wr_set hj]
  | g' :: ss, k + 1, j, u, g, h, hj => by
    simp only [wrSeg, List.set_cons_succ]
    rw [wrSeg_set1 (by simpa using h) hj]
/-- A byte is stored into the k-th part of a block. -/
theorem s_storePart8 {t b o j T : Nat} {c : UInt8} (k : Nat) {ss : List (List Value)} {ns : List Nat} {g : List UInt8} (hE : Env a n L) (hx : ev L x = some (.pointer (some ⟨b, o, none⟩))) (ho : (ns.take k).sum + j = o) (hy : ev L y = some (.int .u8 (c.toNat : Int))) (hM : Mem w0 M w (blk b ss ns T :: H))
    (ht : (P.info? t).map (·.size) = some 1) (hg : ss[k]? = some (bv g)) (hj : j < g.length)
    (hX : ∀ X, D = some X → X b) (kk : ∀ w', Mem w0 M w' (blk b (ss.set k (bv (g.set j c))) ns T :: H) → wpL P ops D Q rest a w') : wpL P ops D Q ((false, ⟨none, .store t x y, ty, pos, aft, none⟩) :: rest) a w := by
  refine s_store (j := j) k (vs := [.int .u8 (c.toNat : Int)]) (g := bv g) hE hx hy hM rfl ht rfl (one1 rfl) hg (by simp only [List.length_singleton, bv_length]; omega) ho (wrSeg_set1 hg (by simpa using hj)) hX fun w' h => kk w' ?_
  first | rwa [bv_set'] at h | rwa [bv_setI] at h

theorem Mem.blkEq {b T : Nat} {ss ss' : List (List Value)} {ns : List Nat} (hM : Mem w0 M w (blk b ss ns T :: H)) (h : ss = ss') : Mem w0 M w (blk b ss' ns T :: H) := h ▸ hM
/-! ## Writes, read -/
def wAt (bs : List UInt8) (i : Nat) : Wr := (((val ((bs.drop (69 * i)).take 1) : Nat) : Int), ((val ((bs.drop (69 * i + 1)).take 4) : Nat) : Int), (bs.drop (69 * i + 5)).take 64)
def wAts (bs : List UInt8) (n : Nat) : List Wr := (List.range n).map (wAt bs)
@[simp] theorem wAts_len (bs : List UInt8) (i : Nat) : (wAts bs i).length = i := by simp [wAts]
/-! ## Root records -/
end Go.Kx
