/- Own library, part Ta: parts of arrays are copied to and read; what the kit's contracts leave of memory; messages of tags. -/
import Derived.Test.YtamjaacddbecaaaKxZ
import Derived.Test.YtamjaacddbecaaaKxM
import Derived.Test.YtamjaacddbecaaaKxL
import Derived.Test.YtamjaacddbecaaaKxS
import Derived.Lib.Repeat
set_option linter.unusedSimpArgs false
set_option linter.unusedVariables false
namespace Go.Kx
open Go Go.RowKit
variable {P : Program} {ops : Array Oper} {D : Option (Nat → Prop)} {Q : Exit → Act → World → Prop} {w0 w w' : World} {M : List Nat} {H H' : List Ent}
  {a : Act} {n : Nat} {L : List (Nat × Value)} {rest : List (Bool × Oper)} {d : Nat} {ty : TypeId} {pos : String} {aft : Array Edge} {x y z : Operand} {u v r : Value}

/-- copy into a part of a block. -/
theorem s_copySeg {t t2 e by_ b o m c T l l' : Nat} (k : Nat) {ss : List (List Value)} {ns : List Nat} {old cs : List Value} (hE : Env a n L) (hx : ev L x = some (.slice (some ⟨b, o, none⟩) l l')) (hy : ev L y = some u) (hM : Mem w0 M w (blk b ss ns T :: H))
    (hr : (rd u 1 m c cs).holds w) (hml : m = l) (h1 : One cs) (ht : SlT P t e 1 by_) (hg : ss[k]? = some old) (hol : old.length = l) (ho : (ns.take k).sum = o) (hX : ∀ X, D = some X → X b) (hn : Nat.blt d n = true)
    (kk : ∀ a' w', Env a' n ((d, .int .i64 (l : Int)) :: L) → Mem w0 M w' (blk b (ss.set k cs) ns T :: H) → wpL P ops D Q rest a' w') :
    wpL P ops D Q ((false, ⟨some d, .call { callee := .builtin .copy, args := #[x, y], argTypes := #[t, t2] }, ty, pos, aft, none⟩) :: rest) a w := by
  subst hml
  have hcl : cs.length = m := by have := hr.1; omega
  obtain ⟨fr, hh, hf, hle, hM'⟩ := blk_store (k := k) (j := 0) (vs := cs) (g := old) (o := o) hM hg (by omega) (by simpa using ho)
  have hst := run_storeCells (P := P) (o := o) cs 0 _ w hh (by simpa using hf) (by simpa using hle) h1
  have hfc := firstCells_rd (P := P) hr (Nat.le_refl m)
  have hlen := lenOf_rd (P := P) hr
  rw [wrSeg_set hg (by omega)] at hM'
  refine b_val hE hn (v := .int .i64 (m : Int)) ?_ (sta_of_setBlk hX) (fun a' hE' => kk a' _ hE' hM')
  obtain ⟨hu, hs, _, _⟩ := ht
  simp only [Nat.add_zero] at hst
  simp only [Nat.mul_one] at hfc
  rw [List.take_of_length_le (by omega)] at hfc
  have hmin : Nat.min m m = m := Nat.min_self m
  simp [execOp, resolve, invoke, builtin, hE.eval hx, hE.eval hy, Builtin.copy_, run_underlying hu, run_sizeOf hs, Sem.run_bind, hlen, hmin, hfc, hst]
  rfl

/-! ## Messages of tags -/

/-! ## What a struct's cells are, part by part -/

end Go.Kx
