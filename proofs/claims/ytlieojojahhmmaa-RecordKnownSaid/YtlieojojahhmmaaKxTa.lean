/- Own library, part Ta: parts of arrays are copied to and read; what the kit's contracts leave of memory; messages of tags. -/
import Derived.Test.YtlieojojahhmmaaKxZ
import Derived.Test.YtlieojojahhmmaaKxM
import Derived.Test.YtlieojojahhmmaaKxL
import Derived.Test.YtlieojojahhmmaaKxS
import Derived.Lib.Repeat
set_option linter.unusedSimpArgs false
set_option linter.unusedVariables false
namespace Go.Kx
open Go Go.RowKit
variable {P : Program} {ops : Array Oper} {D : Option (Nat → Prop)} {Q : Exit → Act → World → Prop} {w0 w w' : World} {M : List Nat} {H H' : List Ent}
  {a : Act} {n : Nat} {L : List (Nat × Value)} {rest : List (Bool × Oper)} {d : Nat} {ty : TypeId} {pos : String} {aft : Array Edge} {x y z : Operand} {u v r : Value}

theorem Mem.ofBelow (h : Below w.heap.size w w') : Mem w [] w' [] :=
  ⟨h.os, h.tape, h.output, h.size, fun b hb _ => h.block b hb, fun _ he => (by cases he), fun _ he => (by cases he), fun _ he => (by cases he), .nil⟩

/-- copy into a part of a block. -/
theorem s_copySeg {t t2 e by_ b o m c T l l' : Nat} (k : Nat) {ss : List (List Value)} {ns : List Nat} {old cs : List Value} (hE : Env a n L) (hx : ev L x = some (.slice (some ⟨b, o, none⟩) l l')) (hy : ev L y = some u) (hM : Mem w0 M w (blk b ss ns T :: H))
    (hr : (rd u 1 m c cs).holds w) (hml : m = l) (h1 : One cs) (ht : SlT P t e 1 by_) (hg : ss[k]? = some old) (hol : old.length = l) (ho : (ns.take k).sum = o) (hX : ∀ X, D = some X → X b) (hn : Nat.blt d n = true)
    (kk : ∀ a' w', Env a' n ((d, .int .i64 (l : Int)) :: L) → Mem w0 M w' (blk b (ss.set k cs) ns T :: H) → wpL P ops D Q rest a' w') :
    wpL P ops D Q ((false, ⟨some d, .call { callee := .builtin .copy, args := #[x, y], argTypes := #[t, t2] }, ty, pos, aft, none⟩) :: rest) a w := by
  subst hml
  have hcl : cs.length = m := by have := hr.1; omega
  obtain ⟨fr, hh, hf, hle, hM'⟩ := blk_store (k := k) (j := 0) (vs := cs) (g := old) (o := o) hM hg (by omega) (by simpa using ho)
  have hst := run_storeCells (P := P) (o := o) cs 0 _ w hh (by simpa using hf) (by simpa using hle) h1
  have hfc := firstCells_rd (P := P) hr (Nat.le_refl m)
  have hlen := lenOf_rd (P := P) hr
  rw [wrSeg_set hg (by omega)] at hM'
  refine b_val hE hn (v := .int .i64 (m : Int)) ?_ (sta_of_setBlk hX) (fun a' hE' => kk a' _ hE' hM')
  obtain ⟨hu, hs, _, _⟩ := ht
  simp only [Nat.add_zero] at hst
  simp only [Nat.mul_one] at hfc
  rw [List.take_of_length_le (by omega)] at hfc
  have hmin : Nat.min m m = m := Nat.min_self m
  simp [execOp, resolve, invoke, builtin, hE.eval hx, hE.eval hy, Builtin.copy_, run_underlying hu, run_sizeOf hs, Sem.run_bind, hlen, hmin, hfc, hst]
  rfl

/-- A slice as a pointer to an array. -/
theorem s_toArrP {t e b o l c N : Nat} (hE : Env a n L) (hx : ev L x = some (.slice (some ⟨b, o, none⟩) l c)) (ht : P.underlying t = some (.array N e)) (hl : N ≤ l) (hn : Nat.blt d n = true)
    (k : ∀ a', Env a' n ((d, .pointer (some ⟨b, o, none⟩)) :: L) → wpL P ops D Q rest a' w) : wpL P ops D Q ((true, ⟨some d, .sliceToArrayPointer t x, ty, pos, aft, none⟩) :: rest) a w := by
  refine s_val hE hn (Flo.of_all (fun w => ?_) w) k
  have h1 : ¬ l < N := by omega
  simp [execOp, hE.eval hx, Instr.arrayAt, run_underlying ht, h1]

/-- A number's 64 bits. -/
def numW (z : Int) : Nat := (z % 18446744073709551616).toNat
theorem wrap_u64_any (z : Int) : IntKind.u64.wrap z = ((numW z : Nat) : Int) := by
  have h1 : (0 : Int) ≤ z % 18446744073709551616 := Int.emod_nonneg _ (by decide)
  rw [numW, Int.toNat_of_nonneg h1]
  rfl
theorem numW_inj {x y : Int} (hx : -9223372036854775808 ≤ x ∧ x < 9223372036854775808) (hy : -9223372036854775808 ≤ y ∧ y < 9223372036854775808) (h : numW x = numW y) : x = y := by
  unfold numW at h; omega

/-! ## Messages of tags -/

def numT (dm : UInt8) (z : Int) (s : List UInt8) : List UInt8 := (pRow dm [laid 8 (numW z), s]).1
def plT (dm : UInt8) (b : List UInt8) : List UInt8 := (pRow dm [b]).1
theorem numT_ok (dm : UInt8) (z : Int) (s : List UInt8) : pRow dm [laid 8 (numW z), s] = (numT dm z s, 0) := by simp [numT, pRow]
theorem plT_ok (dm : UInt8) (b : List UInt8) : pRow dm [b] = (plT dm b, 0) := by simp [plT, pRow]
theorem numT_eq (dm : UInt8) (z : Int) (s : List UInt8) : numT dm z s = dm :: 2 :: (laid 4 8 ++ (laid 8 (numW z) ++ (laid 4 s.length ++ s))) := by
  simp [numT, pRow, rowBs, rowPart]
theorem plT_eq (dm : UInt8) (b : List UInt8) : plT dm b = dm :: 1 :: (laid 4 b.length ++ b) := by
  simp [plT, pRow, rowBs, rowPart]
theorem numT_len (dm : UInt8) (z : Int) (s : List UInt8) : (numT dm z s).length = 18 + s.length := by rw [numT_eq]; simp; omega
theorem plT_len (dm : UInt8) (b : List UInt8) : (plT dm b).length = 6 + b.length := by rw [plT_eq]; simp; omega

theorem laid8_inj {a b : Nat} (ha : a < 2 ^ 64) (hb : b < 2 ^ 64) (h : laid 8 a = laid 8 b) : a = b := by
  have := congrArg val h
  rw [val_laid, val_laid] at this
  omega
theorem numW_lt (z : Int) : numW z < 2 ^ 64 := by unfold numW; omega
def InI64 (x : Int) : Prop := -9223372036854775808 ≤ x ∧ x < 9223372036854775808

theorem numT_inj {d e : UInt8} {x y : Int} {s t : List UInt8} (hx : InI64 x) (hy : InI64 y) (hst : s.length = t.length) : numT d x s = numT e y t ↔ d = e ∧ x = y ∧ s = t := by
  constructor
  · intro h
    rw [numT_eq, numT_eq, hst] at h
    simp only [List.cons.injEq, true_and] at h
    obtain ⟨hd, h⟩ := h
    have h1 := List.append_cancel_left h
    obtain ⟨h2, h3⟩ := List.append_inj h1 (by simp)
    exact ⟨hd, numW_inj hx hy (laid8_inj (numW_lt _) (numW_lt _) h2), List.append_cancel_left h3⟩
  · rintro ⟨rfl, rfl, rfl⟩; rfl

theorem plT_inj {d e : UInt8} {s t : List UInt8} : plT d s = plT e t ↔ d = e ∧ s = t := by
  constructor
  · intro h
    rw [plT_eq, plT_eq] at h
    simp only [List.cons.injEq, true_and] at h
    exact ⟨h.1, (List.append_inj h.2 (by simp)).2⟩
  · rintro ⟨rfl, rfl⟩; rfl
theorem numT_plT {d e : UInt8} {x : Int} {s t : List UInt8} : numT d x s ≠ plT e t := fun h => by
  rw [numT_eq, plT_eq] at h
  simp only [List.cons.injEq] at h
  exact absurd h.2.1 (by decide)

/-- The message of a kind (modulo 5). -/
def txt (k : Nat) (z : Int) (s b : List UInt8) : List UInt8 :=
  if k % 5 = 0 then numT 76 z s else if k % 5 = 1 then numT 78 z s else if k % 5 = 2 then plT 82 b else if k % 5 = 3 then plT 72 b else plT 66 b

theorem txt_len (k : Nat) (z : Int) (s b : List UInt8) : (txt k z s b).length ≤ 18 + s.length + b.length := by
  unfold txt
  split
  · rw [numT_len]; omega
  · split
    · rw [numT_len]; omega
    · split
      · rw [plT_len]; omega
      · split <;> rw [plT_len] <;> omega

theorem txt_iff {k j : Nat} {x y : Int} {s t b c : List UInt8} (hx : InI64 x) (hy : InI64 y) (hst : s.length = t.length) :
    txt k x s b = txt j y t c ↔ k % 5 = j % 5 ∧ (if k % 5 < 2 then x = y ∧ s = t else b = c) := by
  have hk : k % 5 < 5 := Nat.mod_lt _ (by decide)
  have hj : j % 5 < 5 := Nat.mod_lt _ (by decide)
  unfold txt
  generalize k % 5 = p at *
  generalize j % 5 = q at *
  match p, hk with
  | 0, _ => match q, hj with
    | 0, _ => simp [numT_inj hx hy hst]
    | 1, _ => simp [numT_inj hx hy hst]
    | 2, _ => simp [numT_plT]
    | 3, _ => simp [numT_plT]
    | 4, _ => simp [numT_plT]
  | 1, _ => match q, hj with
    | 0, _ => simp [numT_inj hx hy hst]
    | 1, _ => simp [numT_inj hx hy hst]
    | 2, _ => simp [numT_plT]
    | 3, _ => simp [numT_plT]
    | 4, _ => simp [numT_plT]
  | 2, _ => match q, hj with
    | 0, _ => simp [numT_plT.symm]
    | 1, _ => simp [numT_plT.symm]
    | 2, _ => simp [plT_inj]
    | 3, _ => simp [plT_inj]
    | 4, _ => simp [plT_inj]
  | 3, _ => match q, hj with
    | 0, _ => simp [numT_plT.symm]
    | 1, _ => simp [numT_plT.symm]
    | 2, _ => simp [plT_inj]
    | 3, _ => simp [plT_inj]
    | 4, _ => simp [plT_inj]
  | 4, _ => match q, hj with
    | 0, _ => simp [numT_plT.symm]
    | 1, _ => simp [numT_plT.symm]
    | 2, _ => simp [plT_inj]
    | 3, _ => simp [plT_inj]
    | 4, _ => simp [plT_inj]

/-! ## What a struct's cells are, part by part -/

def Cut (cs : List Value) : Nat → List Nat → List (List Value) → Prop
  | _, [], [] => True
  | o, n :: ns, p :: ps => (cs.drop o).take n = p ∧ Cut cs (o + n) ns ps
  | _, _, _ => False
theorem cut_take {cs : List Value} : ∀ {ns : List Nat} {ps : List (List Value)} {o : Nat}, Cut cs o ns ps → (cs.drop o).take ns.sum = ps.flatten
  | [], [], _, _ => by simp
  | [], _ :: _, _, h => h.elim
  | _ :: _, [], _, h => h.elim
  | n :: ns, p :: ps, o, h => by
    rw [List.sum_cons, List.take_add, List.drop_drop, h.1, cut_take h.2, List.flatten_cons]
theorem cut_all {cs : List Value} (ns : List Nat) {ps : List (List Value)} (hl : cs.length = ns.sum) (h : Cut cs 0 ns ps) : cs = ps.flatten := by
  have := cut_take h
  rwa [List.drop_zero, List.take_of_length_le (by omega)] at this

theorem inI64 {y : Int} (h0 : IntKind.i64.min ≤ y) (h1 : y ≤ IntKind.i64.max) : InI64 y := by
  have e0 : IntKind.i64.min = -9223372036854775808 := by decide
  have e1 : IntKind.i64.max = 9223372036854775807 := by decide
  rw [e0] at h0; rw [e1] at h1
  exact ⟨h0, by omega⟩

end Go.Kx
