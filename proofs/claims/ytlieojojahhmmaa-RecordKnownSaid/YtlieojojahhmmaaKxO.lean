/- Own library, part O: texts become bytes; what keys of labels are. -/
import Derived.Test.YtlieojojahhmmaaKxM
import Derived.Lib.ConvBytes
set_option linter.unusedSimpArgs false
set_option linter.unusedVariables false
namespace Go.Kx
open Go
variable {P : Program} {ops : Array Oper} {D : Option (Nat → Prop)} {Q : Exit → Act → World → Prop} {w0 w w' : World} {M : List Nat} {H H' : List Ent}
  {a : Act} {n : Nat} {L : List (Nat × Value)} {rest : List (Bool × Oper)} {d : Nat} {ty : TypeId} {pos : String} {aft : Array Edge} {x y z : Operand} {u v r : Value}

theorem s_ofStr {src dst e : Nat} {s : ByteArray} {ud : TypeDesc} (hE : Env a n L) (hx : ev L x = some (.string s)) (hM : Mem w0 M w H) (hs : P.underlying src = some ud) (hd : P.underlying dst = some (.slice e)) (he : P.underlying e = some (.int .u8)) (hl : s.size ≤ maxLen)
    (hn : Nat.blt d n = true) (k : ∀ a' v' w', Env a' n ((d, v') :: L) → Mem w0 M w' (own v' 1 s.size (bv s.data.toList) :: H) → wpL P ops D Q rest a' w') :
    wpL P ops D Q ((false, ⟨some d, .convert src dst x, ty, pos, aft, none⟩) :: rest) a w := by
  have hr := Lib.run_convert_string_bytes (P := P) w src dst e s hs hd he
  have hge := grownCap_ge w s.size 0 e
  have hle := grownCap_le_maxLen w s.size 0 e hl
  refine b_val hE hn (v := .slice (some ⟨w.heap.size, 0, none⟩) s.size (grownCap w s.size 0 e)) (w' := Lib.bytesWorld w e s) ?_ ?_ (fun a' hE' => k a' _ _ hE' ?_)
  · simp only [execOp, hE.eval hx, hr, Sem.run_bind, Result.andThen_ok, Sem.run_pure]
  · cases D with
    | none => trivial
    | some X => exact ⟨by rw [Lib.bytesWorld_size]; omega, fun b hb _ => Lib.bytesWorld_at_old w e s b hb⟩
  · have hsz : (Lib.bytesCells w e s).size = grownCap w s.size 0 e := by
      have hds : s.data.size = s.size := rfl
      simp [Lib.bytesCells, hds]; omega
    refine Mem.act (es := []) (es' := [own _ 1 s.size (bv s.data.toList)]) hM ?_ ?_ ?_ (by rw [Lib.bytesWorld_size]; omega) (fun b hb _ => Lib.bytesWorld_at_old w e s b hb) ?_ ?_ ?_ ?_ (List.pairwise_singleton ..)
    · simp [Lib.bytesWorld, World.freeze, World.alloc, World.drew, -World.alloc_eq, -World.drew_eq]
    · simp [Lib.bytesWorld, World.freeze, World.alloc, World.drew, -World.alloc_eq, -World.drew_eq]
    · simp [Lib.bytesWorld, World.freeze, World.alloc, World.drew, -World.alloc_eq, -World.drew_eq]
    · intro f hf; rw [List.mem_singleton.1 hf]
      refine ⟨by rw [bv_length, Nat.mul_one]; rfl, .inr ⟨w.heap.size, _, Lib.bytesCells w e s, e, _, rfl, hge, hle, Lib.bytesWorld_at_new w e s, by rw [hsz, Nat.mul_one], ?_, .inr (Nat.le_refl _)⟩⟩
      have hds : s.data.toList.length = s.size := rfl
      simp only [Lib.bytesCells, Array.toList_append, Array.toList_map, Nat.mul_one]
      rw [List.take_append_of_le_length (by rw [List.length_map, hds]; exact Nat.le_refl _), List.take_of_length_le (by rw [List.length_map, hds]; exact Nat.le_refl _)]
      rfl
    · intro f hf b hb; rw [List.mem_singleton.1 hf] at hb; simp [own, valBlocks] at hb; right; omega
    · intro f hf b hb; rw [List.mem_singleton.1 hf] at hb; cases hb
    · intro f hf b hb; rw [List.mem_singleton.1 hf] at hb; cases hb

/-- The row of a label, and the key that is under it. -/
def rowL (l : List UInt8) : List UInt8 := (pRow 68 [l]).1
def subW (key l : List UInt8) : List UInt8 := hmacW key (rowL l)
@[simp] theorem subW_length (key l : List UInt8) : (subW key l).length = 32 := by simp [subW]
theorem rowL_eq (l : List UInt8) : rowL l = 68 :: 1 :: laid 4 l.length ++ l := by
  simp [rowL, pRow, rowBs, rowPart]
theorem rowL_ok (l : List UInt8) : pRow 68 [l] = (rowL l, 0) := by
  simp [rowL, pRow]
theorem rowL_inj {a b : List UInt8} : rowL a = rowL b ↔ a = b := by
  constructor
  · intro h
    rw [rowL_eq, rowL_eq] at h
    simp only [List.cons_append, List.cons.injEq, true_and] at h
    exact (List.append_inj h (by simp)).2
  · rintro rfl; rfl
end Go.Kx
