/- Own library, part Wx: a write that comes in. -/
import Derived.Test.YtlieojojahhmmaaKxWr
import Derived.Test.YtlieojojahhmmaaKxY2
set_option linter.unusedSimpArgs false
set_option linter.unusedVariables false
namespace Go.Kx
open Go
variable {P : Program} {W : World}
theorem wr_of {r i : Int} {dd : List UInt8} {cs : List Value} (hl : cs.length = 66) (h0 : (cs.drop 0).take 1 = [.int .i64 r]) (h1 : (cs.drop 1).take 1 = [.int .i64 i]) (h2 : (cs.drop 2).take 64 = bv dd) : cs = wcl (r, i, dd) := by
  match cs, hl with
  | u :: v :: q, hl =>
    simp only [List.length_cons, Nat.add_right_cancel_iff] at hl
    simp only [List.drop_zero, List.take_succ_cons, List.take_zero, List.cons.injEq, and_true] at h0
    simp only [List.drop_succ_cons, List.drop_zero, List.take_succ_cons, List.take_zero, List.cons.injEq, and_true] at h1
    simp only [List.drop_succ_cons, List.drop_zero] at h2
    rw [List.take_of_length_le (by omega)] at h2
    rw [h0, h1, h2]; simp [wcl]
theorem dec_wr {t t0 t1 t2 e : Nat} {fs : Array Field} (hu : P.underlying t = some (.struct fs)) (hs : P.cellsOf t = 66) (hl : fs.toList.map (fun f => (f.type, f.offset, P.cellsOf f.type)) = [(t0, 0, 1), (t1, 1, 1), (t2, 2, 64)])
    (h0 : P.underlying t0 = some (.int .i64)) (h1 : P.underlying t1 = some (.int .i64)) (h2 : P.underlying t2 = some (.array 64 e)) (he : P.underlying e = some (.int .u8)) (hes : P.cellsOf e = 1) (hts : P.cellsOf t2 = 64) : Dec P W t (fun cs => ∃ x : Wr, cs = wcl x ∧ OkWr x) :=
  (dec_structL [(t0, 0, 1, fun cs => ∃ i, cs = [.int .i64 i] ∧ IntKind.i64.min ≤ i ∧ i ≤ IntKind.i64.max), (t1, 1, 1, fun cs => ∃ i, cs = [.int .i64 i] ∧ IntKind.i64.min ≤ i ∧ i ≤ IntKind.i64.max), (t2, 2, 64, fun cs => ∃ bs : List UInt8, cs = bv bs ∧ bs.length = 64)] hu hs hl (by
    intro p hp
    simp only [List.mem_cons, List.not_mem_nil, or_false] at hp
    rcases hp with rfl | rfl | rfl
    · exact dec_int h0
    · exact dec_int h1
    · exact dec_arr8 h2 he hes hts)).mono fun cs h => by
    obtain ⟨i, hi, hi1, hi2⟩ := h.2 _ (.head _)
    obtain ⟨j, hj, hj1, hj2⟩ := h.2 _ (.tail _ (.head _))
    obtain ⟨b, hb, hb1⟩ := h.2 _ (.tail _ (.tail _ (.head _)))
    exact ⟨(i, j, b), wr_of h.1 hi hj hb, hb1, ⟨hi1, hi2⟩, hj1, hj2⟩
end Go.Kx
