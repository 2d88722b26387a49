/- Own library, part Wx: a write that comes in. -/
import Derived.Test.YtlieojojahhmmaaKxWr
import Derived.Test.YtlieojojahhmmaaKxY2
set_option linter.unusedSimpArgs false
set_option linter.unusedVariables false
namespace Go.Kx
open Go
variable {P : Program} {W : World}
open Go.ChangeShapes Go.WideShapes Go.ChangeAt Go.RowKit in
/-- As arg_rows; the rows' bytes are bounded too. -/
theorem arg_rowsB {α : Type} {K : _} {enc : _} {P : Program} {W : World} {f : α → List Value} {ok : α → Prop} {t e es by_ base : Nat} {v : Value} {d : DataW K} {qs : List MemPlace} (hu : P.underlying t = some (.slice e)) (hes : P.cellsOf e = es) (hby : P.bytesOf e = by_) (h0 : 0 < es) (h1 : 0 < by_) (hd : Dec P W e (fun cs => ∃ x, cs = f x ∧ ok x))
    (hval : Value.okWide P W .any base t v) (h : DataW.Trod enc P W 0 (fun _ => true) true t v d qs) (hw : ∀ m, m ∈ d.weights P t → m ≤ reachBytes) : ∃ (xs : List α) (c : Nat), (rd v es xs.length c (xs.flatMap f)).holds W ∧ (∀ x, x ∈ xs → ok x) ∧ xs.length * by_ ≤ 140737488351232 := by
  obtain ⟨a, n, cap, rfl⟩ := okWide_slice hu hval
  obtain ⟨v', m, c, l, hc, hr, hR, hb⟩ := trod_of (dec_slice hu hes hby h0 hd) h hw
  obtain rfl : Value.slice a n cap = v' := by simpa [Value.cells] using hc
  obtain ⟨xs, rfl, rfl, hok⟩ := flat_of h0 m l hr.1 hR
  exact ⟨xs, c, hr, hok, by
    have e : reachBytes = 140737488351232 := rfl
    omega⟩
theorem wr_of {r i : Int} {dd : List UInt8} {cs : List Value} (hl : cs.length = 66) (h0 : (cs.drop 0).take 1 = [.int .i64 r]) (h1 : (cs.drop 1).take 1 = [.int .i64 i]) (h2 : (cs.drop 2).take 64 = bv dd) : cs = wcl (r, i, dd) := by
  match cs, hl with
  | u :: v :: q, hl =>
    simp only [List.length_cons, Nat.add_right_cancel_iff] at hl
    simp only [List.drop_zero, List.take_succ_cons, List.take_zero, List.cons.injEq, and_true] at h0
    simp only [List.drop_succ_cons, List.drop_zero, List.take_succ_cons, List.take_zero, List.cons.injEq, and_true] at h1
    simp only [List.drop_succ_cons, List.drop_zero] at h2
    rw [List.take_of_length_le (by omega)] at h2
    rw [h0, h1, h2]; simp [wcl]
theorem dec_wr {t t0 t1 t2 e : Nat} {fs : Array Field} (hu : P.underlying t = some (.struct fs)) (hs : P.cellsOf t = 66) (hl : fs.toList.map (fun f => (f.type, f.offset, P.cellsOf f.type)) = [(t0, 0, 1), (t1, 1, 1), (t2, 2, 64)])
    (h0 : P.underlying t0 = some (.int .i64)) (h1 : P.underlying t1 = some (.int .i64)) (h2 : P.underlying t2 = some (.array 64 e)) (he : P.underlying e = some (.int .u8)) (hes : P.cellsOf e = 1) (hts : P.cellsOf t2 = 64) : Dec P W t (fun cs => ∃ x : Wr, cs = wcl x ∧ OkWr x) :=
  (dec_structL [(t0, 0, 1, fun cs => ∃ i, cs = [.int .i64 i] ∧ IntKind.i64.min ≤ i ∧ i ≤ IntKind.i64.max), (t1, 1, 1, fun cs => ∃ i, cs = [.int .i64 i] ∧ IntKind.i64.min ≤ i ∧ i ≤ IntKind.i64.max), (t2, 2, 64, fun cs => ∃ bs : List UInt8, cs = bv bs ∧ bs.length = 64)] hu hs hl (by
    intro p hp
    simp only [List.mem_cons, List.not_mem_nil, or_false] at hp
    rcases hp with rfl | rfl | rfl
    · exact dec_int h0
    · exact dec_int h1
    · exact dec_arr8 h2 he hes hts)).mono fun cs h => by
    obtain ⟨i, hi, hi1, hi2⟩ := h.2 _ (.head _)
    obtain ⟨j, hj, hj1, hj2⟩ := h.2 _ (.tail _ (.head _))
    obtain ⟨b, hb, hb1⟩ := h.2 _ (.tail _ (.tail _ (.head _)))
    exact ⟨(i, j, b), wr_of h.1 hi hj hb, hb1, ⟨hi1, hi2⟩, hj1, hj2⟩
end Go.Kx
