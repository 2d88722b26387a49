/- Own library, part Wx: a write that comes in. -/
import Derived.Test.YtamjaacddbecaaaKxWr
import Derived.Test.YtamjaacddbecaaaKxY2
set_option linter.unusedSimpArgs false
set_option linter.unusedVariables false
namespace Go.Kx
open Go
variable {P : Program} {W : World}
open Go.ChangeShapes Go.WideShapes Go.ChangeAt Go.RowKit in
/-- As arg_rows; the rows' bytes are bounded too. -/
theorem arg_rowsB {α : Type} {K : _} {enc : _} {P : Program} {W : World} {f : α → List Value} {ok : α → Prop} {t e es by_ base : Nat} {v : Value} {d : DataW K} {qs : List MemPlace} (hu : P.underlying t = some (.slice e)) (hes : P.cellsOf e = es) (hby : P.bytesOf e = by_) (h0 : 0 < es) (h1 : 0 < by_) (hd : Dec P W e (fun cs => ∃ x, cs = f x ∧ ok x))
    (hval : Value.okWide P W .any base t v) (h : DataW.Trod enc P W 0 (fun _ => true) true t v d qs) (hw : ∀ m, m ∈ d.weights P t → m ≤ reachBytes) : ∃ (xs : List α) (c : Nat), (rd v es xs.length c (xs.flatMap f)).holds W ∧ (∀ x, x ∈ xs → ok x) ∧ xs.length * by_ ≤ 140737488351232 := by
  obtain ⟨a, n, cap, rfl⟩ := okWide_slice hu hval
  obtain ⟨v', m, c, l, hc, hr, hR, hb⟩ := trod_of (dec_slice hu hes hby h0 hd) h hw
  obtain rfl : Value.slice a n cap = v' := by simpa [Value.cells] using hc
  obtain ⟨xs, rfl, rfl, hok⟩ := flat_of h0 m l hr.1 hR
  exact ⟨xs, c, hr, hok, by
    have e : reachBytes = 140737488351232 := rfl
    omega⟩
end Go.Kx
