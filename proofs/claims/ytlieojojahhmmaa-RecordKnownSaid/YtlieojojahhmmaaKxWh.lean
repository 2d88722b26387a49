/- Own library, part Wh: two slices of rows that come in. -/
import Derived.Test.YtlieojojahhmmaaKxWg
import Derived.Test.YtlieojojahhmmaaKxN
set_option linter.unusedSimpArgs false
set_option linter.unusedVariables false
namespace Go.Kx
open Go
variable {P : Program} {W : World}
theorem dec_rows {α : Type} {f : α → List Value} {ok : α → Prop} {t e es by_ : Nat} (hu : P.underlying t = some (.slice e)) (hes : P.cellsOf e = es) (hby : P.bytesOf e = by_) (h0 : 0 < es) (hd : Dec P W e (fun cs => ∃ x, cs = f x ∧ ok x)) :
    Dec P W t (fun cs => ∃ (v : Value) (xs : List α) (c : Nat), cs = [v] ∧ (rd v es xs.length c (xs.flatMap f)).holds W ∧ (∀ x, x ∈ xs → ok x) ∧ xs.length * by_ ≤ 140737488351232) :=
  (dec_slice hu hes hby h0 hd).mono fun cs h => by
    obtain ⟨v, n, c, l, rfl, hr, hR, hb⟩ := h
    obtain ⟨xs, rfl, rfl, hok⟩ := flat_of h0 n l hr.1 hR
    exact ⟨v, xs, c, rfl, hr, hok, hb⟩
open Go.ChangeShapes Go.WideShapes Go.ChangeAt Go.RowKit in
theorem arg_twoRows {α : Type} {K : _} {enc : _} {f : α → List Value} {ok : α → Prop} {ta t e es by_ base : Nat} {v : Value} {d : DataW K} {qs : List MemPlace} (hua : P.underlying ta = some (.array 2 t)) (hea : P.cellsOf t = 1) (hta : P.cellsOf ta = 2 * 1) (hu : P.underlying t = some (.slice e)) (hes : P.cellsOf e = es) (hby : P.bytesOf e = by_) (h0 : 0 < es) (hd : Dec P W e (fun cs => ∃ x, cs = f x ∧ ok x))
    (hval : Value.okWide P W .any base ta v) (h : DataW.Trod enc P W 0 (fun _ => true) true ta v d qs) (hw : ∀ m, m ∈ d.weights P ta → m ≤ reachBytes) : ∃ (v1 v2 : Value) (xs ys : List α) (c1 c2 : Nat), v = .agg ([[v1], [v2]] : List (List Value)).flatten.toArray ∧ (rd v1 es xs.length c1 (xs.flatMap f)).holds W ∧ (∀ x, x ∈ xs → ok x) ∧ (rd v2 es ys.length c2 (ys.flatMap f)).holds W ∧ (∀ x, x ∈ ys → ok x) := by
  obtain ⟨cs, rfl⟩ := okWide_arr hua hval
  obtain ⟨hl, hR⟩ := trod_of (dec_array hua hea hta (dec_rows hu hes hby h0 hd)) h hw
  obtain ⟨v1, xs, c1, e1, r1, o1, -⟩ := hR 0 (by omega)
  obtain ⟨v2, ys, c2, e2, r2, o2, -⟩ := hR 1 (by omega)
  refine ⟨v1, v2, xs, ys, c1, c2, ?_, r1, o1, r2, o2⟩
  have hc : (Value.agg cs).cells.toList = cs.toList := by simp [Value.cells]
  rw [hc] at hl e1 e2
  obtain ⟨a, b, hab⟩ : ∃ a b, cs.toList = [a, b] := by
    match h : cs.toList, hl with
    | [a, b], _ => exact ⟨a, b, rfl⟩
  rw [hab] at e1 e2
  simp at e1 e2
  subst e1 e2
  congr 1
  exact Array.toList_inj.1 (by simpa using hab)
end Go.Kx
