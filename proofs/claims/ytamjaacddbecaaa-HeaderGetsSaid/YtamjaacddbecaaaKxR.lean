/- Own library, part R: what comes in as an argument of a law. -/
import Derived.Test.YtamjaacddbecaaaKxL
import Derived.Test.YtamjaacddbecaaaKxS
set_option linter.unusedSimpArgs false
set_option linter.unusedVariables false
namespace Go.Kx
open Go
open Go.ChangeShapes Go.WideShapes Go.ChangeAt Go.RowKit
variable {P : Program} {W : World} {H : Type} {enc : TypeId × Value → H}

theorem bytes_of {l : List Value} {n : Nat} (hl : l.length = n * 1) (h : ∀ i, i < n → ∃ z, (l.drop (i * 1)).take 1 = [.int .u8 z] ∧ IntKind.u8.min ≤ z ∧ z ≤ IntKind.u8.max) : ∃ bs : List UInt8, l = bv bs ∧ bs.length = n := by
  refine ⟨l.map fun v => (match v with | .int _ z => UInt8.ofNat z.toNat | _ => 0), ?_, by simp [hl]⟩
  apply List.ext_getElem?
  intro i
  by_cases hi : i < n
  · obtain ⟨z, hz, h1, h2⟩ := h i hi
    have hg : l[i]? = some (.int .u8 z) := by
      have : ((l.drop (i * 1)).take 1)[0]? = some (.int .u8 z) := by rw [hz]; rfl
      simpa using this
    have h1' : (0 : Int) ≤ z := h1
    have h2' : z ≤ 255 := h2
    simp only [bv, List.map_map, List.getElem?_map, hg, Option.map_some, Function.comp_apply, bV]
    congr 2
    simp
    omega
  · rw [List.getElem?_eq_none (by omega), List.getElem?_eq_none (by simp; omega)]

end Go.Kx
