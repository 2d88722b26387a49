/- Own library, part St: parts of strings; slices of rows that are made. -/
import Derived.Test.YtamjaacddbecaaaKxWh
set_option linter.unusedSimpArgs false
set_option linter.unusedVariables false
namespace Go.Kx
open Go
theorem rep_flat {α : Type} {f : α → List Value} {x : α} {n : Nat} {zc : List Value} (h : zc = f x) : (List.replicate n zc).flatten = (List.replicate n x).flatMap f := by
  subst h; rw [List.flatMap_def, List.map_replicate]
theorem ok_rep {α : Type} {p : α → Prop} {x : α} {n : Nat} (h : p x) : ∀ y, y ∈ List.replicate n x → p y := fun y hy => by rw [List.eq_of_mem_replicate hy]; exact h
end Go.Kx
