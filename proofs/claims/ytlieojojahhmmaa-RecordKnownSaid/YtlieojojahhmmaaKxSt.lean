/- Own library, part St: parts of strings; slices of rows that are made. -/
import Derived.Test.YtlieojojahhmmaaKxWh
set_option linter.unusedSimpArgs false
set_option linter.unusedVariables false
namespace Go.Kx
open Go
theorem str_extract {l : List UInt8} {i j : Nat} : (str l).extract i j = str ((l.take j).drop i) := by
  apply ByteArray.ext
  apply Array.toList_inj.1
  simp [str, List.drop_take]
theorem str_take {l : List UInt8} {j : Nat} : (str l).extract 0 j = str (l.take j) := by rw [str_extract, List.drop_zero]
theorem str_drop {l : List UInt8} {i : Nat} : (str l).extract i (str l).size = str (l.drop i) := by
  rw [str_extract, List.take_of_length_le (by simp [str_size])]
theorem rep_flat {α : Type} {f : α → List Value} {x : α} {n : Nat} {zc : List Value} (h : zc = f x) : (List.replicate n zc).flatten = (List.replicate n x).flatMap f := by
  subst h; rw [List.flatMap_def, List.map_replicate]
theorem ok_rep {α : Type} {p : α → Prop} {x : α} {n : Nat} (h : p x) : ∀ y, y ∈ List.replicate n x → p y := fun y hy => by rw [List.eq_of_mem_replicate hy]; exact h
theorem wr0_ok : OkWr wr0 := ⟨by simp [wr0], by unfold In64; simp only [wr0]; omega, by unfold In64; simp only [wr0]; omega⟩
end Go.Kx
