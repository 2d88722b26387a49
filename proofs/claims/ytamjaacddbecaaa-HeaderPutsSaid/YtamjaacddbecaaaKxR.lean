/- Own library, part R: what comes in as an argument of a law. -/
import Derived.Test.YtamjaacddbecaaaKxL
import Derived.Test.YtamjaacddbecaaaKxS
set_option linter.unusedSimpArgs false
set_option linter.unusedVariables false
namespace Go.Kx
open Go
open Go.ChangeShapes Go.WideShapes Go.ChangeAt Go.RowKit
variable {P : Program} {W : World} {H : Type} {enc : TypeId × Value → H}

theorem bytes_of {l : List Value} {n : Nat} (hl : l.length = n * 1) (h : ∀ i, i < n → ∃ z, (l.drop (i * 1)).take 1 = [.int .u8 z] ∧ IntKind.u8.min ≤ z ∧ z ≤ IntKind.u8.max) : ∃ bs : List UInt8, l = bv bs ∧ bs.length = n := by
  refine ⟨l.map fun v => (match v with | .int _ z => UInt8.ofNat z.toNat | _ => 0), ?_, by simp [hl]⟩
  apply List.ext_getElem?
  intro i
  by_cases hi : i < n
  · obtain ⟨z, hz, h1, h2⟩ := h i hi
    have hg : l[i]? = some (.int .u8 z) := by
      have : ((l.drop (i * 1)).take 1)[0]? = some (.int .u8 z) := by rw [hz]; rfl
      simpa using this
    have h1' : (0 : Int) ≤ z := h1
    have h2' : z ≤ 255 := h2
    simp only [bv, List.map_map, List.getElem?_map, hg, Option.map_some, Function.comp_apply, bV]
    congr 2
    simp
    omega
  · rw [List.getElem?_eq_none (by omega), List.getElem?_eq_none (by simp; omega)]

theorem dec_structL {t s : Nat} {fs : Array Field} (l : List (Nat × Nat × Nat × (List Value → Prop))) (hu : P.underlying t = some (.struct fs)) (hs : P.cellsOf t = s)
    (hl : fs.toList.map (fun f => (f.type, f.offset, P.cellsOf f.type)) = l.map (fun p => (p.1, p.2.1, p.2.2.1))) (hd : ∀ p, p ∈ l → Dec P W p.1 p.2.2.2) :
    Dec P W t (fun cs => cs.length = s ∧ ∀ p, p ∈ l → p.2.2.2 ((cs.drop p.2.1).take p.2.2.1)) := by
  have hget : ∀ (i : Nat) (f : Field), fs[i]? = some f → ∃ p, l[i]? = some p ∧ f.type = p.1 ∧ f.offset = p.2.1 ∧ P.cellsOf f.type = p.2.2.1 := by
    intro i f hf
    have h1 : (fs.toList.map (fun f => (f.type, f.offset, P.cellsOf f.type)))[i]? = some (f.type, f.offset, P.cellsOf f.type) := by
      rw [List.getElem?_map, Array.getElem?_toList, hf]; rfl
    rw [hl, List.getElem?_map] at h1
    cases hp : l[i]? with
    | none => rw [hp] at h1; cases h1
    | some p =>
      rw [hp] at h1
      simp at h1
      exact ⟨p, rfl, h1.1.symm, h1.2.1.symm, h1.2.2.symm⟩
  refine (dec_struct (R := fun i cs => ∀ p, l[i]? = some p → p.2.2.2 cs) hu hs ?_).mono fun cs h => ⟨h.1, fun p hp => ?_⟩
  · intro i f hf
    obtain ⟨p, hp, h1, h2, h3⟩ := hget i f hf
    rw [h1]
    refine (hd p (List.mem_of_getElem? hp)).mono fun cs hR q hq => ?_
    rw [hp] at hq; cases hq; exact hR
  · obtain ⟨i, hi, rfl⟩ := List.mem_iff_getElem.1 hp
    have hlen : fs.toList.length = l.length := by have := congrArg List.length hl; simpa using this
    obtain ⟨f, hf⟩ : ∃ f, fs[i]? = some f := by
      have : i < fs.size := by simpa using (show i < fs.toList.length by omega)
      exact ⟨fs[i], Array.getElem?_eq_getElem this⟩
    obtain ⟨p, hp', h1, h2, h3⟩ := hget i f hf
    have e : l[i] = p := by rw [List.getElem?_eq_getElem hi] at hp'; exact Option.some.inj hp'
    have := h.2 i f hf p hp'
    rw [h2, h3] at this
    rw [e]; exact this

theorem agg_of {cs : Array Value} {l : List Value} (h : (Value.agg cs).cells.toList = l) : cs = l.toArray := by subst h; simp [Value.cells]

end Go.Kx
