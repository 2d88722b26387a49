/- Own library, part Y: counts with labels (33 cells), and lists of them. -/
import Derived.Test.YtlieojojahhmmaaKxX
set_option linter.unusedSimpArgs false
set_option linter.unusedVariables false
namespace Go.Kx
open Go
variable {P : Program} {w : World}

abbrev Cl := Nat × List UInt8
def cl (c : Cl) : List Value := .int .u64 (c.1 : Int) :: bv c.2
def cls (hs : List Cl) : List Value := hs.flatMap cl
def cl0 : Cl := (0, List.replicate 32 0)
def OkCl (c : Cl) : Prop := c.2.length = 32 ∧ c.1 < 2 ^ 64

theorem cl_len {c : Cl} (h : OkCl c) : (cl c).length = 33 := by simp [cl, h.1]

theorem cls_len : ∀ {hs : List Cl}, (∀ c, c ∈ hs → OkCl c) → (cls hs).length = hs.length * 33
  | [], _ => rfl
  | c :: hs, h => by
    have h1 := cl_len (h c (.head _))
    have h2 := cls_len (hs := hs) (fun d hd => h d (.tail _ hd))
    simp [cls] at h2 ⊢
    omega

theorem cls_elem : ∀ {hs : List Cl} {i : Nat}, (∀ c, c ∈ hs → OkCl c) → i < hs.length → ((cls hs).drop (i * 33)).take 33 = cl (hs.getD i cl0)
  | c :: hs, 0, h, _ => by
    have h1 := cl_len (h c (.head _))
    simp only [cls, List.flatMap_cons, Nat.zero_mul, List.drop_zero]
    exact List.take_left' h1
  | c :: hs, i + 1, h, hi => by
    have h1 := cl_len (h c (.head _))
    have := cls_elem (hs := hs) (i := i) (fun d hd => h d (.tail _ hd)) (by simpa using hi)
    rw [show (i + 1) * 33 = 33 + i * 33 by omega, ← List.drop_drop]
    simp only [cls, List.flatMap_cons]
    rw [List.drop_left' h1]
    exact this

theorem cl_one (c : Cl) : One (cl c) := fun v hv => by
  rcases List.mem_cons.1 hv with rfl | hv
  · rfl
  · exact bv_one _ v hv

theorem cls_one (hs : List Cl) : One (cls hs) := fun v hv => by
  obtain ⟨c, _, h⟩ := List.mem_flatMap.1 hv
  exact cl_one c v h

theorem cls_snoc (hs : List Cl) (c : Cl) : cls hs ++ cl c = cls (hs ++ [c]) := by simp [cls]

end Go.Kx
