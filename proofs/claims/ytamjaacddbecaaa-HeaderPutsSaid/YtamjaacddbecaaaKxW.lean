/- Own library, part W: lists of widths, numbers and texts: laid one behind the other, and taken back. -/
import Derived.Test.YtamjaacddbecaaaKxV
set_option linter.unusedSimpArgs false
set_option linter.unusedVariables false
namespace Go.Kx
open Go
variable {P : Program} {w0 w : World} {M : List Nat} {H : List Ent}

/-- A block's parts are named anew. -/
theorem Mem.resplit {b T : Nat} {ss ss' : List (List Value)} {ns ns' : List Nat} (hM : Mem w0 M w (blk b ss ns T :: H)) (hf : ss'.flatten = ss.flatten) (hn : ss'.map List.length = ns') : Mem w0 M w (blk b ss' ns' T :: H) := by
  refine Mem.act (es := [blk b ss ns T]) (es' := [blk b ss' ns' T]) hM rfl rfl rfl (Nat.le_refl _) (fun _ _ _ => rfl) ?_ ?_ ?_ ?_ (List.pairwise_singleton ..)
  · intro e he; rw [List.mem_singleton.1 he]
    obtain ⟨_, fr, h1, h2⟩ := hM.get 0 rfl
    exact ⟨hn, fr, by rw [hf]; exact h1, by rw [hf]; exact h2⟩
  · intro e he b' hb; rw [List.mem_singleton.1 he] at hb; exact .inl ⟨_, .head _, hb⟩
  · intro e he b' hb; rw [List.mem_singleton.1 he] at hb; cases hb
  · intro e he b' hb; rw [List.mem_singleton.1 he] at hb; cases hb

abbrev Trio := Int × Nat × ByteArray
def it (k : Trio) : List Value := [.int .i64 k.1, .int .u64 (k.2.1 : Int), .string k.2.2]
def its (ls : List Trio) : List Value := ls.flatMap it
def encI (k : Trio) : List UInt8 := laid k.1.toNat k.2.1 ++ (laid 2 k.2.2.size ++ k.2.2.data.toList)
def enc (ks : List Trio) : List UInt8 := ks.flatMap encI

variable {W : World} {K : Type} {enc' : TypeId × Value → K}
open Go.ChangeShapes Go.WideShapes Go.ChangeAt Go.RowKit

end Go.Kx
