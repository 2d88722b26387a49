/- Own library, part Wr: lists of rows that are read and appended to; writes as bytes. -/
import Derived.Test.YtamjaacddbecaaaKxRc
set_option linter.unusedSimpArgs false
set_option linter.unusedVariables false
namespace Go.Kx
open Go
variable {P : Program} {ops : Array Oper} {D : Option (Nat → Prop)} {Q : Exit → Act → World → Prop} {w0 w w' : World} {M : List Nat} {H H' : List Ent}
  {a : Act} {n : Nat} {L : List (Nat × Value)} {rest : List (Bool × Oper)} {d : Nat} {ty : TypeId} {pos : String} {aft : Array Edge} {x y z : Operand} {u v r : Value}

/-- An element of an array that lies behind a pointer. -/
theorem s_indexAt {t l es j : Nat} {i : Int} {k' : IntKind} {p : Value} {cs : List Value} (hE : Env a n L) (hx : ev L x = some p) (hc : (cellsAt p cs).holds w) (hy : ev L y = some (.int k' i)) (ht : arrT P t = some (l, es))
    (hi : i = (j : Int)) (hj : j < l) (hn : Nat.blt d n = true)
    (k : ∀ a' p', Env a' n ((d, p') :: L) → (cellsAt p' ((cs.drop (j * es)).take es)).holds w → (∀ b, b ∈ valBlocks p' → b ∈ valBlocks p) → wpL P ops D Q rest a' w) : wpL P ops D Q ((true, ⟨some d, .indexAddr t x y, ty, pos, aft, none⟩) :: rest) a w := by
  obtain ⟨b, off, rfl, h2, h3⟩ := hc
  refine s_indexArr hE hx hy ht hi hj hn (fun a' hE' => k a' _ hE' ⟨b, off + j * es, rfl, h2, fun q x hx => ?_⟩ (fun y hy => hy))
  rw [List.getElem?_take] at hx
  split at hx
  · rw [List.getElem?_drop] at hx
    have := h3 _ x hx
    rwa [← Nat.add_assoc] at this
  · cases hx

theorem getD_mem {α : Type} {l : List α} {i : Nat} {d : α} (h : i < l.length) : l.getD i d ∈ l := by
  simp [List.getD, h]
theorem Mem.ownRowsEq {α : Type} {f : α → List Value} {es : Nat} {ls ms : List α} (hM : Mem w0 M w (own v es ls.length (ls.flatMap f) :: H)) (h : ls = ms) : Mem w0 M w (own v es ms.length (ms.flatMap f) :: H) := h ▸ hM
theorem take_snocG {α : Type} {l : List α} {i : Nat} {d : α} (h : i < l.length) : l.take (i + 1) = l.take i ++ [l.getD i d] := by
  rw [List.take_succ_eq_append_getElem h]; simp [List.getD, h]

theorem ok_app {α : Type} {p : α → Prop} {l m : List α} (h : ∀ x, x ∈ l → p x) (k : ∀ x, x ∈ m → p x) : ∀ x, x ∈ l ++ m → p x := fun x hx => (List.mem_append.1 hx).elim (h x) (k x)
theorem ok_nil {α : Type} {p : α → Prop} : ∀ x, x ∈ ([] : List α) → p x := fun _ h => by cases h
theorem ok_take {α : Type} {p : α → Prop} {l : List α} {i : Nat} (h : ∀ x, x ∈ l → p x) : ∀ x, x ∈ l.take i → p x := fun x hx => h x (List.mem_of_mem_take hx)
/-! ## Writes -/
abbrev Wr := Int × Int × List UInt8
def In64 (z : Int) : Prop := -9223372036854775808 ≤ z ∧ z ≤ 9223372036854775807
theorem wf_i64 {z : Int} (h : In64 z) : (Lit.int .i64 z).wf = true := by
  unfold In64 at h
  simp [Lit.wf, IntKind.min, IntKind.max, IntKind.signed, IntKind.bits]; omega
theorem wf_u64 {m : Nat} (h : m < 18446744073709551616) : (Lit.int .u64 (m : Int)).wf = true := by
  simp [Lit.wf, IntKind.min, IntKind.max, IntKind.signed, IntKind.bits]; omega
theorem wrap_u8_toNat {z : Int} (h : 0 ≤ z) : IntKind.u8.wrap z = ((UInt8.ofNat z.toNat).toNat : Int) := by
  rw [← wrap_u8_ofNat, Int.toNat_of_nonneg h]
theorem wrap_u64_toNat {z : Int} (h : 0 ≤ z) (k : z ≤ 9223372036854775807) : IntKind.u64.wrap z = ((z.toNat : Nat) : Int) := by
  rw [Int.toNat_of_nonneg h]; exact wrap_u64 h (by omega)
end Go.Kx
