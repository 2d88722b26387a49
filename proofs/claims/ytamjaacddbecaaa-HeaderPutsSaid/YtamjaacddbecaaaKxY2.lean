/- Own library, part Y2: lists of rows of one size; slices that are owned or full; cells with histories. -/
import Derived.Test.YtamjaacddbecaaaKxY
import Derived.Test.YtamjaacddbecaaaKxZ
set_option linter.unusedSimpArgs false
set_option linter.unusedVariables false
namespace Go.Kx
open Go
variable {P : Program} {ops : Array Oper} {D : Option (Nat → Prop)} {Q : Exit → Act → World → Prop} {w0 w w' : World} {M : List Nat} {H H' : List Ent}
  {a : Act} {n : Nat} {L : List (Nat × Value)} {rest : List (Bool × Oper)} {d : Nat} {ty : TypeId} {pos : String} {aft : Array Edge} {x y z : Operand} {u v r : Value}

/-! ## Lists of rows of one size -/

theorem flat_elem {α : Type} {f : α → List Value} {es : Nat} {d : α} : ∀ {xs : List α} {i : Nat}, (∀ x, x ∈ xs → (f x).length = es) → i < xs.length → ((xs.flatMap f).drop (i * es)).take es = f (xs.getD i d)
  | x :: xs, 0, h, _ => by
    rw [List.flatMap_cons, Nat.zero_mul, List.drop_zero]
    exact List.take_left' (h x (.head _))
  | x :: xs, i + 1, h, hi => by
    have := flat_elem (d := d) (xs := xs) (i := i) (fun y hy => h y (.tail _ hy)) (by simpa using hi)
    rw [show (i + 1) * es = es + i * es by rw [Nat.succ_mul]; omega, ← List.drop_drop, List.flatMap_cons, List.drop_left' (h x (.head _))]
    exact this

variable {W : World} {K : Type} {enc : TypeId × Value → K}
theorem dec_arr8 {t e n : Nat} (hu : P.underlying t = some (.array n e)) (hue : P.underlying e = some (.int .u8)) (hes : P.cellsOf e = 1) (hts : P.cellsOf t = n * 1) : Dec P W t (fun cs => ∃ bs : List UInt8, cs = bv bs ∧ bs.length = n) :=
  (dec_array hu hes hts (dec_int hue)).mono fun cs h => by
    obtain ⟨bs, hb, hn⟩ := bytes_of h.1 h.2
    exact ⟨bs, hb, hn⟩

/-! ## Two entries are turned by a call -/

/-! ## Slices that are owned, or full -/

/-- Owned (b), or read alone and as long as they may be. -/
def hv (b : Bool) (v : Value) (es m : Nat) (cs : List Value) : Ent := cond b (own v es m cs) (rd v es m m cs)

/-! ## Cells -/

def lst (hs : List Cl) : Cl := hs.getD (hs.length - 1) cl0
@[simp] theorem lst_snoc (hs : List Cl) (c : Cl) : lst (hs ++ [c]) = c := by simp [lst, List.getD]
def mostC : Nat := 4611686018427387904
structure OkH (c0 : Cl) (hs : List Cl) : Prop where
  ok : ∀ x, x ∈ hs → OkCl x
  pos : 0 < hs.length
  top : (lst hs).1 ≤ mostC
  first : hs.getD 0 cl0 = c0
  step : ∀ k, 1 ≤ k → k < hs.length → (hs.getD k cl0).1 = (hs.getD (k - 1) cl0).1 + 1

theorem OkH.one {c0 : Cl} (h : OkCl c0) (hm : c0.1 ≤ mostC) : OkH c0 [c0] :=
  ⟨fun x hx => by rw [List.mem_singleton.1 hx]; exact h, by simp, hm, rfl, fun k h1 h2 => by simp at h2; omega⟩

theorem OkH.get {c0 : Cl} {hs : List Cl} (k : OkH c0 hs) {i : Nat} (h : i < hs.length) : OkCl (hs.getD i cl0) := by
  have e : hs.getD i cl0 = hs[i] := by simp [List.getD, h]
  rw [e]; exact k.ok _ (List.getElem_mem _)
/-- What is done to a cell: a number, and a label. -/
def act (x : Int × List UInt8) : List Value := .int .i64 x.1 :: bv x.2
end Go.Kx
