/- Own library, part Y2: lists of rows of one size; slices that are owned or full; cells with histories. -/
import Derived.Test.YtamjaacddbecaaaKxY
import Derived.Test.YtamjaacddbecaaaKxZ
set_option linter.unusedSimpArgs false
set_option linter.unusedVariables false
namespace Go.Kx
open Go
variable {P : Program} {ops : Array Oper} {D : Option (Nat → Prop)} {Q : Exit → Act → World → Prop} {w0 w w' : World} {M : List Nat} {H H' : List Ent}
  {a : Act} {n : Nat} {L : List (Nat × Value)} {rest : List (Bool × Oper)} {d : Nat} {ty : TypeId} {pos : String} {aft : Array Edge} {x y z : Operand} {u v r : Value}

/-! ## Lists of rows of one size -/

theorem flat_elem {α : Type} {f : α → List Value} {es : Nat} {d : α} : ∀ {xs : List α} {i : Nat}, (∀ x, x ∈ xs → (f x).length = es) → i < xs.length → ((xs.flatMap f).drop (i * es)).take es = f (xs.getD i d)
  | x :: xs, 0, h, _ => by
    rw [List.flatMap_cons, Nat.zero_mul, List.drop_zero]
    exact List.take_left' (h x (.head _))
  | x :: xs, i + 1, h, hi => by
    have := flat_elem (d := d) (xs := xs) (i := i) (fun y hy => h y (.tail _ hy)) (by simpa using hi)
    rw [show (i + 1) * es = es + i * es by rw [Nat.succ_mul]; omega, ← List.drop_drop, List.flatMap_cons, List.drop_left' (h x (.head _))]
    exact this

theorem flat_of {α : Type} {f : α → List Value} {es : Nat} {ok : α → Prop} (h0 : 0 < es) : ∀ (n : Nat) (l : List Value), l.length = n * es → (∀ i, i < n → ∃ x, (l.drop (i * es)).take es = f x ∧ ok x) → ∃ xs : List α, l = xs.flatMap f ∧ xs.length = n ∧ ∀ x, x ∈ xs → ok x
  | 0, l, hl, _ => ⟨[], List.eq_nil_of_length_eq_zero (by simpa using hl), rfl, by simp⟩
  | n + 1, l, hl, h => by
    obtain ⟨x, hx, hok⟩ := h 0 (by omega)
    rw [Nat.zero_mul, List.drop_zero] at hx
    obtain ⟨xs, hxs, hn, hoks⟩ := flat_of h0 n (l.drop es) (by rw [List.length_drop, hl, Nat.succ_mul]; omega) (fun i hi => by
      have := h (i + 1) (by omega)
      rw [show (i + 1) * es = es + i * es by rw [Nat.succ_mul]; omega, ← List.drop_drop] at this
      exact this)
    refine ⟨x :: xs, ?_, by simp [hn], fun y hy => ?_⟩
    · rw [List.flatMap_cons, ← hx, ← hxs, List.take_append_drop]
    · rcases List.mem_cons.1 hy with rfl | hy
      · exact hok
      · exact hoks y hy

variable {W : World} {K : Type} {enc : TypeId × Value → K}
open Go.ChangeShapes Go.WideShapes Go.ChangeAt Go.RowKit in
/-- A slice of rows that comes in. -/
theorem arg_rows {α : Type} {f : α → List Value} {ok : α → Prop} {t e es by_ base : Nat} {v : Value} {d : DataW K} {qs : List MemPlace} (hu : P.underlying t = some (.slice e)) (hes : P.cellsOf e = es) (hby : P.bytesOf e = by_) (h0 : 0 < es) (h1 : 0 < by_) (hd : Dec P W e (fun cs => ∃ x, cs = f x ∧ ok x))
    (hval : Value.okWide P W .any base t v) (h : DataW.Trod enc P W 0 (fun _ => true) true t v d qs) (hw : ∀ m, m ∈ d.weights P t → m ≤ reachBytes) : ∃ (xs : List α) (c : Nat), (rd v es xs.length c (xs.flatMap f)).holds W ∧ (∀ x, x ∈ xs → ok x) ∧ xs.length ≤ 140737488351232 := by
  obtain ⟨a, n, cap, rfl⟩ := okWide_slice hu hval
  obtain ⟨v', m, c, l, hc, hr, hR, hb⟩ := trod_of (dec_slice hu hes hby h0 hd) h hw
  obtain rfl : Value.slice a n cap = v' := by simpa [Value.cells] using hc
  obtain ⟨xs, rfl, rfl, hok⟩ := flat_of h0 m l hr.1 hR
  exact ⟨xs, c, hr, hok, by
    have e : reachBytes = 140737488351232 := rfl
    have := Nat.le_mul_of_pos_right xs.length h1; omega⟩

theorem dec_arr8 {t e n : Nat} (hu : P.underlying t = some (.array n e)) (hue : P.underlying e = some (.int .u8)) (hes : P.cellsOf e = 1) (hts : P.cellsOf t = n * 1) : Dec P W t (fun cs => ∃ bs : List UInt8, cs = bv bs ∧ bs.length = n) :=
  (dec_array hu hes hts (dec_int hue)).mono fun cs h => by
    obtain ⟨bs, hb, hn⟩ := bytes_of h.1 h.2
    exact ⟨bs, hb, hn⟩

/-! ## Two entries are turned by a call -/

/-! ## Slices that are owned, or full -/

/-- Owned (b), or read alone and as long as they may be. -/
def hv (b : Bool) (v : Value) (es m : Nat) (cs : List Value) : Ent := cond b (own v es m cs) (rd v es m m cs)

/-! ## Cells -/

def lst (hs : List Cl) : Cl := hs.getD (hs.length - 1) cl0
@[simp] theorem lst_snoc (hs : List Cl) (c : Cl) : lst (hs ++ [c]) = c := by simp [lst, List.getD]
def mostC : Nat := 4611686018427387904
structure OkH (c0 : Cl) (hs : List Cl) : Prop where
  ok : ∀ x, x ∈ hs → OkCl x
  pos : 0 < hs.length
  top : (lst hs).1 ≤ mostC
  first : hs.getD 0 cl0 = c0
  step : ∀ k, 1 ≤ k → k < hs.length → (hs.getD k cl0).1 = (hs.getD (k - 1) cl0).1 + 1

theorem OkH.one {c0 : Cl} (h : OkCl c0) (hm : c0.1 ≤ mostC) : OkH c0 [c0] :=
  ⟨fun x hx => by rw [List.mem_singleton.1 hx]; exact h, by simp, hm, rfl, fun k h1 h2 => by simp at h2; omega⟩

theorem OkH.get {c0 : Cl} {hs : List Cl} (k : OkH c0 hs) {i : Nat} (h : i < hs.length) : OkCl (hs.getD i cl0) := by
  have e : hs.getD i cl0 = hs[i] := by simp [List.getD, h]
  rw [e]; exact k.ok _ (List.getElem_mem _)
/-- What is done to a cell: a number, and a label. -/
def act (x : Int × List UInt8) : List Value := .int .i64 x.1 :: bv x.2
end Go.Kx
