/- Own library, part V: a block beside a slice that it does not hold; fields of elements. -/
import Derived.Test.YtlieojojahhmmaaKxU
set_option linter.unusedSimpArgs false
set_option linter.unusedVariables false
namespace Go.Kx
open Go
variable {P : Program} {Q : Exit → Act → World → Prop} {D : Option (Nat → Prop)} {ops : Array Oper} {rest : List (Bool × Oper)} {a : Act} {w w0 w' : World} {n d : Nat} {L : List (Nat × Value)} {x y : Operand} {v u : Value} {M : List Nat} {H : List Ent} {ty : TypeId} {pos : String} {aft : Array Edge}

theorem Mem.startBR {b T es m c : Nat} {ss : List (List Value)} {ns : List Nat} {cs : List Value} (hB : (blk b ss ns T).holds w) (hr : (rd v es m c cs).holds w) (hne : b ∉ rdB v c) : Mem w [b] w [blk b ss ns T, rd v es m c cs] := by
  refine Mem.start w ?_ ?_ ?_ ?_
  · intro e he
    simp only [List.mem_cons, List.not_mem_nil, or_false] at he
    rcases he with rfl | rfl
    · exact hB
    · exact hr
  · intro e he b' hb'
    simp only [List.mem_cons, List.not_mem_nil, or_false] at he
    rcases he with rfl | rfl
    · exact hb'
    · cases hb'
  · intro e he b' hb'
    simp only [List.mem_cons, List.not_mem_nil, or_false] at he
    rcases he with rfl | rfl
    · cases hb'
    · exact List.not_mem_nil
  · refine List.pairwise_cons.2 ⟨fun f hf => ?_, List.pairwise_singleton ..⟩
    rw [List.mem_singleton.1 hf]
    refine ⟨fun b' hb' => ⟨List.not_mem_nil, ?_⟩, fun b' hb' => by cases hb'⟩
    rw [List.mem_singleton.1 hb']
    exact hne

theorem Sta.mono {X Y : Nat → Prop} (h : Sta (some X) w w') (hXY : ∀ b, X b → Y b) : Sta (some Y) w w' := ⟨h.1, fun b hb hy => h.2 b hb (fun hx => hy (hXY b hx))⟩

/-- A field of what a pointer that is read leads to. -/
theorem s_fieldAt {s i o : Nat} {p : Value} {cs : List Value} (hE : Env a n L) (hx : ev L x = some p) (hc : (cellsAt p cs).holds w) (ho : fieldOff P s i = some o) (hn : Nat.blt d n = true)
    (k : ∀ a' p', Env a' n ((d, p') :: L) → (cellsAt p' ((cs.drop o).take 1)).holds w → (∀ b, b ∈ valBlocks p' → b ∈ valBlocks p) → wpL P ops D Q rest a' w) : wpL P ops D Q ((true, ⟨some d, .fieldAddr s x i, ty, pos, aft, none⟩) :: rest) a w := by
  obtain ⟨b, off, rfl, h2, h3⟩ := hc
  refine s_fieldAddr hE hx ho hn (fun a' hE' => k a' _ hE' ⟨b, off + o, rfl, h2, fun j x hx => ?_⟩ (fun y hy => hy))
  rw [List.getElem?_take] at hx
  split at hx
  · rw [List.getElem?_drop] at hx
    have := h3 _ x hx
    rwa [← Nat.add_assoc] at this
  · cases hx

/-- The cells of numbers, two an element. -/
def two (ls : List (Int × Int)) : List Value := ls.flatMap fun p => [.int .i64 p.1, .int .i64 p.2]
theorem two_elem : ∀ {ls : List (Int × Int)} {i : Nat}, i < ls.length → ((two ls).drop (i * 2)).take 2 = [.int .i64 (ls.getD i (0, 0)).1, .int .i64 (ls.getD i (0, 0)).2]
  | p :: ls, 0, _ => rfl
  | p :: ls, i + 1, h => by
    have := two_elem (ls := ls) (i := i) (by simpa using h)
    rw [show (i + 1) * 2 = i * 2 + 2 by omega]
    simpa [two] using this

theorem two_of {l : List Value} {n : Nat} (hl : l.length = n * 2) (h : ∀ i, i < n → ∃ a b, (l.drop (i * 2)).take 2 = [.int .i64 a, .int .i64 b]) : ∃ ls, l = two ls ∧ ls.length = n := by
  induction n generalizing l with
  | zero => exact ⟨[], List.eq_nil_of_length_eq_zero (by omega), rfl⟩
  | succ n ih =>
    match l, hl with
    | [], hl => simp at hl
    | [u], hl => simp at hl; omega
    | u :: v :: l, hl =>
      obtain ⟨a, b, e⟩ := h 0 (by omega)
      simp at e
      obtain ⟨rfl, rfl⟩ := e
      obtain ⟨ls, rfl, h2⟩ := ih (l := l) (by simp at hl; omega) (fun i hi => by
        have := h (i + 1) (by omega)
        rw [show (i + 1) * 2 = i * 2 + 2 by omega] at this
        simpa using this)
      exact ⟨(a, b) :: ls, by simp [two], by simp [h2]⟩

variable {W : World} {K : Type} {enc : TypeId × Value → K}
open Go.ChangeShapes Go.WideShapes Go.ChangeAt Go.RowKit

theorem dec_two {e t0 t1 : Nat} {fs : Array Field} (hu : P.underlying e = some (.struct fs)) (hs : P.cellsOf e = 2) (hl : fs.toList.map (fun f => (f.type, f.offset, P.cellsOf f.type)) = [(t0, 0, 1), (t1, 1, 1)])
    (h0 : P.underlying t0 = some (.int .i64)) (h1 : P.underlying t1 = some (.int .i64)) : Dec P W e (fun cs => ∃ a b, cs = [.int .i64 a, .int .i64 b]) :=
  (dec_structL [(t0, 0, 1, fun cs => ∃ i, cs = [.int .i64 i] ∧ IntKind.i64.min ≤ i ∧ i ≤ IntKind.i64.max), (t1, 1, 1, fun cs => ∃ i, cs = [.int .i64 i] ∧ IntKind.i64.min ≤ i ∧ i ≤ IntKind.i64.max)] hu hs hl (by
    intro p hp
    simp only [List.mem_cons, List.not_mem_nil, or_false] at hp
    rcases hp with rfl | rfl
    · exact dec_int h0
    · exact dec_int h1)).mono fun cs h => by
    obtain ⟨a, b, rfl⟩ := len2 h.1
    obtain ⟨i, hi, _⟩ := h.2 _ (.head _)
    obtain ⟨j, hj, _⟩ := h.2 _ (.tail _ (.head _))
    simp at hi hj
    exact ⟨i, j, by rw [hi, hj]⟩

theorem arg_two {t e base : Nat} {v : Value} {d : DataW K} {qs : List MemPlace} (hu : P.underlying t = some (.slice e)) (hes : P.cellsOf e = 2) (hby : P.bytesOf e = 16) (hd : Dec P W e (fun cs => ∃ a b, cs = [.int .i64 a, .int .i64 b])) (hval : Value.okWide P W .any base t v)
    (h : DataW.Trod enc P W 0 (fun _ => true) true t v d qs) (hw : ∀ m, m ∈ d.weights P t → m ≤ reachBytes) : ∃ ls c, (rd v 2 ls.length c (two ls)).holds W ∧ ls.length ≤ 140737488351232 := by
  obtain ⟨a, n, cap, rfl⟩ := okWide_slice hu hval
  obtain ⟨v', m, c, l, hc, hr, hR, hb⟩ := trod_of (dec_slice hu hes hby (by omega) hd) h hw
  obtain rfl : Value.slice a n cap = v' := by simpa [Value.cells] using hc
  obtain ⟨ls, rfl, rfl⟩ := two_of hr.1 hR
  exact ⟨ls, c, hr, by have : reachBytes = 140737488351232 := rfl; omega⟩

end Go.Kx
