/- Own library, part Wr: lists of rows that are read and appended to; writes as bytes. -/
import Derived.Test.YtlieojojahhmmaaKxRc
set_option linter.unusedSimpArgs false
set_option linter.unusedVariables false
namespace Go.Kx
open Go
variable {P : Program} {ops : Array Oper} {D : Option (Nat → Prop)} {Q : Exit → Act → World → Prop} {w0 w w' : World} {M : List Nat} {H H' : List Ent}
  {a : Act} {n : Nat} {L : List (Nat × Value)} {rest : List (Bool × Oper)} {d : Nat} {ty : TypeId} {pos : String} {aft : Array Edge} {x y z : Operand} {u v r : Value}

/-- An element of an array that lies behind a pointer. -/
theorem s_indexAt {t l es j : Nat} {i : Int} {k' : IntKind} {p : Value} {cs : List Value} (hE : Env a n L) (hx : ev L x = some p) (hc : (cellsAt p cs).holds w) (hy : ev L y = some (.int k' i)) (ht : arrT P t = some (l, es))
    (hi : i = (j : Int)) (hj : j < l) (hn : Nat.blt d n = true)
    (k : ∀ a' p', Env a' n ((d, p') :: L) → (cellsAt p' ((cs.drop (j * es)).take es)).holds w → (∀ b, b ∈ valBlocks p' → b ∈ valBlocks p) → wpL P ops D Q rest a' w) : wpL P ops D Q ((true, ⟨some d, .indexAddr t x y, ty, pos, aft, none⟩) :: rest) a w := by
  obtain ⟨b, off, rfl, h2, h3⟩ := hc
  refine s_indexArr hE hx hy ht hi hj hn (fun a' hE' => k a' _ hE' ⟨b, off + j * es, rfl, h2, fun q x hx => ?_⟩ (fun y hy => hy))
  rw [List.getElem?_take] at hx
  split at hx
  · rw [List.getElem?_drop] at hx
    have := h3 _ x hx
    rwa [← Nat.add_assoc] at this
  · cases hx

theorem getD_mem {α : Type} {l : List α} {i : Nat} {d : α} (h : i < l.length) : l.getD i d ∈ l := by
  simp [List.getD, h]
theorem Mem.ownRows {α : Type} {f : α → List Value} {es k : Nat} {ls : List α} {x : α} {cs : List Value} (hM : Mem w0 M w (own v es (ls.length + k) (ls.flatMap f ++ cs) :: H)) (hk : k = 1) (hc : cs = f x) : Mem w0 M w (own v es (ls ++ [x]).length ((ls ++ [x]).flatMap f) :: H) :=
  hM.ownEq (by simp [hk]) (by simp [hc])
theorem Mem.ownRowsL {α : Type} {f : α → List Value} {es k : Nat} {ls ms : List α} {cs : List Value} (hM : Mem w0 M w (own v es (ls.length + k) (ls.flatMap f ++ cs) :: H)) (hk : k = ms.length) (hc : cs = ms.flatMap f) : Mem w0 M w (own v es (ls ++ ms).length ((ls ++ ms).flatMap f) :: H) :=
  hM.ownEq (by simp [hk]) (by simp [hc])
theorem Mem.ownRowsEq {α : Type} {f : α → List Value} {es : Nat} {ls ms : List α} (hM : Mem w0 M w (own v es ls.length (ls.flatMap f) :: H)) (h : ls = ms) : Mem w0 M w (own v es ms.length (ms.flatMap f) :: H) := h ▸ hM
theorem take_snocG {α : Type} {l : List α} {i : Nat} {d : α} (h : i < l.length) : l.take (i + 1) = l.take i ++ [l.getD i d] := by
  rw [List.take_succ_eq_append_getElem h]; simp [List.getD, h]

theorem ok_app {α : Type} {p : α → Prop} {l m : List α} (h : ∀ x, x ∈ l → p x) (k : ∀ x, x ∈ m → p x) : ∀ x, x ∈ l ++ m → p x := fun x hx => (List.mem_append.1 hx).elim (h x) (k x)
theorem ok_one {α : Type} {p : α → Prop} {y : α} (h : p y) : ∀ x, x ∈ [y] → p x := fun x hx => by rw [List.mem_singleton.1 hx]; exact h
theorem ok_nil {α : Type} {p : α → Prop} : ∀ x, x ∈ ([] : List α) → p x := fun _ h => by cases h
theorem ok_take {α : Type} {p : α → Prop} {l : List α} {i : Nat} (h : ∀ x, x ∈ l → p x) : ∀ x, x ∈ l.take i → p x := fun x hx => h x (List.mem_of_mem_take hx)
theorem rd_nilR (es : Nat) (w : World) : (rd (.slice none 0 0) es 0 0 []).holds w := ⟨by simp, .inl ⟨none, rfl, rfl, rfl⟩⟩

/-! ## Writes -/
abbrev Wr := Int × Int × List UInt8
def wcl (x : Wr) : List Value := [[.int .i64 x.1], [.int .i64 x.2.1], bv x.2.2].flatten
def wr0 : Wr := (0, 0, List.replicate 64 0)
def In64 (z : Int) : Prop := -9223372036854775808 ≤ z ∧ z ≤ 9223372036854775807
theorem wf_i64 {z : Int} (h : In64 z) : (Lit.int .i64 z).wf = true := by
  unfold In64 at h
  simp [Lit.wf, IntKind.min, IntKind.max, IntKind.signed, IntKind.bits]; omega
theorem wf_u64 {m : Nat} (h : m < 18446744073709551616) : (Lit.int .u64 (m : Int)).wf = true := by
  simp [Lit.wf, IntKind.min, IntKind.max, IntKind.signed, IntKind.bits]; omega
def OkWr (x : Wr) : Prop := x.2.2.length = 64 ∧ In64 x.1 ∧ In64 x.2.1
theorem wcl_len {x : Wr} (h : x.2.2.length = 64) : (wcl x).length = 66 := by simp [wcl, h]
theorem wcl_one (x : Wr) : One (wcl x) := one_fl ⟨one1 rfl, one1 rfl, bv_one _, trivial⟩
theorem wcls_one (ls : List Wr) : One (ls.flatMap wcl) := fun v hv => by
  obtain ⟨c, _, h⟩ := List.mem_flatMap.1 hv
  exact wcl_one c v h
theorem wcl_data {x : Wr} (h : x.2.2.length = 64) : ((wcl x).drop 2).take 64 = bv x.2.2 := by
  simp only [wcl, List.flatten_cons, List.flatten_nil, List.append_nil, List.singleton_append, List.drop_succ_cons, List.drop_zero]
  rw [List.take_of_length_le (by simp [h])]
theorem wcl_inj {x y : Wr} : wcl x = wcl y ↔ x = y := by
  obtain ⟨a, b, c⟩ := x
  obtain ⟨d, e, f⟩ := y
  simp [wcl, bv_iff]
def mayW (x : Wr) : Bool := (decide (x.1 = 1) || decide (x.1 = 3) || decide (x.1 = 4)) && numB x.2.1
def wB (x : Wr) : List UInt8 := ([UInt8.ofNat x.1.toNat] ++ laid 4 x.2.1.toNat) ++ x.2.2
theorem wB_len {x : Wr} (h : x.2.2.length = 64) : (wB x).length = 69 := by simp [wB, h]
theorem wBs_len : ∀ {ls : List Wr}, (∀ x, x ∈ ls → x.2.2.length = 64) → (ls.flatMap wB).length = 69 * ls.length
  | [], _ => by simp
  | x :: ls, h => by
    rw [List.flatMap_cons, List.length_append, wB_len (h x (.head _)), wBs_len fun y hy => h y (.tail _ hy), List.length_cons]; omega
theorem mayW_nat {x : Wr} (h : mayW x = true) : ∃ a b : Nat, x = ((a : Int), (b : Int), x.2.2) ∧ (a = 1 ∨ a = 3 ∨ a = 4) ∧ b ≤ 2147483647 := by
  obtain ⟨r, i, dd⟩ := x
  simp only [mayW, Bool.and_eq_true, Bool.or_eq_true, decide_eq_true_eq] at h
  obtain ⟨b, hb, hb'⟩ := numB_nat h.2
  subst hb
  rcases h.1 with (rfl | rfl) | rfl
  · exact ⟨1, b, rfl, .inl rfl, hb'⟩
  · exact ⟨3, b, rfl, .inr (.inl rfl), hb'⟩
  · exact ⟨4, b, rfl, .inr (.inr rfl), hb'⟩
/-- What comes of writes. -/
def putW (ls : List Wr) : List UInt8 := if ls.length ≤ 65536 ∧ ls.all mayW then ls.flatMap wB else []
def putF (ls : List Wr) : Nat := if 65536 < ls.length then 3 else if ls.all mayW then 0 else 2
theorem all_take {α : Type} {p : α → Bool} {l : List α} {i : Nat} {d : α} (h : (l.take i).all p = true) (hi : i < l.length) (hp : p (l.getD i d) = true) : (l.take (i + 1)).all p = true := by
  rw [take_snocG (d := d) hi, List.all_append, h, List.all_cons, hp]; rfl
theorem all_not {α : Type} {p : α → Bool} {l : List α} {i : Nat} {d : α} (hi : i < l.length) (hp : p (l.getD i d) = false) : l.all p = false := by
  rw [Bool.eq_false_iff]; intro h
  rw [List.all_eq_true.1 h _ (getD_mem hi)] at hp; cases hp
theorem mayW_rng {x : Wr} (h : mayW x = true) : 0 ≤ x.1 ∧ x.1 ≤ 4 ∧ 0 ≤ x.2.1 ∧ x.2.1 ≤ 2147483647 := by
  simp only [mayW, numB, Bool.and_eq_true, Bool.or_eq_true, decide_eq_true_eq] at h
  omega
theorem wrap_u8_toNat {z : Int} (h : 0 ≤ z) : IntKind.u8.wrap z = ((UInt8.ofNat z.toNat).toNat : Int) := by
  rw [← wrap_u8_ofNat, Int.toNat_of_nonneg h]
theorem wrap_u64_toNat {z : Int} (h : 0 ≤ z) (k : z ≤ 9223372036854775807) : IntKind.u64.wrap z = ((z.toNat : Nat) : Int) := by
  rw [Int.toNat_of_nonneg h]; exact wrap_u64 h (by omega)
theorem wB_step {ls : List Wr} {i : Nat} (h : i < ls.length) : (((ls.take i).flatMap wB ++ [UInt8.ofNat (ls.getD i wr0).1.toNat]) ++ laid 4 (ls.getD i wr0).2.1.toNat) ++ (ls.getD i wr0).2.2 = (ls.take (i + 1)).flatMap wB := by
  rw [take_snocG (d := wr0) h, List.flatMap_append]
  simp [wB]
theorem wBt_len {ls : List Wr} {i : Nat} (h : ∀ x, x ∈ ls → OkWr x) (hi : i ≤ ls.length) : ((ls.take i).flatMap wB).length = 69 * i := by
  rw [wBs_len fun x hx => (h x (List.mem_of_mem_take hx)).1, List.length_take, Nat.min_eq_left hi]
theorem putW_ok {ls : List Wr} (h : ls.length ≤ 65536) (k : ls.all mayW = true) : putW ls = ls.flatMap wB ∧ putF ls = 0 := by
  constructor
  · rw [putW, if_pos ⟨h, k⟩]
  · rw [putF, if_neg (by omega), if_pos k]
theorem putW_long {ls : List Wr} (h : 65536 < ls.length) : putW ls = [] ∧ putF ls = 3 := by
  constructor
  · rw [putW, if_neg (by omega)]
  · rw [putF, if_pos h]
theorem putW_not {ls : List Wr} (h : ls.length ≤ 65536) (k : ls.all mayW = false) : putW ls = [] ∧ putF ls = 2 := by
  constructor
  · rw [putW, k]; simp
  · rw [putF, if_neg (by omega), k]; rfl
end Go.Kx
