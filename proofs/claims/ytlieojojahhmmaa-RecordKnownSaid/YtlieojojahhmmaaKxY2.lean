/- Own library, part Y2: lists of rows of one size; slices that are owned or full; cells with histories. -/
import Derived.Test.YtlieojojahhmmaaKxY
import Derived.Test.YtlieojojahhmmaaKxZ
set_option linter.unusedSimpArgs false
set_option linter.unusedVariables false
namespace Go.Kx
open Go
variable {P : Program} {ops : Array Oper} {D : Option (Nat → Prop)} {Q : Exit → Act → World → Prop} {w0 w w' : World} {M : List Nat} {H H' : List Ent}
  {a : Act} {n : Nat} {L : List (Nat × Value)} {rest : List (Bool × Oper)} {d : Nat} {ty : TypeId} {pos : String} {aft : Array Edge} {x y z : Operand} {u v r : Value}

/-! ## Lists of rows of one size -/

theorem flat_len {α : Type} {f : α → List Value} {es : Nat} : ∀ {xs : List α}, (∀ x, x ∈ xs → (f x).length = es) → (xs.flatMap f).length = xs.length * es
  | [], _ => by simp
  | x :: xs, h => by
    rw [List.flatMap_cons, List.length_append, h x (.head _), flat_len (fun y hy => h y (.tail _ hy)), List.length_cons, Nat.succ_mul, Nat.add_comm]

theorem flat_elem {α : Type} {f : α → List Value} {es : Nat} {d : α} : ∀ {xs : List α} {i : Nat}, (∀ x, x ∈ xs → (f x).length = es) → i < xs.length → ((xs.flatMap f).drop (i * es)).take es = f (xs.getD i d)
  | x :: xs, 0, h, _ => by
    rw [List.flatMap_cons, Nat.zero_mul, List.drop_zero]
    exact List.take_left' (h x (.head _))
  | x :: xs, i + 1, h, hi => by
    have := flat_elem (d := d) (xs := xs) (i := i) (fun y hy => h y (.tail _ hy)) (by simpa using hi)
    rw [show (i + 1) * es = es + i * es by rw [Nat.succ_mul]; omega, ← List.drop_drop, List.flatMap_cons, List.drop_left' (h x (.head _))]
    exact this

theorem flat_of {α : Type} {f : α → List Value} {es : Nat} {ok : α → Prop} (h0 : 0 < es) : ∀ (n : Nat) (l : List Value), l.length = n * es → (∀ i, i < n → ∃ x, (l.drop (i * es)).take es = f x ∧ ok x) → ∃ xs : List α, l = xs.flatMap f ∧ xs.length = n ∧ ∀ x, x ∈ xs → ok x
  | 0, l, hl, _ => ⟨[], List.eq_nil_of_length_eq_zero (by simpa using hl), rfl, by simp⟩
  | n + 1, l, hl, h => by
    obtain ⟨x, hx, hok⟩ := h 0 (by omega)
    rw [Nat.zero_mul, List.drop_zero] at hx
    obtain ⟨xs, hxs, hn, hoks⟩ := flat_of h0 n (l.drop es) (by rw [List.length_drop, hl, Nat.succ_mul]; omega) (fun i hi => by
      have := h (i + 1) (by omega)
      rw [show (i + 1) * es = es + i * es by rw [Nat.succ_mul]; omega, ← List.drop_drop] at this
      exact this)
    refine ⟨x :: xs, ?_, by simp [hn], fun y hy => ?_⟩
    · rw [List.flatMap_cons, ← hx, ← hxs, List.take_append_drop]
    · rcases List.mem_cons.1 hy with rfl | hy
      · exact hok
      · exact hoks y hy

variable {W : World} {K : Type} {enc : TypeId × Value → K}
open Go.ChangeShapes Go.WideShapes Go.ChangeAt Go.RowKit in
/-- A slice of rows that comes in. -/
theorem arg_rows {α : Type} {f : α → List Value} {ok : α → Prop} {t e es by_ base : Nat} {v : Value} {d : DataW K} {qs : List MemPlace} (hu : P.underlying t = some (.slice e)) (hes : P.cellsOf e = es) (hby : P.bytesOf e = by_) (h0 : 0 < es) (h1 : 0 < by_) (hd : Dec P W e (fun cs => ∃ x, cs = f x ∧ ok x))
    (hval : Value.okWide P W .any base t v) (h : DataW.Trod enc P W 0 (fun _ => true) true t v d qs) (hw : ∀ m, m ∈ d.weights P t → m ≤ reachBytes) : ∃ (xs : List α) (c : Nat), (rd v es xs.length c (xs.flatMap f)).holds W ∧ (∀ x, x ∈ xs → ok x) ∧ xs.length ≤ 140737488351232 := by
  obtain ⟨a, n, cap, rfl⟩ := okWide_slice hu hval
  obtain ⟨v', m, c, l, hc, hr, hR, hb⟩ := trod_of (dec_slice hu hes hby h0 hd) h hw
  obtain rfl : Value.slice a n cap = v' := by simpa [Value.cells] using hc
  obtain ⟨xs, rfl, rfl, hok⟩ := flat_of h0 m l hr.1 hR
  exact ⟨xs, c, hr, hok, by
    have e : reachBytes = 140737488351232 := rfl
    have := Nat.le_mul_of_pos_right xs.length h1; omega⟩

theorem dec_arr8 {t e n : Nat} (hu : P.underlying t = some (.array n e)) (hue : P.underlying e = some (.int .u8)) (hes : P.cellsOf e = 1) (hts : P.cellsOf t = n * 1) : Dec P W t (fun cs => ∃ bs : List UInt8, cs = bv bs ∧ bs.length = n) :=
  (dec_array hu hes hts (dec_int hue)).mono fun cs h => by
    obtain ⟨bs, hb, hn⟩ := bytes_of h.1 h.2
    exact ⟨bs, hb, hn⟩

theorem s_fieldAtN {s i o m : Nat} {p : Value} {cs : List Value} (hE : Env a n L) (hx : ev L x = some p) (hc : (cellsAt p cs).holds w) (ho : fieldOff P s i = some o) (hn : Nat.blt d n = true)
    (k : ∀ a' p', Env a' n ((d, p') :: L) → (cellsAt p' ((cs.drop o).take m)).holds w → (∀ b, b ∈ valBlocks p' → b ∈ valBlocks p) → wpL P ops D Q rest a' w) : wpL P ops D Q ((true, ⟨some d, .fieldAddr s x i, ty, pos, aft, none⟩) :: rest) a w := by
  obtain ⟨b, off, rfl, h2, h3⟩ := hc
  refine s_fieldAddr hE hx ho hn (fun a' hE' => k a' _ hE' ⟨b, off + o, rfl, h2, fun j x hx => ?_⟩ (fun y hy => hy))
  rw [List.getElem?_take] at hx
  split at hx
  · rw [List.getElem?_drop] at hx
    have := h3 _ x hx
    rwa [← Nat.add_assoc] at this
  · cases hx

/-! ## Two entries are turned by a call -/

theorem Mem.call2 {e f : Ent} {N : List Ent} (hM : Mem w0 M w (e :: f :: H)) (hN : Mem w (e.fp ++ f.fp) w' N) (hr : NoRo N) : Mem w0 M w' (N ++ H) :=
  Mem.call (es := [e, f]) hM hN (fun b hb => by
    rcases List.mem_append.1 hb with hb | hb
    · exact ⟨e, .head _, hb⟩
    · exact ⟨f, .tail _ (.head _), hb⟩) (fun g hg b hb => by
    have : ∀ {l : List Ent}, NoRo l → ∀ g, g ∈ l → g.ro = [] := by
      intro l
      induction l with
      | nil => intro _ g hg; cases hg
      | cons h t ih => intro hl g hg; rcases List.mem_cons.1 hg with rfl | hg; exact hl.1; exact ih hl.2 g hg
    rw [this hr g hg] at hb; cases hb)

theorem rd_whole {v : Value} {es m c : Nat} {cs : List Value} (hl : cs.length = m * es) (h : (rd v es (m - 0) (c - 0) ((cs.drop (0 * es)).take ((m - 0) * es))).holds w) : (rd v es m c cs).holds w := by
  rw [Nat.sub_zero, Nat.sub_zero, Nat.zero_mul, List.drop_zero, List.take_of_length_le (by omega)] at h; exact h

/-! ## Slices that are owned, or full -/

/-- Owned (b), or read alone and as long as they may be. -/
def hv (b : Bool) (v : Value) (es m : Nat) (cs : List Value) : Ent := cond b (own v es m cs) (rd v es m m cs)

theorem hv_rd {b : Bool} {es m : Nat} {cs : List Value} (h : (hv b v es m cs).holds w) : ∃ c, (rd v es m c cs).holds w := by
  cases b
  · exact ⟨m, h⟩
  · exact own_rd h

theorem full_rd {es m : Nat} {cs : List Value} {b : Nat} (h : (own (.slice (some ⟨b, 0, none⟩) m m) es m cs).holds w) : (rd (.slice (some ⟨b, 0, none⟩) m m) es m m cs).holds w := by
  have h0 := own_slice h
  obtain ⟨hl, h' | ⟨b', cap, cur, T, fr, e, h1, h2, h3, h4, h5, h6⟩⟩ := h
  · cases h'.1
  · simp only [Value.slice.injEq, Option.some.injEq, Addr.mk.injEq, and_true] at e
    obtain ⟨rfl, _, rfl⟩ := e
    refine ⟨hl, .inr ⟨_, 0, rfl, h1, (Array.getElem?_eq_some_iff.1 h3).1, fun i x hx => ?_⟩⟩
    rw [Nat.zero_add, cell_of_row w _ i cur T _ h3]
    rw [← h5, List.getElem?_take] at hx
    split at hx
    · simpa using hx
    · cases hx

/-- It is full, and read alone from now on. -/
theorem Mem.freezeF {b es m : Nat} {cs : List Value} (hM : Mem w0 M w (own (.slice (some ⟨b, 0, none⟩) m m) es m cs :: H)) : Mem w0 M w (rd (.slice (some ⟨b, 0, none⟩) m m) es m m cs :: H) := by
  have hc := full_rd (hM.get 0 rfl)
  refine Mem.act (es := [own _ es m cs]) (es' := [rd _ es m m cs]) hM rfl rfl rfl (Nat.le_refl _) (fun _ _ _ => rfl) ?_ ?_ ?_ ?_ (List.pairwise_singleton ..)
  · intro e he; rw [List.mem_singleton.1 he]; exact hc
  · intro e he b hb; rw [List.mem_singleton.1 he] at hb; cases hb
  · intro e he b hb
    rw [List.mem_singleton.1 he] at hb
    exact .inl ⟨_, List.mem_cons_self .., .inl (rdB_sub hb)⟩
  · intro e he b hb; rw [List.mem_singleton.1 he]; exact List.not_mem_nil

theorem Mem.hvFreeze {b : Bool} {es m : Nat} {cs : List Value} (hM : Mem w0 M w (hv b v es m cs :: H)) : ∃ c, Mem w0 M w (rd v es m c cs :: H) := by
  cases b
  · exact ⟨m, hM⟩
  · exact hM.freeze

theorem Mem.startBO {b T es m : Nat} {ss : List (List Value)} {ns : List Nat} {cs : List Value} (hB : (blk b ss ns T).holds w) (hr : (own v es m cs).holds w) (hne : b ∉ valBlocks v) : Mem w (b :: valBlocks v) w [blk b ss ns T, own v es m cs] :=
  Mem.start w (fun e he => by
    rcases List.mem_cons.1 he with rfl | he
    · exact hB
    · rw [List.mem_singleton.1 he]; exact hr) (fun e he b' hb => by
    rcases List.mem_cons.1 he with rfl | he
    · rw [show (blk b ss ns T).fp = [b] from rfl, List.mem_singleton] at hb; subst hb; exact .head _
    · rw [List.mem_singleton.1 he] at hb; exact .tail _ hb) (fun e he b' hb => by
    rcases List.mem_cons.1 he with rfl | he
    · cases hb
    · rw [List.mem_singleton.1 he] at hb; cases hb) (List.pairwise_pair.2 ⟨fun b' hb => by
      rw [show (blk b ss ns T).fp = [b] from rfl, List.mem_singleton] at hb; subst hb
      exact ⟨hne, List.not_mem_nil⟩, fun b' _ => List.not_mem_nil⟩)

theorem s_buildSliceF {t e es bytes len : Nat} {xs : List Operand} {vs : List Value} {ps : List (Nat × Operand)} (cs : List Value) (hE : Env a n L) (hM : Mem w0 M w H) (ht : SlT P t e es bytes) (hps : ps = enumO 0 xs) (hv : evL L xs = some vs)
    (hl : vs.length = len) (hz : ∀ v, v ∈ vs → v.cells.size = es) (hc : vs.flatMap (fun v => v.cells.toList) = cs) (hm : Nat.ble (len * es) 16777216 = true) (hn : Nat.blt d n = true) (hlm : Nat.ble len 16777216 = true)
    (k : ∀ a' b w', Env a' n ((d, .slice (some ⟨b, 0, none⟩) len len) :: L) → Mem w0 M w' (own (.slice (some ⟨b, 0, none⟩) len len) es len cs :: H) → wpL P ops D Q rest a' w') :
    wpL P ops D Q ((false, ⟨some d, .buildSlice t len ps.toArray, ty, pos, aft, none⟩) :: rest) a w := by
  subst hps
  have hm' : len * es ≤ 16777216 := Nat.le_of_ble_eq_true hm
  have hlm' : len ≤ 16777216 := Nat.le_of_ble_eq_true hlm
  have hcl : cs.length = len * es := by
    rw [← hc, ← hl]
    exact flat_len (f := fun v : Value => v.cells.toList) fun u hu => by simpa using hz u hu
  refine b_val hE hn (v := .slice (some ⟨w.heap.size, 0, none⟩) len len) (w' := w.alloc (.cells cs.toArray e)) ?_ (Sta.alloc D w _) (fun a' hE' => k a' _ _ hE' (hM.newSlice hcl (by rw [maxLen_eq]; omega)))
  have := run_buildSlice (P := P) ht hl hz hm' w
  rw [hc] at this
  simp only [execOp, Sem.run_bind]
  rw [show ((enumO 0 xs).toArray.map fun x => match x with | (i, x) => (i, a.eval x)) = (enumV 0 vs).toArray by
    rw [← hE.evals hv, ← enumO_map]; simp]
  rw [this]; rfl

/-! ## Cells -/

theorem cl_inj {a b : Cl} : cl a = cl b ↔ a = b := by
  constructor
  · intro h
    obtain ⟨c, l⟩ := a; obtain ⟨c', l'⟩ := b
    simp only [cl, List.cons.injEq, Value.int.injEq, true_and] at h
    obtain ⟨h1, h2⟩ := h
    rw [bv_inj h2, Int.ofNat.inj h1]
  · rintro rfl; rfl

def lst (hs : List Cl) : Cl := hs.getD (hs.length - 1) cl0
@[simp] theorem lst_snoc (hs : List Cl) (c : Cl) : lst (hs ++ [c]) = c := by simp [lst, List.getD]
theorem lst_mem {hs : List Cl} (h : 0 < hs.length) : lst hs ∈ hs := by
  have e : lst hs = hs[hs.length - 1] := by simp only [lst, List.getD]; rw [List.getElem?_eq_getElem (by omega)]; rfl
  rw [e]; exact List.getElem_mem _
theorem ok_snoc {hs : List Cl} {c : Cl} (h : ∀ x, x ∈ hs → OkCl x) (hc : OkCl c) : ∀ x, x ∈ hs ++ [c] → OkCl x := fun x hx => by
  rcases List.mem_append.1 hx with hx | hx
  · exact h x hx
  · rw [List.mem_singleton.1 hx]; exact hc

def mostC : Nat := 4611686018427387904
def advL (hs : List Cl) (lab : List UInt8) : List Cl := if (lst hs).1 < mostC then hs ++ [((lst hs).1 + 1, lab)] else hs
def advN (hs : List Cl) : Nat := if (lst hs).1 < mostC then (lst hs).1 + 1 else 0
def advE (hs : List Cl) : Nat := if (lst hs).1 < mostC then 0 else 15
def histL (c0 : Cl) (ts : List (List UInt8)) : List Cl := ts.foldl advL [c0]

structure OkH (c0 : Cl) (hs : List Cl) : Prop where
  ok : ∀ x, x ∈ hs → OkCl x
  pos : 0 < hs.length
  top : (lst hs).1 ≤ mostC
  first : hs.getD 0 cl0 = c0
  step : ∀ k, 1 ≤ k → k < hs.length → (hs.getD k cl0).1 = (hs.getD (k - 1) cl0).1 + 1

theorem getD_app {hs : List Cl} {c : Cl} {k : Nat} (h : k < hs.length) : (hs ++ [c]).getD k cl0 = hs.getD k cl0 := by
  simp [List.getD, List.getElem?_append_left h]
theorem getD_last {hs : List Cl} {c : Cl} : (hs ++ [c]).getD hs.length cl0 = c := by simp [List.getD]

theorem OkH.one {c0 : Cl} (h : OkCl c0) (hm : c0.1 ≤ mostC) : OkH c0 [c0] :=
  ⟨fun x hx => by rw [List.mem_singleton.1 hx]; exact h, by simp, hm, rfl, fun k h1 h2 => by simp at h2; omega⟩

theorem OkH.adv {c0 : Cl} {hs : List Cl} {lab : List UInt8} (h : OkH c0 hs) (hl : lab.length = 32) : OkH c0 (advL hs lab) := by
  unfold advL
  split
  · rename_i hlt
    refine ⟨ok_snoc h.ok ⟨hl, ?_⟩, by simp, by rw [lst_snoc]; show (lst hs).1 + 1 ≤ _; omega, by rw [getD_app h.pos]; exact h.first, fun k h1 h2 => ?_⟩
    · show (lst hs).1 + 1 < 2 ^ 64
      have e : mostC = 4611686018427387904 := rfl
      omega
    · rw [List.length_append, List.length_singleton] at h2
      rcases Nat.lt_or_ge k hs.length with hk | hk
      · rw [getD_app hk, getD_app (by omega)]; exact h.step k h1 hk
      · obtain rfl : k = hs.length := by omega
        rw [getD_last, getD_app (by omega)]; rfl
  · exact h

theorem advL_len (hs : List Cl) (lab : List UInt8) : (advL hs lab).length ≤ hs.length + 1 ∧ hs.length ≤ (advL hs lab).length := by
  unfold advL; split <;> simp

theorem OkH.hist {c0 : Cl} (h : OkCl c0) (hm : c0.1 ≤ mostC) : ∀ (n : Nat) (ts : List (List UInt8)), (∀ t, t ∈ ts → t.length = 32) → OkH c0 (histL c0 (ts.take n)) ∧ (histL c0 (ts.take n)).length ≤ n + 1
  | 0, ts, _ => ⟨.one h hm, by simp [histL]⟩
  | n + 1, ts, ht => by
    obtain ⟨h1, h2⟩ := OkH.hist h hm n ts ht
    rcases Nat.lt_or_ge n ts.length with hn | hn
    · have e : ts.take (n + 1) = ts.take n ++ [ts[n]] := (List.take_append_getElem hn).symm
      rw [e, histL, List.foldl_append]
      exact ⟨OkH.adv h1 (ht _ (List.getElem_mem _)), by have := (advL_len (histL c0 (ts.take n)) ts[n]).1; simp only [histL] at this h2; simp only [List.foldl_cons, List.foldl_nil]; omega⟩
    · rw [List.take_of_length_le (by omega)] at h1 h2 ⊢
      exact ⟨h1, by omega⟩

theorem hist_succ {c0 : Cl} {ts : List (List UInt8)} {i : Nat} (h : i < ts.length) : advL (histL c0 (ts.take i)) (ts.getD i []) = histL c0 (ts.take (i + 1)) := by
  have e : ts.take (i + 1) = ts.take i ++ [ts.getD i []] := by
    have : ts.getD i [] = ts[i] := by simp [List.getD, h]
    rw [this]; exact (List.take_append_getElem h).symm
  rw [e, histL, histL, List.foldl_append]; rfl

theorem advE_true {hs : List Cl} (h : decide ((advE hs : Int) = 0) = true) : (lst hs).1 < mostC := by
  have := of_decide_eq_true h
  unfold advE at this
  split at this
  · assumption
  · omega
theorem advE_false {hs : List Cl} (h : decide ((advE hs : Int) = 0) = false) : ¬ (lst hs).1 < mostC := fun hlt => by
  have := of_decide_eq_false h
  exact this (by simp [advE, hlt])
theorem advN_lt {hs : List Cl} (h : (lst hs).1 < mostC) : advN hs = (lst hs).1 + 1 := by simp [advN, h]
theorem advN_ge {hs : List Cl} (h : ¬ (lst hs).1 < mostC) : advN hs = 0 := by simp [advN, h]
theorem advE_ge {hs : List Cl} (h : ¬ (lst hs).1 < mostC) : advE hs = 15 := by simp [advE, h]
theorem advL_ge {hs : List Cl} {lab : List UInt8} (h : ¬ (lst hs).1 < mostC) : advL hs lab = hs := by simp [advL, h]
theorem lst_lt {hs : List Cl} {lab : List UInt8} (h : (lst hs).1 < mostC) : lst (advL hs lab) = ((lst hs).1 + 1, lab) := by simp [advL, h]
theorem len_lt {hs : List Cl} {lab : List UInt8} (h : (lst hs).1 < mostC) : (advL hs lab).length = hs.length + 1 := by simp [advL, h]
theorem OkH.get {c0 : Cl} {hs : List Cl} (k : OkH c0 hs) {i : Nat} (h : i < hs.length) : OkCl (hs.getD i cl0) := by
  have e : hs.getD i cl0 = hs[i] := by simp [List.getD, h]
  rw [e]; exact k.ok _ (List.getElem_mem _)
theorem OkH.last {c0 : Cl} {hs : List Cl} (k : OkH c0 hs) : OkCl (lst hs) := k.ok _ (lst_mem k.pos)
theorem ts_get {ts : List (List UInt8)} {i n : Nat} (h : ∀ t, t ∈ ts → t.length = n) (hi : i < ts.length) : (ts.getD i []).length = n := by
  have e : ts.getD i [] = ts[i] := by simp [List.getD, hi]
  rw [e]; exact h _ (List.getElem_mem _)

/-- A field of an element of an owned slice: still an element's place. -/
theorem s_fieldElem {s i o k es m : Nat} {v : Value} {cs : List Value} (hE : Env a n L) (hx : ev L x = some (elemP v k)) (hr : (own v es m cs).holds w) (hm : 0 < m) (ho : fieldOff P s i = some o) (hn : Nat.blt d n = true)
    (kk : ∀ a', Env a' n ((d, elemP v (k + o)) :: L) → wpL P ops D Q rest a' w) : wpL P ops D Q ((true, ⟨some d, .fieldAddr s x i, ty, pos, aft, none⟩) :: rest) a w := by
  obtain ⟨h0, ⟨rfl, rfl⟩ | ⟨b, cap, cur, T, fr, rfl, h1, h3⟩⟩ := hr
  · omega
  · have e : ∀ k, elemP (.slice (some ⟨b, 0, none⟩) m cap) k = .pointer (some ⟨b, k, none⟩) := fun k => by simp [elemP, Addr.add_mid]
    rw [e] at hx
    refine s_fieldAddr hE hx ho hn (fun a' hE' => kk a' ?_)
    rw [e]; exact hE'

theorem Mem.call2R {e f g h : Ent} (hM : Mem w0 M w (e :: f :: H)) (hN : Mem w (e.fp ++ f.fp) w' [g, h]) (hg : g.ro = []) (hh : ∀ x, x ∈ h.ro → x ∈ f.ro) : Mem w0 M w' (g :: h :: H) :=
  Mem.call (es := [e, f]) (N := [g, h]) hM hN (fun b hb => by
    rcases List.mem_append.1 hb with hb | hb
    · exact ⟨e, .head _, hb⟩
    · exact ⟨f, .tail _ (.head _), hb⟩) (fun k hk b hb => by
    rcases List.mem_cons.1 hk with rfl | hk
    · rw [hg] at hb; cases hb
    · rw [List.mem_singleton.1 hk] at hb; exact .inl ⟨f, .tail _ (.head _), .inr (hh b hb)⟩)

theorem advL_get {hs : List Cl} {lab : List UInt8} {i : Nat} (h : i < hs.length) : (advL hs lab).getD i cl0 = hs.getD i cl0 := by
  unfold advL
  split
  · exact getD_app h
  · rfl

theorem OkH.fold {c0 : Cl} {hs : List Cl} (k : OkH c0 hs) : ∀ (n : Nat) (ts : List (List UInt8)), (∀ t, t ∈ ts → t.length = 32) →
    OkH c0 ((ts.take n).foldl advL hs) ∧ ((ts.take n).foldl advL hs).length ≤ hs.length + n ∧ hs.length ≤ ((ts.take n).foldl advL hs).length ∧ ∀ i, i < hs.length → ((ts.take n).foldl advL hs).getD i cl0 = hs.getD i cl0
  | 0, ts, _ => ⟨k, by simp, by simp, fun _ _ => rfl⟩
  | n + 1, ts, ht => by
    obtain ⟨h1, h2, h3, h4⟩ := k.fold n ts ht
    rcases Nat.lt_or_ge n ts.length with hn | hn
    · have e : ts.take (n + 1) = ts.take n ++ [ts[n]] := (List.take_append_getElem hn).symm
      rw [e, List.foldl_append, List.foldl_cons, List.foldl_nil]
      have hl := advL_len ((ts.take n).foldl advL hs) ts[n]
      refine ⟨h1.adv (ht _ (List.getElem_mem _)), by omega, by omega, fun i hi => ?_⟩
      rw [← h4 i hi, advL_get (by omega)]
    · rw [List.take_of_length_le (by omega)] at h1 h2 h3 h4 ⊢
      exact ⟨h1, by omega, h3, h4⟩

theorem fold_succ {hs : List Cl} {ts : List (List UInt8)} {i : Nat} (h : i < ts.length) : advL ((ts.take i).foldl advL hs) (ts.getD i []) = (ts.take (i + 1)).foldl advL hs := by
  have e : ts.take (i + 1) = ts.take i ++ [ts.getD i []] := by
    have : ts.getD i [] = ts[i] := by simp [List.getD, h]
    rw [this]; exact (List.take_append_getElem h).symm
  rw [e, List.foldl_append]; rfl

/-- What is done to a cell: a number, and a label. -/
def act (x : Int × List UInt8) : List Value := .int .i64 x.1 :: bv x.2
theorem act_lab {x : Int × List UInt8} (h : x.2.length = 32) : ((act x).drop 1).take 32 = bv x.2 := by
  simp only [act, List.drop_succ_cons, List.drop_zero]
  exact List.take_of_length_le (by simp [h])
theorem act_what {x : Int × List UInt8} : ((act x).drop 0).take 1 = [.int .i64 x.1] := rfl
theorem acts_get {ls : List (Int × List UInt8)} {i : Nat} (h : ∀ t, t ∈ ls → t.2.length = 32) (hi : i < ls.length) : (ls.getD i (0, [])).2.length = 32 := by
  have e : ls.getD i (0, []) = ls[i] := by simp [List.getD, hi]
  rw [e]; exact h _ (List.getElem_mem _)

theorem cell_of {z : Value} {b : List UInt8} {cs : List Value} (hl : cs.length = 33) (h0 : (cs.drop 0).take 1 = [z]) (h1 : (cs.drop 1).take 32 = bv b) : cs = z :: bv b := by
  match cs, hl with
  | u :: r, hl =>
    simp only [List.length_cons, Nat.add_right_cancel_iff] at hl
    simp only [List.drop_zero, List.take_succ_cons, List.take_zero, List.cons.injEq, and_true] at h0
    simp only [List.drop_succ_cons, List.drop_zero] at h1
    rw [List.take_of_length_le (by omega)] at h1
    rw [h0, h1]

theorem dec_labelled {t t0 t1 e : Nat} {k : IntKind} {fs : Array Field} (hu : P.underlying t = some (.struct fs)) (hs : P.cellsOf t = 33) (hl : fs.toList.map (fun f => (f.type, f.offset, P.cellsOf f.type)) = [(t0, 0, 1), (t1, 1, 32)])
    (h0 : P.underlying t0 = some (.int k)) (h1 : P.underlying t1 = some (.array 32 e)) (he : P.underlying e = some (.int .u8)) (hes : P.cellsOf e = 1) (hts : P.cellsOf t1 = 32) : Dec P W t (fun cs => ∃ x : Int × List UInt8, cs = .int k x.1 :: bv x.2 ∧ k.min ≤ x.1 ∧ x.1 ≤ k.max ∧ x.2.length = 32) :=
  (dec_structL [(t0, 0, 1, fun cs => ∃ i, cs = [.int k i] ∧ k.min ≤ i ∧ i ≤ k.max), (t1, 1, 32, fun cs => ∃ bs : List UInt8, cs = bv bs ∧ bs.length = 32)] hu hs hl (by
    intro p hp
    simp only [List.mem_cons, List.not_mem_nil, or_false] at hp
    rcases hp with rfl | rfl
    · exact dec_int h0
    · exact dec_arr8 h1 he hes hts)).mono fun cs h => by
    obtain ⟨i, hi, hi1, hi2⟩ := h.2 _ (.head _)
    obtain ⟨b, hb, hb1⟩ := h.2 _ (.tail _ (.head _))
    exact ⟨(i, b), cell_of h.1 hi hb, hi1, hi2, hb1⟩

open Go.ChangeShapes Go.WideShapes Go.ChangeAt Go.RowKit in
/-- A cell that comes in. -/
theorem arg_cell {t t0 t1 e base : Nat} {fs : Array Field} {v : Value} {d : DataW K} {qs : List MemPlace} (hu : P.underlying t = some (.struct fs)) (hs : P.cellsOf t = 33) (hl : fs.toList.map (fun f => (f.type, f.offset, P.cellsOf f.type)) = [(t0, 0, 1), (t1, 1, 32)])
    (h0 : P.underlying t0 = some (.int .u64)) (h1 : P.underlying t1 = some (.array 32 e)) (he : P.underlying e = some (.int .u8)) (hes : P.cellsOf e = 1) (hts : P.cellsOf t1 = 32)
    (hval : Value.okWide P W .any base t v) (h : DataW.Trod enc P W 0 (fun _ => true) true t v d qs) (hw : ∀ m, m ∈ d.weights P t → m ≤ reachBytes) : ∃ c : Cl, v = .agg (cl c).toArray ∧ OkCl c := by
  obtain ⟨cs, rfl, _⟩ := okWide_struct hu hval
  obtain ⟨x, hx, hx1, hx2, hx3⟩ := trod_of (dec_labelled hu hs hl h0 h1 he hes hts) h hw
  obtain ⟨m, hm⟩ := Int.eq_ofNat_of_zero_le (show 0 ≤ x.1 from hx1)
  refine ⟨(m, x.2), ?_, hx3, ?_⟩
  · rw [agg_of hx, cl, ← hm]
  · have : (m : Int) ≤ 18446744073709551615 := hm ▸ hx2
    show m < 2 ^ 64
    omega

theorem dec_act {t t0 t1 e : Nat} {fs : Array Field} (hu : P.underlying t = some (.struct fs)) (hs : P.cellsOf t = 33) (hl : fs.toList.map (fun f => (f.type, f.offset, P.cellsOf f.type)) = [(t0, 0, 1), (t1, 1, 32)])
    (h0 : P.underlying t0 = some (.int .i64)) (h1 : P.underlying t1 = some (.array 32 e)) (he : P.underlying e = some (.int .u8)) (hes : P.cellsOf e = 1) (hts : P.cellsOf t1 = 32) : Dec P W t (fun cs => ∃ x : Int × List UInt8, cs = act x ∧ x.2.length = 32) :=
  (dec_labelled hu hs hl h0 h1 he hes hts).mono fun cs ⟨x, hx, _, _, h3⟩ => ⟨x, hx, h3⟩

end Go.Kx
