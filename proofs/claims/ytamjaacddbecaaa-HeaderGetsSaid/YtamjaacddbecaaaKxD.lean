/- Own library, part D: cells, runs of loads, stores, appends and copies, said of entries. -/
import Derived.Test.YtamjaacddbecaaaKxC
import Derived.Deep.AppendSrc
set_option linter.unusedSimpArgs false
set_option linter.unusedVariables false
namespace Go.Kx
open Go
variable {P : Program} {w0 w w' : World} {M : List Nat} {H : List Ent}

/-- Cells that lie at an address. -/
def cellsAt (p : Value) (cs : List Value) : Ent where
  fp := []
  ro := valBlocks p
  holds w := ∃ b o, p = .pointer (some ⟨b, o, none⟩) ∧ b < w.heap.size ∧ ∀ (i : Nat) (x : Value), cs[i]? = some x → w.cell? ⟨b, o + i, none⟩ = some x
  loc w w' h hb := by
    obtain ⟨b, o, rfl, h2, h3⟩ := h
    have hb' : w'.heap[b]? = w.heap[b]? := hb b (.inr (by simp [valBlocks]))
    refine ⟨b, o, rfl, ?_, fun i x hx => ?_⟩
    · rw [Array.getElem?_eq_getElem h2] at hb'
      exact (Array.getElem?_eq_some_iff.1 hb').1
    · rw [World.cell?_of_block (w := w) hb']; exact h3 i x hx
  old w h b hb := by
    obtain ⟨b', o, rfl, h2, h3⟩ := h
    simp [valBlocks] at hb; subst hb; exact h2

/-- Every value of the list is one cell. -/
def One (cs : List Value) : Prop := ∀ v, v ∈ cs → v.oneCell' = true

theorem One.append {a b : List Value} (ha : One a) (hb : One b) : One (a ++ b) := fun v hv => by
  rcases List.mem_append.1 hv with h | h
  · exact ha v h
  · exact hb v h

theorem One.take {a : List Value} (ha : One a) (n : Nat) : One (a.take n) := fun v hv => ha v (List.mem_of_mem_take hv)
theorem One.drop {a : List Value} (ha : One a) (n : Nat) : One (a.drop n) := fun v hv => ha v (List.mem_of_mem_drop hv)

theorem run_sizeOf {t : TypeId} {s : Nat} (h : (P.info? t).map (·.size) = some s) (w : World) : (sizeOf t).run P w = .ok s w := by
  cases hi : P.info? t with
  | none => simp [hi] at h
  | some i => simp [hi] at h; simp [sizeOf, typeInfo, hi, h]

theorem run_isAgg {t : TypeId} {d : TypeDesc} (h : P.underlying t = some d) (w : World) : (isAgg t).run P w = .ok (TypeDesc.isRow d) w := by
  unfold isAgg
  rw [Sem.run_bind, run_underlying h]
  cases d <;> rfl

/-- A type whose variables are rows of s cells. -/
structure RowT (P : Program) (t : TypeId) (s : Nat) : Prop where
  row : ∃ d, P.underlying t = some d ∧ TypeDesc.isRow d = true
  size : (P.info? t).map (·.size) = some s

/-- A type whose variables are one cell. -/
structure OneT (P : Program) (t : TypeId) : Prop where
  row : ∃ d, P.underlying t = some d ∧ TypeDesc.isRow d = false
  size : (P.info? t).map (·.size) = some 1

theorem RowT.of {t s : Nat} {d : TypeDesc} (h : P.underlying t = some d) (hd : TypeDesc.isRow d = true) (hs : (P.info? t).map (·.size) = some s) : RowT P t s := ⟨⟨d, h, hd⟩, hs⟩
theorem OneT.of {t : Nat} {d : TypeDesc} (h : P.underlying t = some d) (hd : TypeDesc.isRow d = false) (hs : (P.info? t).map (·.size) = some 1) : OneT P t := ⟨⟨d, h, hd⟩, hs⟩

theorem run_loadVar_row' {t : TypeId} {b o : Nat} {cs : List Value} (ht : RowT P t cs.length) (hc : ∀ (i : Nat) (x : Value), cs[i]? = some x → w.cell? ⟨b, o + i, none⟩ = some x) :
    (loadVar t ⟨b, o, none⟩).run P w = .ok (.agg cs.toArray) w := by
  obtain ⟨⟨d, hd, hr⟩, hs⟩ := ht
  have hl : (loadCells ⟨b, o, none⟩ cs.length).run P w = .ok cs.toArray w :=
    run_loadCells_list (P := P) w ⟨b, o, none⟩ cs (fun j v hv => by rw [Addr.add_mid]; exact hc j v hv)
  simp only [loadVar, Sem.run_bind, run_isAgg hd, hr, Result.andThen_ok, if_true, run_sizeOf hs, hl, Sem.run_pure]

theorem run_loadVar_one {t : TypeId} {b o : Nat} {x : Value} (ht : OneT P t) (hc : w.cell? ⟨b, o, none⟩ = some x) :
    (loadVar t ⟨b, o, none⟩).run P w = .ok x w := by
  obtain ⟨⟨d, hd, hr⟩, hs⟩ := ht
  simp [loadVar, Sem.run_bind, run_isAgg hd, hr, run_load, hc]

/-! ## Stores -/

def setBlk (w : World) (b : Nat) (o : Obj) : World := { w with heap := w.heap.setIfInBounds b o }

theorem setBlk_same {b : Nat} {o : Obj} (h : b < w.heap.size) : (setBlk w b o).heap[b]? = some o := by simp [setBlk, h]
theorem setBlk_other {b b' : Nat} {o : Obj} (h : b' ≠ b) : (setBlk w b o).heap[b']? = w.heap[b']? := by
  simp only [setBlk]; rw [Array.getElem?_setIfInBounds_ne (Ne.symm h)]
@[simp] theorem setBlk_size {b : Nat} {o : Obj} : (setBlk w b o).heap.size = w.heap.size := by simp [setBlk]
theorem setBlk_setBlk {b : Nat} {o o' : Obj} : setBlk (setBlk w b o) b o' = setBlk w b o' := by simp [setBlk]

theorem setCell_blk {b i : Nat} {cur : Array Value} {T : TypeId} {fr : Nat × Nat} (h : w.heap[b]? = some (.cells cur T fr)) (v : Value) :
    w.setCell ⟨b, i, none⟩ v = setBlk w b (.cells (cur.setIfInBounds i v) T fr) := by
  obtain ⟨hb, he⟩ := Array.getElem?_eq_some_iff.1 h
  simp only [World.setCell, setBlk]
  congr 1
  apply Array.ext_getElem?
  intro k
  rw [Array.getElem?_modify, Array.getElem?_setIfInBounds]
  by_cases hk : b = k
  · subst hk
    simp [hb, he]
  · simp [hk]

theorem frozen_Fz {b i : Nat} {cur : Array Value} {T : TypeId} {fr : Nat × Nat} {n : Nat} (h : w.heap[b]? = some (.cells cur T fr)) (hf : Fz fr n) (hi : i < n) : w.frozen? ⟨b, i, none⟩ = false := by
  obtain ⟨lo, hi'⟩ := fr
  simp only [World.frozen?, h]
  rcases hf with hf | hf
  · simp only at hf
    by_cases h1 : lo ≤ i
    · simp; omega
    · simp [h1]
  · simp only at hf
    simp; omega

theorem run_storeCells {b o : Nat} {T : TypeId} {fr : Nat × Nat} : ∀ (vs : List Value) (i : Nat) (cur : Array Value) (w : World), w.heap[b]? = some (.cells cur T fr) → Fz fr cur.size → o + i + vs.length ≤ cur.size → One vs →
    (storeCells ⟨b, o, none⟩ vs i).run P w = .ok () (setBlk w b (.cells (cur.toList.take (o + i) ++ vs ++ cur.toList.drop (o + i + vs.length)).toArray T fr))
  | [], i, cur, w, h, hf, hl, h1 => by
    simp only [storeCells, Sem.run_pure, List.append_nil, List.length_nil, Nat.add_zero, List.take_append_drop, Array.toArray_toList]
    congr 1
    obtain ⟨hb, he⟩ := Array.getElem?_eq_some_iff.1 h
    unfold setBlk
    cases w with
    | mk heap tape drawn os output =>
      congr 1
      apply Array.ext_getElem?
      intro k
      rw [Array.getElem?_setIfInBounds]
      by_cases hk : b = k
      · subst hk; simp only [if_true]; rw [h]; simp [hb]
      · simp [hk]
  | v :: vs, i, cur, w, h, hf, hl, h1 => by
    have hlen : o + i < cur.size := by simp at hl; omega
    have hcell : w.cell? ⟨b, o + i, none⟩ = some cur[o + i] := by rw [cell_of_row w b (o + i) cur T fr h]; simp [hlen]
    have hfz := frozen_Fz h hf hlen
    have hv : v.oneCell' = true := h1 v (List.mem_cons_self ..)
    have hset : (setBlk w b (.cells (cur.setIfInBounds (o + i) v) T fr)).heap[b]? = some (.cells (cur.setIfInBounds (o + i) v) T fr) := setBlk_same (Array.getElem?_eq_some_iff.1 h).1
    have ih := run_storeCells (o := o) vs (i + 1) (cur.setIfInBounds (o + i) v) _ hset (by simpa using hf) (by simp at hl ⊢; omega) (fun x hx => h1 x (List.mem_cons_of_mem _ hx))
    simp only [storeCells, Sem.run_bind, Addr.add_mid, run_store P w _ v _ hv, hcell, hfz, Bool.false_eq_true, if_false, Result.andThen_ok, setCell_blk h, ih, setBlk_setBlk]
    congr 3
    have e1 : (cur.setIfInBounds (o + i) v).toList = cur.toList.set (o + i) v := by simp
    rw [e1]
    congr 1
    have e2 : List.take (o + (i + 1)) (cur.toList.set (o + i) v) = List.take (o + i) cur.toList ++ [v] := by
      rw [show o + (i + 1) = (o + i) + 1 by omega, List.take_succ_eq_append_getElem (by simpa using hlen)]
      rw [List.take_set_of_le (Nat.le_refl _)]
      simp
    have e3 : List.drop (o + (i + 1) + vs.length) (cur.toList.set (o + i) v) = List.drop (o + i + (v :: vs).length) cur.toList := by
      rw [List.drop_set_of_lt (by omega)]
      congr 1
      simp
      omega
    rw [e2, e3]
    simp

theorem run_storeVar_blk {t : TypeId} {b o s : Nat} {cur : Array Value} {T : TypeId} {fr : Nat × Nat} {v : Value} {vs : List Value} (hs : (P.info? t).map (·.size) = some s) (hv : v.cells = vs.toArray) (hl : vs.length = s)
    (h1 : One vs) (h : w.heap[b]? = some (.cells cur T fr)) (hf : Fz fr cur.size) (hfit : o + s ≤ cur.size) :
    (storeVar t ⟨b, o, none⟩ v).run P w = .ok () (setBlk w b (.cells (cur.toList.take o ++ vs ++ cur.toList.drop (o + s)).toArray T fr)) := by
  have hst := run_storeCells (P := P) (o := o) vs 0 cur w h hf (by omega) h1
  simp only [Nat.add_zero] at hst
  subst hl
  simp [storeVar, Sem.run_bind, run_sizeOf hs, hv, hst]


/-! ## Reading a slice -/

theorem lenOf_rd {v : Value} {es n c : Nat} {cs : List Value} (h : (rd v es n c cs).holds w) : (Builtin.lenOf v).run P w = .ok n w := by
  rcases h.2 with ⟨p, rfl, rfl, _⟩ | ⟨b, o, rfl, _⟩ <;> rfl

theorem firstCells_rd {v : Value} {es n c m : Nat} {cs : List Value} (h : (rd v es n c cs).holds w) (hm : m ≤ n) : (Builtin.firstCells es m v).run P w = .ok (cs.take (m * es)).toArray w := by
  obtain ⟨hl, ⟨p, rfl, rfl, _⟩ | ⟨b, o, rfl, h1, h2, h3⟩⟩ := h
  · have : m = 0 := by omega
    subst this
    cases p <;> simp [Builtin.firstCells, loadCells, loadCellsFrom]
  · have hle : m * es ≤ cs.length := by rw [hl]; exact Nat.mul_le_mul_right _ hm
    have hlen : (cs.take (m * es)).length = m * es := by simp [hle]
    have := run_loadCells_list (P := P) w ⟨b, o, none⟩ (cs.take (m * es)) (fun j x hx => by
      rw [Addr.add_mid]
      rw [List.getElem?_take] at hx
      split at hx
      · exact h3 j x hx
      · cases hx)
    rw [hlen] at this
    exact this

theorem firstCells_rd_all {v : Value} {es n c : Nat} {cs : List Value} (h : (rd v es n c cs).holds w) : (Builtin.firstCells es n v).run P w = .ok cs.toArray w := by
  have := firstCells_rd (P := P) h (Nat.le_refl n)
  rwa [List.take_of_length_le (by rw [h.1]; exact Nat.le_refl _)] at this

theorem alloc_old (w : World) (o : Obj) (b : Nat) (h : b < w.heap.size) : (w.alloc o).heap[b]? = w.heap[b]? := by
  show (w.heap.push o)[b]? = w.heap[b]?
  rw [Array.getElem?_push, if_neg (Nat.ne_of_lt h)]

/-! ## append -/

/-- A slice type, what it is of, how many cells and bytes an element has, and its zero. -/
structure SlT (P : Program) (t e es bytes : Nat) : Prop where
  und : P.underlying t = some (.slice e)
  size : (P.info? e).map (·.size) = some es
  bytes : (P.info? e).map (·.bytes) = some bytes
  zero : ∃ z, (P.info? e).bind (·.zero) = some z ∧ z.cells.size = es

theorem maxLen_eq : maxLen = 9223372036854775807 := rfl

structure Appended (w w' : World) (v v' : Value) (es n : Nat) (cs : List Value) : Prop where
  os : w'.os = w.os
  tape : w'.tape = w.tape
  output : w'.output = w.output
  size : w.heap.size ≤ w'.heap.size
  frame : ∀ b, b < w.heap.size → b ∉ valBlocks v → w'.heap[b]? = w.heap[b]?
  own : (own v' es n cs).holds w'
  new : ∀ b, b ∈ valBlocks v' → b ∈ valBlocks v ∨ w.heap.size ≤ b

theorem run_append {t xt e es bytes ty : Nat} (ht : SlT P t e es bytes) {v x : Value} {n m : Nat} {cs news : List Value} (hown : (own v es n cs).holds w)
    (hsrc : Src P es xt x m news w) (h63 : n + m ≤ maxLen) (hby : (n + m) * bytes ≤ 140737488355328) :
    ∃ v' w', (Builtin.append_ #[t, xt] ty #[v, x]).run P w = .ok v' w' ∧ Appended w w' v v' es (n + m) (cs ++ news) := by
  obtain ⟨hu, hs, hb, z, hz, hzs⟩ := ht
  obtain ⟨ie, hie⟩ : ∃ ie, P.info? e = some ie := by cases h : P.info? e with | none => simp [h] at hs | some i => exact ⟨i, rfl⟩
  simp only [hie, Option.map_some, Option.some.injEq, Option.bind_some] at hs hb hz
  subst hs; subst hb
  have hnl := hsrc.newsLen
  have hlen2 : (cs ++ news).length = (n + m) * ie.size := by rw [List.length_append, hown.1, hnl, Nat.add_mul]
  have grow : ∀ (base : Option Addr) (cap : Nat), v = .slice base n cap → cap < n + m → (Builtin.firstCells ie.size n v).run P w.drew = .ok cs.toArray w.drew →
      ∃ v' w', (Builtin.append_ #[t, xt] ty #[v, x]).run P w = .ok v' w' ∧ Appended w w' v v' ie.size (n + m) (cs ++ news) := by
    intro base cap hv hcap hold
    have hge := grownCap_ge w (n + m) cap e
    have hle := grownCap_le_maxLen w (n + m) cap e h63
    subst hv
    refine ⟨_, _, run_append_grow_src w t xt ty e ie z hu hie hz base n cap cs hold x m news hsrc hcap (by rw [maxLen_eq] at h63; omega) (growslice_fits hcap hby), ?_⟩
    refine ⟨rfl, rfl, rfl, by simp, fun b hb' _ => alloc_old w.drew _ b hb', ⟨hlen2, .inr ⟨w.heap.size, _, _, e, (0, 0), rfl, hge, hle, heap_alloc_new w.drew _, ?_, ?_, Fz.zero _⟩⟩, fun b hb' => ?_⟩
    · simp only [Array.size_append, List.size_toArray, size_zeroCells, hzs, hlen2, ← Nat.add_mul]
      congr 1; omega
    · simp only [Array.toList_append]
      rw [← hlen2]
      exact List.take_left
    · simp [valBlocks] at hb'; right; omega
  rcases hown.2 with ⟨rfl, rfl⟩ | ⟨b, cap, cur, T, fr, rfl, h1, h2, h3, h4, h5, h6⟩
  · have hcs : cs = [] := List.eq_nil_of_length_eq_zero (by simpa using hown.1)
    subst hcs
    by_cases hm : m = 0
    · subst hm
      have hn0 : news = [] := List.eq_nil_of_length_eq_zero (by simpa using hnl)
      subst hn0
      refine ⟨.slice none 0 0, w, ?_, rfl, rfl, rfl, Nat.le_refl _, fun _ _ _ => rfl, hown, fun b hb => .inl hb⟩
      rcases hsrc.kind with ⟨e', hk⟩ | hk <;> simp [Builtin.append_, run_underlying hu, run_underlying hk, sizeOf, typeInfo, hie, hsrc.len, hsrc.cells]
    · exact grow none 0 rfl (by omega) (by simp [Builtin.firstCells])
  · by_cases hroom : n + m ≤ cap
    · have hfit : n * ie.size + 0 + news.length ≤ cur.size := by
        rw [hnl, h4, Nat.add_zero, ← Nat.add_mul]; exact Nat.mul_le_mul_right _ hroom
      have hst := run_storeCells (P := P) (o := n * ie.size) news 0 cur w h3 h6 hfit hsrc.one
      simp only [Nat.add_zero] at hst hfit
      have hb := (Array.getElem?_eq_some_iff.1 h3).1
      have hcl : (List.take (n * ie.size) cur.toList).length = n * ie.size := by rw [h5]; exact hown.1
      refine ⟨.slice (some ⟨b, 0, none⟩) (n + m) cap, setBlk w b (.cells (List.take (n * ie.size) cur.toList ++ news ++ List.drop (n * ie.size + news.length) cur.toList).toArray T fr), ?_, rfl, rfl, rfl, by simp, fun b' hb' hne => ?_, ⟨hlen2, .inr ⟨b, cap, _, T, fr, rfl, hroom, h2, setBlk_same hb, ?_, ?_, ?_⟩⟩, fun b' hb' => .inl hb'⟩
      · rcases hsrc.kind with ⟨e', hk⟩ | hk <;> simp [Builtin.append_, run_underlying hu, run_underlying hk, sizeOf, typeInfo, hie, hsrc.len, hroom, hsrc.cells, Addr.add_mid, hst]
      · exact setBlk_other (fun e => hne (by simp [valBlocks, e]))
      · simp only [List.size_toArray, List.length_append, List.length_take, List.length_drop, Array.length_toList]
        omega
      · rw [h5]
        rw [← hlen2]
        exact List.take_left
      · have : (List.take (n * ie.size) cur.toList ++ news ++ List.drop (n * ie.size + news.length) cur.toList).toArray.size = cur.size := by
          simp only [List.size_toArray, List.length_append, List.length_take, List.length_drop, Array.length_toList]; omega
        rw [this]; exact h6
    · refine grow _ cap rfl (by omega) ?_
      obtain ⟨c, hrd⟩ := own_rd hown
      have hrd' : (rd (.slice (some ⟨b, 0, none⟩) n cap) ie.size n c cs).holds w.drew := hrd
      exact firstCells_rd_all hrd'

/-- append, in memory: the old slice is let go, the new one is owned. -/
theorem Mem.append {v v' : Value} {es n n' : Nat} {cs cs' : List Value} (hM : Mem w0 M w (own v es n cs :: H)) (h : Appended w w' v v' es n' cs') : Mem w0 M w' (own v' es n' cs' :: H) :=
  Mem.act (es := [own v es n cs]) (es' := [own v' es n' cs']) hM h.os h.tape h.output h.size
    (fun b hb hne => h.frame b hb (hne _ (List.mem_cons_self ..)))
    (fun e he => by rw [List.mem_singleton.1 he]; exact h.own)
    (fun e he b hb => by
      rw [List.mem_singleton.1 he] at hb
      exact (h.new b hb).imp (fun h => ⟨_, List.mem_cons_self .., h⟩) id)
    (fun e he b hb => by rw [List.mem_singleton.1 he] at hb; cases hb)
    (fun e he b hb => by rw [List.mem_singleton.1 he] at hb; cases hb)
    (List.pairwise_singleton ..)

theorem Src.rd {v : Value} {es n c xt e : Nat} {cs : List Value} (hx : P.underlying xt = some (.slice e)) (h : (rd v es n c cs).holds w) (h1 : One cs) : Src P es xt v n cs w where
  kind := .inl ⟨_, hx⟩
  len w' := by rcases h.2 with ⟨p, rfl, rfl, _⟩ | ⟨b, o, rfl, _⟩ <;> rfl
  cells := firstCells_rd_all h
  cellsD := firstCells_rd_all (w := w.drew) h
  newsLen := h.1
  one := h1

/-- A slice that has no room: append makes a new one. -/
theorem own_of_new (w : World) (cs : List Value) (es n cap : Nat) (T : TypeId) (cur : Array Value) (hl : cs.length = n * es) (h1 : n ≤ cap) (h2 : cap ≤ maxLen) (h3 : cur.size = cap * es) (h4 : cur.toList.take (n * es) = cs) :
    (own (.slice (some ⟨w.heap.size, 0, none⟩) n cap) es n cs).holds (w.alloc (.cells cur T)) :=
  ⟨hl, .inr ⟨w.heap.size, cap, cur, T, (0, 0), rfl, h1, h2, heap_alloc_new w _, h3, h4, Fz.zero _⟩⟩

end Go.Kx
