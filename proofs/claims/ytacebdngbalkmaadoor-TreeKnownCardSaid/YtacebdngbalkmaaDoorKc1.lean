/- Own library: parts KxD, KxE, KxF. -/
import Derived.Test.YtacebdngbalkmaaDoorKc0
import Derived.Deep.AppendSrc
import Derived.Deep.LoopGhost
set_option linter.unusedSimpArgs false
set_option linter.unusedVariables false
/- Own library, part D: cells, runs of loads, stores, appends and copies, said of entries. -/
namespace Go.Kx
open Go
variable {P : Program} {w0 w w' : World} {M : List Nat} {H : List Ent}

/-- Cells that lie at an address. -/
def cellsAt (p : Value) (cs : List Value) : Ent where
  fp := []
  ro := valBlocks p
  holds w := ∃ b o, p = .pointer (some ⟨b, o, none⟩) ∧ b < w.heap.size ∧ ∀ (i : Nat) (x : Value), cs[i]? = some x → w.cell? ⟨b, o + i, none⟩ = some x
  loc w w' h hb := by
    obtain ⟨b, o, rfl, h2, h3⟩ := h
    have hb' : w'.heap[b]? = w.heap[b]? := hb b (.inr (by simp [valBlocks]))
    refine ⟨b, o, rfl, ?_, fun i x hx => ?_⟩
    · rw [Array.getElem?_eq_getElem h2] at hb'
      exact (Array.getElem?_eq_some_iff.1 hb').1
    · rw [World.cell?_of_block (w := w) hb']; exact h3 i x hx
  old w h b hb := by
    obtain ⟨b', o, rfl, h2, h3⟩ := h
    simp [valBlocks] at hb; subst hb; exact h2

/-- Every value of the list is one cell. -/
def One (cs : List Value) : Prop := ∀ v, v ∈ cs → v.oneCell' = true

theorem One.append {a b : List Value} (ha : One a) (hb : One b) : One (a ++ b) := fun v hv => by
  rcases List.mem_append.1 hv with h | h
  · exact ha v h
  · exact hb v h

theorem One.take {a : List Value} (ha : One a) (n : Nat) : One (a.take n) := fun v hv => ha v (List.mem_of_mem_take hv)
theorem One.drop {a : List Value} (ha : One a) (n : Nat) : One (a.drop n) := fun v hv => ha v (List.mem_of_mem_drop hv)

theorem run_sizeOf {t : TypeId} {s : Nat} (h : (P.info? t).map (·.size) = some s) (w : World) : (sizeOf t).run P w = .ok s w := by
  cases hi : P.info? t with
  | none => simp [hi] at h
  | some i => simp [hi] at h; simp [sizeOf, typeInfo, hi, h]

theorem run_isAgg {t : TypeId} {d : TypeDesc} (h : P.underlying t = some d) (w : World) : (isAgg t).run P w = .ok (TypeDesc.isRow d) w := by
  unfold isAgg
  rw [Sem.run_bind, run_underlying h]
  cases d <;> rfl

/-- A type whose variables are rows of s cells. -/
structure RowT (P : Program) (t : TypeId) (s : Nat) : Prop where
  row : ∃ d, P.underlying t = some d ∧ TypeDesc.isRow d = true
  size : (P.info? t).map (·.size) = some s

/-- A type whose variables are one cell. -/
structure OneT (P : Program) (t : TypeId) : Prop where
  row : ∃ d, P.underlying t = some d ∧ TypeDesc.isRow d = false
  size : (P.info? t).map (·.size) = some 1

theorem RowT.of {t s : Nat} {d : TypeDesc} (h : P.underlying t = some d) (hd : TypeDesc.isRow d = true) (hs : (P.info? t).map (·.size) = some s) : RowT P t s := ⟨⟨d, h, hd⟩, hs⟩
theorem OneT.of {t : Nat} {d : TypeDesc} (h : P.underlying t = some d) (hd : TypeDesc.isRow d = false) (hs : (P.info? t).map (·.size) = some 1) : OneT P t := ⟨⟨d, h, hd⟩, hs⟩

theorem run_loadVar_row' {t : TypeId} {b o : Nat} {cs : List Value} (ht : RowT P t cs.length) (hc : ∀ (i : Nat) (x : Value), cs[i]? = some x → w.cell? ⟨b, o + i, none⟩ = some x) :
    (loadVar t ⟨b, o, none⟩).run P w = .ok (.agg cs.toArray) w := by
  obtain ⟨⟨d, hd, hr⟩, hs⟩ := ht
  have hl : (loadCells ⟨b, o, none⟩ cs.length).run P w = .ok cs.toArray w :=
    run_loadCells_list (P := P) w ⟨b, o, none⟩ cs (fun j v hv => by rw [Addr.add_mid]; exact hc j v hv)
  simp only [loadVar, Sem.run_bind, run_isAgg hd, hr, Result.andThen_ok, if_true, run_sizeOf hs, hl, Sem.run_pure]

theorem run_loadVar_one {t : TypeId} {b o : Nat} {x : Value} (ht : OneT P t) (hc : w.cell? ⟨b, o, none⟩ = some x) :
    (loadVar t ⟨b, o, none⟩).run P w = .ok x w := by
  obtain ⟨⟨d, hd, hr⟩, hs⟩ := ht
  simp [loadVar, Sem.run_bind, run_isAgg hd, hr, run_load, hc]

/-! ## Stores -/

def setBlk (w : World) (b : Nat) (o : Obj) : World := { w with heap := w.heap.setIfInBounds b o }

theorem setBlk_same {b : Nat} {o : Obj} (h : b < w.heap.size) : (setBlk w b o).heap[b]? = some o := by simp [setBlk, h]
theorem setBlk_other {b b' : Nat} {o : Obj} (h : b' ≠ b) : (setBlk w b o).heap[b']? = w.heap[b']? := by
  simp only [setBlk]; rw [Array.getElem?_setIfInBounds_ne (Ne.symm h)]
@[simp] theorem setBlk_size {b : Nat} {o : Obj} : (setBlk w b o).heap.size = w.heap.size := by simp [setBlk]
theorem setBlk_setBlk {b : Nat} {o o' : Obj} : setBlk (setBlk w b o) b o' = setBlk w b o' := by simp [setBlk]

theorem setCell_blk {b i : Nat} {cur : Array Value} {T : TypeId} {fr : Nat × Nat} (h : w.heap[b]? = some (.cells cur T fr)) (v : Value) :
    w.setCell ⟨b, i, none⟩ v = setBlk w b (.cells (cur.setIfInBounds i v) T fr) := by
  obtain ⟨hb, he⟩ := Array.getElem?_eq_some_iff.1 h
  simp only [World.setCell, setBlk]
  congr 1
  apply Array.ext_getElem?
  intro k
  rw [Array.getElem?_modify, Array.getElem?_setIfInBounds]
  by_cases hk : b = k
  · subst hk
    simp [hb, he]
  · simp [hk]

theorem frozen_Fz {b i : Nat} {cur : Array Value} {T : TypeId} {fr : Nat × Nat} {n : Nat} (h : w.heap[b]? = some (.cells cur T fr)) (hf : Fz fr n) (hi : i < n) : w.frozen? ⟨b, i, none⟩ = false := by
  obtain ⟨lo, hi'⟩ := fr
  simp only [World.frozen?, h]
  rcases hf with hf | hf
  · simp only at hf
    by_cases h1 : lo ≤ i
    · simp; omega
    · simp [h1]
  · simp only at hf
    simp; omega

theorem run_storeCells {b o : Nat} {T : TypeId} {fr : Nat × Nat} : ∀ (vs : List Value) (i : Nat) (cur : Array Value) (w : World), w.heap[b]? = some (.cells cur T fr) → Fz fr cur.size → o + i + vs.length ≤ cur.size → One vs →
    (storeCells ⟨b, o, none⟩ vs i).run P w = .ok () (setBlk w b (.cells (cur.toList.take (o + i) ++ vs ++ cur.toList.drop (o + i + vs.length)).toArray T fr))
  | [], i, cur, w, h, hf, hl, h1 => by
    simp only [storeCells, Sem.run_pure, List.append_nil, List.length_nil, Nat.add_zero, List.take_append_drop, Array.toArray_toList]
    congr 1
    obtain ⟨hb, he⟩ := Array.getElem?_eq_some_iff.1 h
    unfold setBlk
    cases w with
    | mk heap tape drawn os output =>
      congr 1
      apply Array.ext_getElem?
      intro k
      rw [Array.getElem?_setIfInBounds]
      by_cases hk : b = k
      · subst hk; simp only [if_true]; rw [h]; simp [hb]
      · simp [hk]
  | v :: vs, i, cur, w, h, hf, hl, h1 => by
    have hlen : o + i < cur.size := by simp at hl; omega
    have hcell : w.cell? ⟨b, o + i, none⟩ = some cur[o + i] := by rw [cell_of_row w b (o + i) cur T fr h]; simp [hlen]
    have hfz := frozen_Fz h hf hlen
    have hv : v.oneCell' = true := h1 v (List.mem_cons_self ..)
    have hset : (setBlk w b (.cells (cur.setIfInBounds (o + i) v) T fr)).heap[b]? = some (.cells (cur.setIfInBounds (o + i) v) T fr) := setBlk_same (Array.getElem?_eq_some_iff.1 h).1
    have ih := run_storeCells (o := o) vs (i + 1) (cur.setIfInBounds (o + i) v) _ hset (by simpa using hf) (by simp at hl ⊢; omega) (fun x hx => h1 x (List.mem_cons_of_mem _ hx))
    simp only [storeCells, Sem.run_bind, Addr.add_mid, run_store P w _ v _ hv, hcell, hfz, Bool.false_eq_true, if_false, Result.andThen_ok, setCell_blk h, ih, setBlk_setBlk]
    congr 3
    have e1 : (cur.setIfInBounds (o + i) v).toList = cur.toList.set (o + i) v := by simp
    rw [e1]
    congr 1
    have e2 : List.take (o + (i + 1)) (cur.toList.set (o + i) v) = List.take (o + i) cur.toList ++ [v] := by
      rw [show o + (i + 1) = (o + i) + 1 by omega, List.take_succ_eq_append_getElem (by simpa using hlen)]
      rw [List.take_set_of_le (Nat.le_refl _)]
      simp
    have e3 : List.drop (o + (i + 1) + vs.length) (cur.toList.set (o + i) v) = List.drop (o + i + (v :: vs).length) cur.toList := by
      rw [List.drop_set_of_lt (by omega)]
      congr 1
      simp
      omega
    rw [e2, e3]
    simp

theorem run_storeVar_blk {t : TypeId} {b o s : Nat} {cur : Array Value} {T : TypeId} {fr : Nat × Nat} {v : Value} {vs : List Value} (hs : (P.info? t).map (·.size) = some s) (hv : v.cells = vs.toArray) (hl : vs.length = s)
    (h1 : One vs) (h : w.heap[b]? = some (.cells cur T fr)) (hf : Fz fr cur.size) (hfit : o + s ≤ cur.size) :
    (storeVar t ⟨b, o, none⟩ v).run P w = .ok () (setBlk w b (.cells (cur.toList.take o ++ vs ++ cur.toList.drop (o + s)).toArray T fr)) := by
  have hst := run_storeCells (P := P) (o := o) vs 0 cur w h hf (by omega) h1
  simp only [Nat.add_zero] at hst
  subst hl
  simp [storeVar, Sem.run_bind, run_sizeOf hs, hv, hst]


/-! ## Reading a slice -/

theorem lenOf_rd {v : Value} {es n c : Nat} {cs : List Value} (h : (rd v es n c cs).holds w) : (Builtin.lenOf v).run P w = .ok n w := by
  rcases h.2 with ⟨p, rfl, rfl, _⟩ | ⟨b, o, rfl, _⟩ <;> rfl

theorem firstCells_rd {v : Value} {es n c m : Nat} {cs : List Value} (h : (rd v es n c cs).holds w) (hm : m ≤ n) : (Builtin.firstCells es m v).run P w = .ok (cs.take (m * es)).toArray w := by
  obtain ⟨hl, ⟨p, rfl, rfl, _⟩ | ⟨b, o, rfl, h1, h2, h3⟩⟩ := h
  · have : m = 0 := by omega
    subst this
    cases p <;> simp [Builtin.firstCells, loadCells, loadCellsFrom]
  · have hle : m * es ≤ cs.length := by rw [hl]; exact Nat.mul_le_mul_right _ hm
    have hlen : (cs.take (m * es)).length = m * es := by simp [hle]
    have := run_loadCells_list (P := P) w ⟨b, o, none⟩ (cs.take (m * es)) (fun j x hx => by
      rw [Addr.add_mid]
      rw [List.getElem?_take] at hx
      split at hx
      · exact h3 j x hx
      · cases hx)
    rw [hlen] at this
    exact this

theorem firstCells_rd_all {v : Value} {es n c : Nat} {cs : List Value} (h : (rd v es n c cs).holds w) : (Builtin.firstCells es n v).run P w = .ok cs.toArray w := by
  have := firstCells_rd (P := P) h (Nat.le_refl n)
  rwa [List.take_of_length_le (by rw [h.1]; exact Nat.le_refl _)] at this

theorem alloc_old (w : World) (o : Obj) (b : Nat) (h : b < w.heap.size) : (w.alloc o).heap[b]? = w.heap[b]? := by
  show (w.heap.push o)[b]? = w.heap[b]?
  rw [Array.getElem?_push, if_neg (Nat.ne_of_lt h)]

/-! ## append -/

/-- A slice type, what it is of, how many cells and bytes an element has, and its zero. -/
structure SlT (P : Program) (t e es bytes : Nat) : Prop where
  und : P.underlying t = some (.slice e)
  size : (P.info? e).map (·.size) = some es
  bytes : (P.info? e).map (·.bytes) = some bytes
  zero : ∃ z, (P.info? e).bind (·.zero) = some z ∧ z.cells.size = es

theorem maxLen_eq : maxLen = 9223372036854775807 := rfl

structure Appended (w w' : World) (v v' : Value) (es n : Nat) (cs : List Value) : Prop where
  os : w'.os = w.os
  tape : w'.tape = w.tape
  output : w'.output = w.output
  size : w.heap.size ≤ w'.heap.size
  frame : ∀ b, b < w.heap.size → b ∉ valBlocks v → w'.heap[b]? = w.heap[b]?
  own : (own v' es n cs).holds w'
  new : ∀ b, b ∈ valBlocks v' → b ∈ valBlocks v ∨ w.heap.size ≤ b

theorem run_append {t xt e es bytes ty : Nat} (ht : SlT P t e es bytes) {v x : Value} {n m : Nat} {cs news : List Value} (hown : (own v es n cs).holds w)
    (hsrc : Src P es xt x m news w) (h63 : n + m ≤ maxLen) (hby : (n + m) * bytes ≤ 140737488355328) :
    ∃ v' w', (Builtin.append_ #[t, xt] ty #[v, x]).run P w = .ok v' w' ∧ Appended w w' v v' es (n + m) (cs ++ news) := by
  obtain ⟨hu, hs, hb, z, hz, hzs⟩ := ht
  obtain ⟨ie, hie⟩ : ∃ ie, P.info? e = some ie := by cases h : P.info? e with | none => simp [h] at hs | some i => exact ⟨i, rfl⟩
  simp only [hie, Option.map_some, Option.some.injEq, Option.bind_some] at hs hb hz
  subst hs; subst hb
  have hnl := hsrc.newsLen
  have hlen2 : (cs ++ news).length = (n + m) * ie.size := by rw [List.length_append, hown.1, hnl, Nat.add_mul]
  have grow : ∀ (base : Option Addr) (cap : Nat), v = .slice base n cap → cap < n + m → (Builtin.firstCells ie.size n v).run P w.drew = .ok cs.toArray w.drew →
      ∃ v' w', (Builtin.append_ #[t, xt] ty #[v, x]).run P w = .ok v' w' ∧ Appended w w' v v' ie.size (n + m) (cs ++ news) := by
    intro base cap hv hcap hold
    have hge := grownCap_ge w (n + m) cap e
    have hle := grownCap_le_maxLen w (n + m) cap e h63
    subst hv
    refine ⟨_, _, run_append_grow_src w t xt ty e ie z hu hie hz base n cap cs hold x m news hsrc hcap (by rw [maxLen_eq] at h63; omega) (growslice_fits hcap hby), ?_⟩
    refine ⟨rfl, rfl, rfl, by simp, fun b hb' _ => alloc_old w.drew _ b hb', ⟨hlen2, .inr ⟨w.heap.size, _, _, e, (0, 0), rfl, hge, hle, heap_alloc_new w.drew _, ?_, ?_, Fz.zero _⟩⟩, fun b hb' => ?_⟩
    · simp only [Array.size_append, List.size_toArray, size_zeroCells, hzs, hlen2, ← Nat.add_mul]
      congr 1; omega
    · simp only [Array.toList_append]
      rw [← hlen2]
      exact List.take_left
    · simp [valBlocks] at hb'; right; omega
  rcases hown.2 with ⟨rfl, rfl⟩ | ⟨b, cap, cur, T, fr, rfl, h1, h2, h3, h4, h5, h6⟩
  · have hcs : cs = [] := List.eq_nil_of_length_eq_zero (by simpa using hown.1)
    subst hcs
    by_cases hm : m = 0
    · subst hm
      have hn0 : news = [] := List.eq_nil_of_length_eq_zero (by simpa using hnl)
      subst hn0
      refine ⟨.slice none 0 0, w, ?_, rfl, rfl, rfl, Nat.le_refl _, fun _ _ _ => rfl, hown, fun b hb => .inl hb⟩
      rcases hsrc.kind with ⟨e', hk⟩ | hk <;> simp [Builtin.append_, run_underlying hu, run_underlying hk, sizeOf, typeInfo, hie, hsrc.len, hsrc.cells]
    · exact grow none 0 rfl (by omega) (by simp [Builtin.firstCells])
  · by_cases hroom : n + m ≤ cap
    · have hfit : n * ie.size + 0 + news.length ≤ cur.size := by
        rw [hnl, h4, Nat.add_zero, ← Nat.add_mul]; exact Nat.mul_le_mul_right _ hroom
      have hst := run_storeCells (P := P) (o := n * ie.size) news 0 cur w h3 h6 hfit hsrc.one
      simp only [Nat.add_zero] at hst hfit
      have hb := (Array.getElem?_eq_some_iff.1 h3).1
      have hcl : (List.take (n * ie.size) cur.toList).length = n * ie.size := by rw [h5]; exact hown.1
      refine ⟨.slice (some ⟨b, 0, none⟩) (n + m) cap, setBlk w b (.cells (List.take (n * ie.size) cur.toList ++ news ++ List.drop (n * ie.size + news.length) cur.toList).toArray T fr), ?_, rfl, rfl, rfl, by simp, fun b' hb' hne => ?_, ⟨hlen2, .inr ⟨b, cap, _, T, fr, rfl, hroom, h2, setBlk_same hb, ?_, ?_, ?_⟩⟩, fun b' hb' => .inl hb'⟩
      · rcases hsrc.kind with ⟨e', hk⟩ | hk <;> simp [Builtin.append_, run_underlying hu, run_underlying hk, sizeOf, typeInfo, hie, hsrc.len, hroom, hsrc.cells, Addr.add_mid, hst]
      · exact setBlk_other (fun e => hne (by simp [valBlocks, e]))
      · simp only [List.size_toArray, List.length_append, List.length_take, List.length_drop, Array.length_toList]
        omega
      · rw [h5]
        rw [← hlen2]
        exact List.take_left
      · have : (List.take (n * ie.size) cur.toList ++ news ++ List.drop (n * ie.size + news.length) cur.toList).toArray.size = cur.size := by
          simp only [List.size_toArray, List.length_append, List.length_take, List.length_drop, Array.length_toList]; omega
        rw [this]; exact h6
    · refine grow _ cap rfl (by omega) ?_
      obtain ⟨c, hrd⟩ := own_rd hown
      have hrd' : (rd (.slice (some ⟨b, 0, none⟩) n cap) ie.size n c cs).holds w.drew := hrd
      exact firstCells_rd_all hrd'

/-- append, in memory: the old slice is let go, the new one is owned. -/
theorem Mem.append {v v' : Value} {es n n' : Nat} {cs cs' : List Value} (hM : Mem w0 M w (own v es n cs :: H)) (h : Appended w w' v v' es n' cs') : Mem w0 M w' (own v' es n' cs' :: H) :=
  Mem.act (es := [own v es n cs]) (es' := [own v' es n' cs']) hM h.os h.tape h.output h.size
    (fun b hb hne => h.frame b hb (hne _ (List.mem_cons_self ..)))
    (fun e he => by rw [List.mem_singleton.1 he]; exact h.own)
    (fun e he b hb => by
      rw [List.mem_singleton.1 he] at hb
      exact (h.new b hb).imp (fun h => ⟨_, List.mem_cons_self .., h⟩) id)
    (fun e he b hb => by rw [List.mem_singleton.1 he] at hb; cases hb)
    (fun e he b hb => by rw [List.mem_singleton.1 he] at hb; cases hb)
    (List.pairwise_singleton ..)

theorem Src.rd {v : Value} {es n c xt e : Nat} {cs : List Value} (hx : P.underlying xt = some (.slice e)) (h : (rd v es n c cs).holds w) (h1 : One cs) : Src P es xt v n cs w where
  kind := .inl ⟨_, hx⟩
  len w' := by rcases h.2 with ⟨p, rfl, rfl, _⟩ | ⟨b, o, rfl, _⟩ <;> rfl
  cells := firstCells_rd_all h
  cellsD := firstCells_rd_all (w := w.drew) h
  newsLen := h.1
  one := h1

/-- A slice that has no room: append makes a new one. -/
theorem own_of_new (w : World) (cs : List Value) (es n cap : Nat) (T : TypeId) (cur : Array Value) (hl : cs.length = n * es) (h1 : n ≤ cap) (h2 : cap ≤ maxLen) (h3 : cur.size = cap * es) (h4 : cur.toList.take (n * es) = cs) :
    (own (.slice (some ⟨w.heap.size, 0, none⟩) n cap) es n cs).holds (w.alloc (.cells cur T)) :=
  ⟨hl, .inr ⟨w.heap.size, cap, cur, T, (0, 0), rfl, h1, h2, heap_alloc_new w _, h3, h4, Fz.zero _⟩⟩

end Go.Kx
/- Own library, part E: the steps of a walk, one a kind of operation. -/
namespace Go.Kx
open Go
variable {P : Program} {ops : Array Oper} {D : Option (Nat → Prop)} {Q : Exit → Act → World → Prop} {w0 w w' : World} {M : List Nat} {H H' : List Ent}
  {a : Act} {n : Nat} {L : List (Nat × Value)} {rest : List (Bool × Oper)} {d : Nat} {ty : TypeId} {pos : String} {aft : Array Edge} {x y z : Operand} {u v r : Value}

theorem blt_lt {i j : Nat} (h : Nat.blt i j = true) : i < j := by
  have : (Nat.blt i j = true) = (i < j) := Nat.blt_eq
  rwa [this] at h

/-! ## Guards -/

theorem yielded_of {j t : Nat} {b : Bool} (hE : Env a n L) (hj : (ops[j]?).bind (·.dst) = some t) (hl : lk t L = some (.bool b)) : yielded ops a.tmps j = some b := by
  unfold yielded
  rw [hj]
  simp [hE.at_ t _ hl]

theorem g_yes {f : Bool} {dst : Option Tmp} {op : Op} {j t : Nat} {b : Bool} (hE : Env a n L) (hj : (ops[j]?).bind (·.dst) = some t) (hl : lk t L = some (.bool b))
    (k : wpL P ops D Q ((f, ⟨dst, op, ty, pos, aft, none⟩) :: rest) a w) : wpL P ops D Q ((f, ⟨dst, op, ty, pos, aft, some (j, b)⟩) :: rest) a w := by
  have hw : Region.wanted ⟨dst, op, ty, pos, aft, some (j, b)⟩ (yielded ops a.tmps) = true := by simp [Region.wanted, yielded_of hE hj hl]
  simp only [wpL] at k ⊢
  rw [if_pos hw]
  rw [if_pos (by simp [Region.wanted])] at k
  exact k

theorem g_no {f : Bool} {op : Op} {j t : Nat} {b : Bool} (hE : Env a n L) (hj : (ops[j]?).bind (·.dst) = some t) (hl : lk t L = some (.bool b)) (hn : Nat.blt d n = true)
    (k : ∀ a', Env a' n ((d, undef) :: L) → wpL P ops D Q rest a' w) : wpL P ops D Q ((f, ⟨some d, op, ty, pos, aft, some (j, !b)⟩) :: rest) a w := by
  have hw : Region.wanted ⟨some d, op, ty, pos, aft, some (j, !b)⟩ (yielded ops a.tmps) = false := by simp [Region.wanted, yielded_of hE hj hl]
  simp only [wpL]
  rw [if_neg (by simp [hw])]
  exact k _ (hE.put _ (blt_lt hn))

theorem yielded_und {j t : Nat} (hE : Env a n L) (hj : (ops[j]?).bind (·.dst) = some t) (hl : lk t L = some undef) : yielded ops a.tmps j = none := by
  unfold yielded
  rw [hj]
  simp [hE.at_ t _ hl, undef]

theorem g_und {f b : Bool} {op : Op} {j t : Nat} (hE : Env a n L) (hj : (ops[j]?).bind (·.dst) = some t) (hl : lk t L = some undef) (hn : Nat.blt d n = true)
    (k : ∀ a', Env a' n ((d, undef) :: L) → wpL P ops D Q rest a' w) : wpL P ops D Q ((f, ⟨some d, op, ty, pos, aft, some (j, b)⟩) :: rest) a w := by
  have hw : Region.wanted ⟨some d, op, ty, pos, aft, some (j, b)⟩ (yielded ops a.tmps) = false := by simp [Region.wanted, yielded_und hE hj hl]
  simp only [wpL]
  rw [if_neg (by simp [hw])]
  exact k _ (hE.put _ (blt_lt hn))

/-! ## Operations that float -/

theorem s_val {op : Op} (hE : Env a n L) (hn : Nat.blt d n = true) (hf : Flo P D (execOp a.eval ⟨some d, op, ty, pos, aft, none⟩) v w)
    (k : ∀ a', Env a' n ((d, v) :: L) → wpL P ops D Q rest a' w) : wpL P ops D Q ((true, ⟨some d, op, ty, pos, aft, none⟩) :: rest) a w := by
  simp only [wpL]
  rw [if_pos (by simp [Region.wanted])]
  exact ⟨v, hf, k _ (hE.put _ (blt_lt hn))⟩

theorem s_move (hE : Env a n L) (hx : ev L x = some v) (hn : Nat.blt d n = true) (k : ∀ a', Env a' n ((d, v) :: L) → wpL P ops D Q rest a' w) :
    wpL P ops D Q ((true, ⟨some d, .move x, ty, pos, aft, none⟩) :: rest) a w :=
  s_val hE hn (Flo.of_all (fun w => by simp [execOp, hE.eval hx]) w) k

theorem s_assign (hE : Env a n L) (hx : ev L x = some v) (hn : Nat.blt d n = true) (k : ∀ a', Env a' n ((d, v) :: L) → wpL P ops D Q rest a' w) :
    wpL P ops D Q ((true, ⟨some d, .assign x, ty, pos, aft, none⟩) :: rest) a w :=
  s_val hE hn (Flo.of_all (fun w => by simp [execOp, hE.eval hx]) w) k

theorem s_pickt (hE : Env a n L) (hx : ev L x = some (.bool true)) (hy : ev L y = some v) (hn : Nat.blt d n = true) (k : ∀ a', Env a' n ((d, v) :: L) → wpL P ops D Q rest a' w) :
    wpL P ops D Q ((true, ⟨some d, .pick x y z, ty, pos, aft, none⟩) :: rest) a w :=
  s_val hE hn (Flo.of_all (fun w => by simp [execOp, hE.eval hx, hE.eval hy, asBool]) w) k

theorem s_pickf (hE : Env a n L) (hx : ev L x = some (.bool false)) (hz : ev L z = some v) (hn : Nat.blt d n = true) (k : ∀ a', Env a' n ((d, v) :: L) → wpL P ops D Q rest a' w) :
    wpL P ops D Q ((true, ⟨some d, .pick x y z, ty, pos, aft, none⟩) :: rest) a w :=
  s_val hE hn (Flo.of_all (fun w => by simp [execOp, hE.eval hx, hE.eval hz, asBool]) w) k

theorem s_extract {vs : Array Value} {i : Nat} (hE : Env a n L) (hx : ev L x = some (.tuple vs)) (hi : vs[i]? = some v) (hn : Nat.blt d n = true) (k : ∀ a', Env a' n ((d, v) :: L) → wpL P ops D Q rest a' w) :
    wpL P ops D Q ((true, ⟨some d, .extract x i, ty, pos, aft, none⟩) :: rest) a w :=
  s_val hE hn (Flo.of_all (fun w => by simp [execOp, hE.eval hx, Instr.extract, hi]) w) k

theorem s_nilCheck {ad : Addr} (hE : Env a n L) (hx : ev L x = some (.pointer (some ad))) (hn : Nat.blt d n = true) (k : ∀ a', Env a' n ((d, .pointer (some ad)) :: L) → wpL P ops D Q rest a' w) :
    wpL P ops D Q ((true, ⟨some d, .nilCheck x, ty, pos, aft, none⟩) :: rest) a w :=
  s_val hE hn (Flo.of_all (fun w => by simp [execOp, hE.eval hx]) w) k

theorem s_not {b : Bool} {t : TypeId} (hE : Env a n L) (hx : ev L x = some (.bool b)) (hn : Nat.blt d n = true) (k : ∀ a', Env a' n ((d, .bool (!b)) :: L) → wpL P ops D Q rest a' w) :
    wpL P ops D Q ((true, ⟨some d, .unOp .not t x, ty, pos, aft, none⟩) :: rest) a w :=
  s_val hE hn (Flo.of_all (fun w => by simp [execOp, hE.eval hx, Op.unary]) w) k

theorem s_makeFunc {fn : Fn} {f c : Array Operand} (hE : Env a n L) (hn : Nat.blt d n = true) (k : ∀ a', Env a' n ((d, .func fn (f.map a.eval) (c.map a.eval)) :: L) → wpL P ops D Q rest a' w) :
    wpL P ops D Q ((true, ⟨some d, .makeFunc fn f c, ty, pos, aft, none⟩) :: rest) a w :=
  s_val hE hn (Flo.of_all (fun w => by simp [execOp, Instr.makeFunc]) w) k

/-- What an operation of two operands gives. -/
def Bin (P : Program) (op : BinOp) (t : TypeId) (u v r : Value) : Prop := ∀ (x y : Operand) (w : World), (do eqGuard op t x y u v; binOp op t u v : Sem Value).run P w = .ok r w

theorem s_bin {op : BinOp} {t t' : TypeId} (hE : Env a n L) (hx : ev L x = some u) (hy : ev L y = some v) (hb : Bin P op t u v r) (hn : Nat.blt d n = true)
    (k : ∀ a', Env a' n ((d, r) :: L) → wpL P ops D Q rest a' w) : wpL P ops D Q ((true, ⟨some d, .binOp op t x y t', ty, pos, aft, none⟩) :: rest) a w :=
  s_val hE hn (Flo.of_all (fun w => by
    have := hb x y w
    simp only [execOp, hE.eval hx, hE.eval hy]
    rw [Sem.run_bind, this]; rfl) w) k

theorem bin_of {op : BinOp} {t : TypeId} (hg : (op matches .eql | .neq) = false) (h : ∀ w, (binOp op t u v).run P w = .ok r w) : Bin P op t u v r := fun x y w => by
  have : (eqGuard op t x y u v).run P w = .ok () w := by
    unfold eqGuard
    cases op <;> first | rfl | (simp at hg; done)
  rw [Sem.run_bind, this]; exact h w

theorem bin_eq {op : BinOp} {t : TypeId} (h1 : ∀ c, u ≠ .agg c) (h2 : u ≠ .nilIface) (h : ∀ w, (binOp op t u v).run P w = .ok r w) : Bin P op t u v r := fun x y w => by
  have : (eqGuard op t x y u v).run P w = .ok () w := by
    unfold eqGuard
    cases op <;> first | rfl | (cases u <;> first | rfl | exact absurd rfl h2 | exact absurd rfl (h1 _))
  rw [Sem.run_bind, this]; exact h w

section ints
variable {k : IntKind} {i j q : Int} {t : TypeId}

theorem bin_add (h : k.wrap (i + j) = q) : Bin P .add t (.int k i) (.int k j) (.int k q) := bin_of rfl fun w => by simp [binOp, Op.intArith, h]
theorem bin_sub (h : k.wrap (i - j) = q) : Bin P .sub t (.int k i) (.int k j) (.int k q) := bin_of rfl fun w => by simp [binOp, Op.intArith, h]
theorem bin_mul (h : k.wrap (i * j) = q) : Bin P .mul t (.int k i) (.int k j) (.int k q) := bin_of rfl fun w => by simp [binOp, Op.intArith, h]
theorem bin_quo (h0 : j ≠ 0) (h : k.wrap (i.tdiv j) = q) : Bin P .quo t (.int k i) (.int k j) (.int k q) := bin_of rfl fun w => by simp [binOp, Op.intDiv, h0, h]
theorem bin_rem (h0 : j ≠ 0) (h : i.tmod j = q) : Bin P .rem t (.int k i) (.int k j) (.int k q) := bin_of rfl fun w => by simp [binOp, Op.intDiv, h0, h]
theorem bin_lss : Bin P .lss t (.int k i) (.int k j) (.bool (decide (i < j))) := bin_of rfl fun w => by simp [binOp, Op.intCmp]
theorem bin_gtr : Bin P .gtr t (.int k i) (.int k j) (.bool (decide (j < i))) := bin_of rfl fun w => by simp [binOp, Op.intCmp]
theorem bin_geq : Bin P .geq t (.int k i) (.int k j) (.bool (decide (j ≤ i))) := bin_of rfl fun w => by simp [binOp, Op.intCmp]
theorem bin_eql : Bin P .eql t (.int k i) (.int k j) (.bool (decide (i = j))) := bin_eq (fun _ h => by cases h) (fun h => by cases h) fun w => by simp [binOp, Op.intCmp]; rfl
theorem bin_neq : Bin P .neq t (.int k i) (.int k j) (.bool (!decide (i = j))) := bin_eq (fun _ h => by cases h) (fun h => by cases h) fun w => by simp [binOp, Op.intCmp]; rfl

theorem wrap_i64 (h1 : -9223372036854775808 ≤ q) (h2 : q ≤ 9223372036854775807) : IntKind.i64.wrap q = q := IntWalk.i64_in q ⟨h1, h2⟩
theorem wrap_u64 (h1 : 0 ≤ q) (h2 : q ≤ 18446744073709551615) : IntKind.u64.wrap q = q := IntWalk.u64_in q ⟨h1, h2⟩
end ints

theorem bin_equal {t : TypeId} {b : Bool} (h1 : ∀ c, u ≠ .agg c) (h2 : u ≠ .nilIface) (he : ∀ w, (binOp .eql t u v).run P w = ((Op.equal t u v).run P w).andThen fun b w => .ok (.bool b) w)
    (hn : ∀ w, (binOp .neq t u v).run P w = ((Op.equal t u v).run P w).andThen fun b w => .ok (.bool (!b)) w) (h : ∀ d w, (Op.equalIn (d + 1) t u v).run P w = .ok b w) :
    Bin P .eql t u v (.bool b) ∧ Bin P .neq t u v (.bool (!b)) := by
  have h' : ∀ w, (Op.equal t u v).run P w = .ok b w := fun w => h 9999 w
  exact ⟨bin_eq h1 h2 fun w => by rw [he, h']; rfl, bin_eq h1 h2 fun w => by rw [hn, h']; rfl⟩

theorem bins_ptr_nil {t e : TypeId} {ad : Addr} (ht : P.underlying t = some (.pointer e)) : Bin P .eql t (.pointer (some ad)) (.pointer none) (.bool false) ∧ Bin P .neq t (.pointer (some ad)) (.pointer none) (.bool true) :=
  bin_equal (fun _ h => by cases h) (fun h => by cases h) (fun w => Sem.run_bind' P _ _ w) (fun w => Sem.run_bind' P _ _ w) fun d w => by simp [Op.equalIn, run_underlying ht]

theorem bins_nil_nil {t e : TypeId} (ht : P.underlying t = some (.pointer e)) : Bin P .eql t (.pointer none) (.pointer none) (.bool true) ∧ Bin P .neq t (.pointer none) (.pointer none) (.bool false) :=
  bin_equal (fun _ h => by cases h) (fun h => by cases h) (fun w => Sem.run_bind' P _ _ w) (fun w => Sem.run_bind' P _ _ w) fun d w => by simp [Op.equalIn, run_underlying ht]

/-- What a conversion that floats gives. -/
def Cnv (P : Program) (src dst : TypeId) (u r : Value) : Prop := ∀ w : World, (convert src dst u).run P w = .ok r w

theorem s_conv {src dst : TypeId} (hE : Env a n L) (hx : ev L x = some u) (hb : Cnv P src dst u r) (hn : Nat.blt d n = true)
    (k : ∀ a', Env a' n ((d, r) :: L) → wpL P ops D Q rest a' w) : wpL P ops D Q ((true, ⟨some d, .convert src dst x, ty, pos, aft, none⟩) :: rest) a w :=
  s_val hE hn (Flo.of_all (fun w => by
    have := hb w
    simp only [execOp, hE.eval hx]
    rw [Sem.run_bind, this]; rfl) w) k

theorem cnv_int {src dst : TypeId} {ds : TypeDesc} {k k' : IntKind} {i q : Int} (hs : P.underlying src = some ds) (hd : P.underlying dst = some (.int k)) (h : k.wrap i = q) : Cnv P src dst (.int k' i) (.int k q) := fun w => by
  simp [convert, run_underlying hs, run_underlying hd, Conv.intToInt, h]

/-! ## Addresses -/

/-- Where a field lies. -/
def fieldOff (P : Program) (s i : Nat) : Option Nat :=
  match P.underlying s with
  | some (.struct fs) => match fs[i]? with
    | some f => if (P.info? f.type).map (·.size) = some 0 then none else if (P.info? f.type).isSome then some f.offset else none
    | none => none
  | _ => none

theorem run_fieldAt {s i o b off : Nat} (h : fieldOff P s i = some o) (w : World) : (Instr.fieldAt s (.pointer (some ⟨b, off, none⟩)) i).run P w = .ok (.pointer (some ⟨b, off + o, none⟩)) w := by
  unfold fieldOff at h
  cases hu : P.underlying s with
  | none => simp [hu] at h
  | some dsc =>
    rw [hu] at h
    cases dsc <;> simp only at h <;> try (cases h; done)
    rename_i fs
    cases hf : fs[i]? with
    | none => simp [hf] at h
    | some f =>
      simp only [hf] at h
      cases hi : P.info? f.type with
      | none => simp [hi] at h
      | some inf =>
        simp only [hi, Option.map_some, Option.isSome_some, if_true] at h
        split at h
        · cases h
        · rename_i hne
          cases h
          have hsz : ¬ inf.size = 0 := by simpa using hne
          simp [Instr.fieldAt, run_underlying hu, hf, Instr.sureAddr, fieldPlace, sizeOf, typeInfo, hi, hsz, Addr.add_mid]

theorem s_fieldAddr {s i o b off : Nat} (hE : Env a n L) (hx : ev L x = some (.pointer (some ⟨b, off, none⟩))) (ho : fieldOff P s i = some o) (hn : Nat.blt d n = true)
    (k : ∀ a', Env a' n ((d, .pointer (some ⟨b, off + o, none⟩)) :: L) → wpL P ops D Q rest a' w) : wpL P ops D Q ((true, ⟨some d, .fieldAddr s x i, ty, pos, aft, none⟩) :: rest) a w :=
  s_val hE hn (Flo.of_all (fun w => by simp [execOp, hE.eval hx, run_fieldAt ho]) w) k

/-- An array's type: how many elements, of how many cells each. -/
def arrT (P : Program) (t : Nat) : Option (Nat × Nat) :=
  match P.underlying t with
  | some (.array l e) => (P.info? e).map fun i => (l, i.size)
  | _ => none

theorem arrT_spec {t l es : Nat} (h : arrT P t = some (l, es)) : ∃ e, P.underlying t = some (.array l e) ∧ (P.info? e).map (·.size) = some es := by
  unfold arrT at h
  cases hu : P.underlying t with
  | none => simp [hu] at h
  | some dsc =>
    rw [hu] at h
    cases dsc <;> simp only at h <;> try (cases h; done)
    rename_i l' e
    cases hi : P.info? e with
    | none => simp [hi] at h
    | some inf => simp [hi] at h; exact ⟨e, by simp [h.1], by simp [hi, h.2]⟩

theorem s_indexArr {t l es b off j : Nat} {i : Int} {k' : IntKind} (hE : Env a n L) (hx : ev L x = some (.pointer (some ⟨b, off, none⟩))) (hy : ev L y = some (.int k' i)) (ht : arrT P t = some (l, es))
    (hi : i = (j : Int)) (hj : j < l) (hn : Nat.blt d n = true)
    (k : ∀ a', Env a' n ((d, .pointer (some ⟨b, off + j * es, none⟩)) :: L) → wpL P ops D Q rest a' w) : wpL P ops D Q ((true, ⟨some d, .indexAddr t x y, ty, pos, aft, none⟩) :: rest) a w := by
  obtain ⟨e, hu, hs⟩ := arrT_spec ht
  subst hi
  refine s_val hE hn (Flo.of_all (fun w => ?_) w) k
  have h1 : (0 : Int) ≤ j ∧ (j : Int) < l := ⟨by omega, by omega⟩
  simp [execOp, hE.eval hx, hE.eval hy, Instr.indexAt, asIntOf, run_underlying hu, Instr.sureAddr, h1, run_sizeOf hs, Addr.add_mid]
  intro h; omega

/-- A slice type: of how many cells an element is. -/
def slT (P : Program) (t : Nat) : Option Nat :=
  match P.underlying t with
  | some (.slice e) => (P.info? e).map (·.size)
  | _ => none

theorem slT_spec {t es : Nat} (h : slT P t = some es) : ∃ e, P.underlying t = some (.slice e) ∧ (P.info? e).map (·.size) = some es := by
  unfold slT at h
  cases hu : P.underlying t with
  | none => simp [hu] at h
  | some dsc =>
    rw [hu] at h
    cases dsc <;> simp only at h <;> try (cases h; done)
    rename_i e
    exact ⟨e, rfl, h⟩

/-- An element of a slice that is read. -/
theorem s_indexRd {t es j m c : Nat} {i : Int} {k' : IntKind} {cs : List Value} (hE : Env a n L) (hx : ev L x = some v) (hr : (rd v es m c cs).holds w) (hy : ev L y = some (.int k' i)) (ht : slT P t = some es)
    (hi : i = (j : Int)) (hj : j < m) (hn : Nat.blt d n = true)
    (k : ∀ a' p, Env a' n ((d, p) :: L) → (cellsAt p ((cs.drop (j * es)).take es)).holds w → (∀ b, b ∈ valBlocks p → b ∈ rdB v c) → wpL P ops D Q rest a' w) : wpL P ops D Q ((true, ⟨some d, .indexAddr t x y, ty, pos, aft, none⟩) :: rest) a w := by
  obtain ⟨e, hu, hs⟩ := slT_spec ht
  subst hi
  rcases hr with ⟨hl, ⟨p, rfl, rfl, _⟩ | ⟨b, o, rfl, h1, h2, h3⟩⟩
  · omega
  · refine s_val hE hn (v := .pointer (some ⟨b, o + j * es, none⟩)) (Flo.of_all (fun w => ?_) w) (fun a' hE' => k a' _ hE' ⟨b, o + j * es, rfl, h2, fun i x hx => ?_⟩ (fun y hy => by simp only [rdB, if_neg (show ¬ c = 0 by omega)]; exact hy))
    · have h1 : (0 : Int) ≤ j ∧ (j : Int) < m := ⟨by omega, by omega⟩
      simp [execOp, hE.eval hx, hE.eval hy, Instr.indexAt, asIntOf, run_underlying hu, h1, run_sizeOf hs, Addr.add_mid]
      intro h; omega
    · rw [List.getElem?_take] at hx
      split at hx
      · rw [List.getElem?_drop] at hx
        have := h3 _ x hx
        rwa [← Nat.add_assoc] at this
      · cases hx

/-! ## Loads -/

theorem Flo.load {t : TypeId} {p : Value} {f : Ent} (hE : Env a n L) (hx : ev L x = some p) (hf : f.holds w) (hX : ∀ X, D = some X → ∀ b, b ∈ f.fp ∨ b ∈ f.ro → ¬ X b)
    (h : ∀ w', f.holds w' → (Instr.loadAt t p).run P w' = .ok v w') : Flo P D (execOp a.eval ⟨some d, .load t x, ty, pos, aft, none⟩) v w := by
  have h2 : ∀ w', f.holds w' → (execOp a.eval ⟨some d, .load t x, ty, pos, aft, none⟩).run P w' = .ok (.value v) w' := fun w' hw' => by
    simp only [execOp, hE.eval hx]
    rw [Sem.run_bind, h w' hw']; rfl
  refine ⟨h2 w hf, fun X hD w' hs => h2 w' (f.loc w w' hf fun b hb => ?_)⟩
  subst hD
  exact hs.2 b (f.old w hf b hb) (hX X rfl b hb)

/-- A load of one cell, at an address whose cells are known. -/
theorem s_loadAt1 {t : TypeId} {p : Value} (hE : Env a n L) (hx : ev L x = some p) (hc : (cellsAt p [v]).holds w) (ht : OneT P t) (hX : ∀ X, D = some X → ∀ b, b ∈ valBlocks p → ¬ X b) (hn : Nat.blt d n = true)
    (k : ∀ a', Env a' n ((d, v) :: L) → wpL P ops D Q rest a' w) : wpL P ops D Q ((true, ⟨some d, .load t x, ty, pos, aft, none⟩) :: rest) a w :=
  s_val hE hn (Flo.load hE hx hc (fun X hD b hb => hX X hD b (by simpa [cellsAt] using hb)) (fun w' h => by
    obtain ⟨b, o, rfl, h2, h3⟩ := h
    have := h3 0 v rfl
    simp only [Instr.loadAt, Instr.sureAddr, Sem.run_bind, Sem.run_pure, Result.andThen_ok]
    exact run_loadVar_one ht (by simpa using this))) k

/-- A load of a row, at an address whose cells are known. -/
theorem s_loadAtN {t : TypeId} {p : Value} {cs : List Value} (hE : Env a n L) (hx : ev L x = some p) (hc : (cellsAt p cs).holds w) (ht : RowT P t cs.length) (hX : ∀ X, D = some X → ∀ b, b ∈ valBlocks p → ¬ X b) (hn : Nat.blt d n = true)
    (k : ∀ a', Env a' n ((d, .agg cs.toArray) :: L) → wpL P ops D Q rest a' w) : wpL P ops D Q ((true, ⟨some d, .load t x, ty, pos, aft, none⟩) :: rest) a w :=
  s_val hE hn (Flo.load hE hx hc (fun X hD b hb => hX X hD b (by simpa [cellsAt] using hb)) (fun w' h => by
    obtain ⟨b, o, rfl, h2, h3⟩ := h
    simp only [Instr.loadAt, Instr.sureAddr, Sem.run_bind, Sem.run_pure, Result.andThen_ok]
    exact run_loadVar_row' ht h3)) k

/-- The cells from o on, s of them, where they are whole parts. -/
def rdSeg : Nat → Nat → List (List Value) → List Nat → Option (List Value)
  | 0, s, g :: ss, m :: ns => cond (Nat.beq s m) (some g) (cond (Nat.blt m s) ((rdSeg 0 (s - m) ss ns).map (g ++ ·)) none)
  | o + 1, s, _ :: ss, m :: ns => cond (Nat.ble m (o + 1)) (rdSeg (o + 1 - m) s ss ns) none
  | _, _, _, _ => none

theorem rdSeg_spec : ∀ {ss : List (List Value)} {ns : List Nat} {o s : Nat} {cs : List Value}, ss.map List.length = ns → rdSeg o s ss ns = some cs → cs.length = s ∧ ∀ (i : Nat) (x : Value), cs[i]? = some x → ss.flatten[o + i]? = some x
  | [], ns, o, s, cs, _, h => by cases o <;> simp [rdSeg] at h
  | g :: ss, [], o, s, cs, hm, _ => by simp at hm
  | g :: ss, m :: ns, 0, s, cs, hm, h => by
    simp only [List.map_cons, List.cons.injEq] at hm
    obtain ⟨hg, hm⟩ := hm
    simp only [rdSeg] at h
    cases h1 : Nat.beq s m with
    | true =>
      rw [h1, cond_true] at h
      cases h
      have := Nat.eq_of_beq_eq_true h1
      refine ⟨by omega, fun i x hx => ?_⟩
      have hlt := (List.getElem?_eq_some_iff.1 hx).1
      simp only [List.flatten_cons, Nat.zero_add]
      rw [List.getElem?_append_left hlt]; exact hx
    | false =>
      rw [h1, cond_false] at h
      cases h2 : Nat.blt m s with
      | false => rw [h2, cond_false] at h; cases h
      | true =>
        rw [h2, cond_true] at h
        have h2' : m < s := blt_lt h2
        cases hr : rdSeg 0 (s - m) ss ns with
        | none => rw [hr] at h; cases h
        | some cs' =>
          rw [hr] at h
          simp only [Option.map_some, Option.some.injEq] at h
          subst h
          obtain ⟨ih1, ih2⟩ := rdSeg_spec hm hr
          refine ⟨by simp; omega, fun i x hx => ?_⟩
          simp only [List.flatten_cons, Nat.zero_add]
          rw [List.getElem?_append] at hx ⊢
          split at hx
          · rename_i hlt; rw [if_pos hlt]; exact hx
          · rename_i hlt; rw [if_neg hlt]
            have := ih2 _ x hx
            rwa [Nat.zero_add] at this
  | g :: ss, m :: ns, o + 1, s, cs, hm, h => by
    simp only [List.map_cons, List.cons.injEq] at hm
    obtain ⟨hg, hm⟩ := hm
    simp only [rdSeg] at h
    cases h1 : Nat.ble m (o + 1) with
    | false => rw [h1, cond_false] at h; cases h
    | true =>
      rw [h1, cond_true] at h
      have h1' : m ≤ o + 1 := Nat.le_of_ble_eq_true h1
      obtain ⟨ih1, ih2⟩ := rdSeg_spec hm h
      refine ⟨ih1, fun i x hx => ?_⟩
      simp only [List.flatten_cons]
      rw [List.getElem?_append_right (by omega), hg]
      have := ih2 i x hx
      rwa [show o + 1 + i - m = o + 1 - m + i by omega]

theorem cellsAt_blk {b o s T : Nat} {ss : List (List Value)} {ns : List Nat} {cs : List Value} (h : (blk b ss ns T).holds w) (hs : rdSeg o s ss ns = some cs) : (cellsAt (.pointer (some ⟨b, o, none⟩)) cs).holds w := by
  obtain ⟨hm, fr, hh, hf⟩ := h
  obtain ⟨_, h2⟩ := rdSeg_spec hm hs
  refine ⟨b, o, rfl, (Array.getElem?_eq_some_iff.1 hh).1, fun i x hx => ?_⟩
  rw [cell_of_row w b (o + i) _ T fr hh]
  simpa using h2 i x hx

/-- A load of one cell out of a block that is known. -/
theorem s_load1 {t b o T : Nat} {ss : List (List Value)} {ns : List Nat} (hE : Env a n L) (hx : ev L x = some (.pointer (some ⟨b, o, none⟩))) (hB : (blk b ss ns T).holds w) (hs : rdSeg o 1 ss ns = some [v]) (ht : OneT P t)
    (hX : ∀ X, D = some X → ¬ X b) (hn : Nat.blt d n = true) (k : ∀ a', Env a' n ((d, v) :: L) → wpL P ops D Q rest a' w) : wpL P ops D Q ((true, ⟨some d, .load t x, ty, pos, aft, none⟩) :: rest) a w :=
  s_loadAt1 hE hx (cellsAt_blk hB hs) ht (fun X hD b' hb => by simp [valBlocks] at hb; subst hb; exact hX X hD) hn k

/-- A load of a row out of a block that is known. -/
theorem s_loadN {t b o s T : Nat} {ss : List (List Value)} {ns : List Nat} {cs : List Value} (hE : Env a n L) (hx : ev L x = some (.pointer (some ⟨b, o, none⟩))) (hB : (blk b ss ns T).holds w) (ht : RowT P t s) (hs : rdSeg o s ss ns = some cs)
    (hX : ∀ X, D = some X → ¬ X b) (hn : Nat.blt d n = true) (k : ∀ a', Env a' n ((d, .agg cs.toArray) :: L) → wpL P ops D Q rest a' w) : wpL P ops D Q ((true, ⟨some d, .load t x, ty, pos, aft, none⟩) :: rest) a w :=
  s_loadAtN hE hx (cellsAt_blk hB hs) (by rw [(rdSeg_spec hB.1 hs).1]; exact ht) (fun X hD b' hb => by simp [valBlocks] at hb; subst hb; exact hX X hD) hn k

end Go.Kx
/- Own library, part F: the steps that make or turn memory; calls; control; entering and leaving a function. -/
namespace Go.Kx
open Go
variable {P : Program} {ops : Array Oper} {D : Option (Nat → Prop)} {Q : Exit → Act → World → Prop} {w0 w w' : World} {M : List Nat} {H H' : List Ent}
  {a : Act} {n : Nat} {L : List (Nat × Value)} {rest : List (Bool × Oper)} {d : Nat} {ty : TypeId} {pos : String} {aft : Array Edge} {x y z : Operand} {u v r : Value}

/-! ## What does not float -/

theorem b_val {op : Op} (hE : Env a n L) (hn : Nat.blt d n = true) (hr : (execOp a.eval ⟨some d, op, ty, pos, aft, none⟩).run P w = .ok (.value v) w') (hs : Sta D w w')
    (k : ∀ a', Env a' n ((d, v) :: L) → wpL P ops D Q rest a' w') : wpL P ops D Q ((false, ⟨some d, op, ty, pos, aft, none⟩) :: rest) a w := by
  simp only [wpL]
  rw [if_pos (by simp [Region.wanted])]
  refine .inl ?_
  unfold Oper.wp
  rw [hr]
  exact ⟨hs, k _ (hE.put _ (blt_lt hn))⟩

theorem b_val0 {op : Op} (hr : (execOp a.eval ⟨none, op, ty, pos, aft, none⟩).run P w = .ok .skip w') (hs : Sta D w w')
    (k : wpL P ops D Q rest a w') : wpL P ops D Q ((false, ⟨none, op, ty, pos, aft, none⟩) :: rest) a w := by
  simp only [wpL]
  rw [if_pos (by simp [Region.wanted])]
  refine .inl ?_
  unfold Oper.wp
  rw [hr]
  exact ⟨hs, k⟩

theorem Sta.alloc (D : Option (Nat → Prop)) (w : World) (o : Obj) : Sta D w (w.alloc o) := by
  cases D with
  | none => trivial
  | some X => exact ⟨by simp, fun b hb _ => alloc_old w o b hb⟩

theorem Mem.alloc (hM : Mem w0 M w H) (ss : List (List Value)) (ns : List Nat) (T : TypeId) (hl : ss.map List.length = ns) : Mem w0 M (w.alloc (.cells ss.flatten.toArray T)) (blk w.heap.size ss ns T :: H) := by
  refine Mem.act (es := []) (es' := [blk w.heap.size ss ns T]) hM rfl rfl rfl (by simp) (fun b hb _ => alloc_old w _ b hb) ?_ ?_ ?_ ?_ (List.pairwise_singleton ..)
  · intro e he; rw [List.mem_singleton.1 he]; exact ⟨hl, (0, 0), heap_alloc_new w _, Fz.zero _⟩
  · intro e he b hb; rw [List.mem_singleton.1 he] at hb; right; simp [blk] at hb; omega
  · intro e he b hb; rw [List.mem_singleton.1 he] at hb; cases hb
  · intro e he b hb; rw [List.mem_singleton.1 he] at hb; cases hb

/-- The zero of a type, in parts. -/
def Zero (P : Program) (t : Nat) (ss : List (List Value)) : Prop := ∃ z, (P.info? t).bind (·.zero) = some z ∧ z.cells = ss.flatten.toArray

theorem run_zero {t : Nat} {ss : List (List Value)} (h : Zero P t ss) : ∃ z, (∀ w, (zeroValue t).run P w = .ok z w) ∧ z.cells = ss.flatten.toArray := by
  obtain ⟨z, hz, hc⟩ := h
  refine ⟨z, fun w => ?_, hc⟩
  cases hi : P.info? t with
  | none => simp [hi] at hz
  | some i => simp [hi] at hz; simp [zeroValue, typeInfo, hi, hz]

theorem s_alloc {t : Nat} {ss : List (List Value)} (ns : List Nat) (hE : Env a n L) (hM : Mem w0 M w H) (hz : Zero P t ss) (hl : ss.map List.length = ns) (hn : Nat.blt d n = true)
    (k : ∀ a' b w', Env a' n ((d, .pointer (some ⟨b, 0, none⟩)) :: L) → Mem w0 M w' (blk b ss ns t :: H) → wpL P ops D Q rest a' w') : wpL P ops D Q ((false, ⟨some d, .alloc t, ty, pos, aft, none⟩) :: rest) a w := by
  obtain ⟨z, hz, hc⟩ := run_zero hz
  refine b_val hE hn (v := .pointer (some ⟨w.heap.size, 0, none⟩)) (w' := w.alloc (.cells ss.flatten.toArray t)) ?_ (Sta.alloc D w _) (fun a' hE' => k a' _ _ hE' (hM.alloc ss ns t hl))
  simp [execOp, Instr.alloc, hz, newVar, newRow, hc]

theorem s_box {t : Nat} {ss : List (List Value)} (ns : List Nat) (hE : Env a n L) (hM : Mem w0 M w H) (hx : ev L x = some v) (hv : v.cells = ss.flatten.toArray) (hl : ss.map List.length = ns) (hn : Nat.blt d n = true)
    (k : ∀ a' b w', Env a' n ((d, .pointer (some ⟨b, 0, none⟩)) :: L) → Mem w0 M w' (blk b ss ns t :: H) → wpL P ops D Q rest a' w') : wpL P ops D Q ((false, ⟨some d, .box t x, ty, pos, aft, none⟩) :: rest) a w := by
  refine b_val hE hn (v := .pointer (some ⟨w.heap.size, 0, none⟩)) (w' := w.alloc (.cells ss.flatten.toArray t)) ?_ (Sta.alloc D w _) (fun a' hE' => k a' _ _ hE' (hM.alloc ss ns t hl))
  simp [execOp, hE.eval hx, Instr.box, newVar, newRow, hv]

/-! ## Building a struct or an array -/

/-- What 'build' gives: a closed fact, or by 'bld_struct'. -/
def Bld (P : Program) (t : Nat) (parts : Array (Nat × Value)) (r : Value) : Prop := ∀ w, (Instr.build t parts).run P w = .ok r w

theorem s_build {t : Nat} {ps : Array (Nat × Operand)} (vs : Array (Nat × Value)) (hE : Env a n L) (hv : ps.map (fun p => (p.1, a.eval p.2)) = vs) (hb : Bld P t vs r) (hn : Nat.blt d n = true)
    (k : ∀ a', Env a' n ((d, r) :: L) → wpL P ops D Q rest a' w) : wpL P ops D Q ((true, ⟨some d, .build t ps, ty, pos, aft, none⟩) :: rest) a w :=
  s_val hE hn (Flo.of_all (fun w => by
    have := hb w
    simp only [execOp]
    rw [Sem.run_bind, show (ps.map fun x => match x with | (i, x) => (i, a.eval x)) = vs from hv, this]; rfl) w) k

/-! ## Stores -/

def wr (o : Nat) (vs l : List Value) : List Value := l.take o ++ vs ++ l.drop (o + vs.length)

theorem wr_length {o : Nat} {vs l : List Value} (h : o + vs.length ≤ l.length) : (wr o vs l).length = l.length := by simp [wr]; omega

theorem wr_all {vs l : List Value} (h : vs.length = l.length) : wr 0 vs l = vs := by simp [wr, h]

theorem wr_append_left {o : Nat} {vs l r : List Value} (h : o + vs.length ≤ l.length) : wr o vs (l ++ r) = wr o vs l ++ r := by
  simp only [wr]
  rw [List.take_append_of_le_length (by omega), List.drop_append_of_le_length h]
  simp

theorem wr_append_right {o : Nat} {vs l r : List Value} : wr (l.length + o) vs (l ++ r) = l ++ wr o vs r := by
  simp only [wr]
  rw [List.take_length_add_append, Nat.add_assoc, List.drop_length_add_append]
  simp

/-- One part is written, from its j-th cell on. -/
def wrSeg : Nat → Nat → List Value → List (List Value) → List (List Value)
  | _, _, _, [] => []
  | 0, j, vs, g :: ss => wr j vs g :: ss
  | k + 1, j, vs, g :: ss => g :: wrSeg k j vs ss

theorem wrSeg_flatten : ∀ {ss : List (List Value)} {k j : Nat} {vs : List Value} {g : List Value}, ss[k]? = some g → j + vs.length ≤ g.length →
    wr ((ss.take k).flatten.length + j) vs ss.flatten = (wrSeg k j vs ss).flatten ∧ (wrSeg k j vs ss).map List.length = ss.map List.length
  | [], k, j, vs, g, h, _ => by simp at h
  | g' :: ss, 0, j, vs, g, h, hj => by
    simp at h; subst h
    simp only [List.take_zero, List.flatten_nil, List.length_nil, Nat.zero_add, List.flatten_cons, wrSeg, List.map_cons]
    exact ⟨wr_append_left hj, by rw [wr_length hj]⟩
  | g' :: ss, k + 1, j, vs, g, h, hj => by
    obtain ⟨h1, h2⟩ := wrSeg_flatten (ss := ss) (k := k) (by simpa using h) hj
    simp only [List.take_succ_cons, List.flatten_cons, List.length_append, wrSeg, List.map_cons, h2]
    refine ⟨?_, trivial⟩
    rw [Nat.add_assoc, wr_append_right, h1]

theorem take_flatten_length : ∀ (ss : List (List Value)) (k : Nat), (ss.take k).flatten.length = ((ss.map List.length).take k).sum
  | [], k => by simp
  | g :: ss, 0 => by simp
  | g :: ss, k + 1 => by simp [take_flatten_length ss k]

theorem sta_of_setBlk {b : Nat} {o : Obj} (hX : ∀ X, D = some X → X b) : Sta D w (setBlk w b o) := by
  cases D with
  | none => trivial
  | some X =>
    refine ⟨by simp, fun b' _ hx => setBlk_other fun e => hx (by subst e; exact hX X rfl)⟩

theorem blk_store {b k j T : Nat} {ss : List (List Value)} {ns : List Nat} {vs g : List Value} (hM : Mem w0 M w (blk b ss ns T :: H)) (hg : ss[k]? = some g) (hj : j + vs.length ≤ g.length) {o : Nat} (ho : (ns.take k).sum + j = o) :
    ∃ fr, w.heap[b]? = some (.cells ss.flatten.toArray T fr) ∧ Fz fr ss.flatten.length ∧ o + vs.length ≤ ss.flatten.length ∧
      Mem w0 M (setBlk w b (.cells (ss.flatten.take o ++ vs ++ ss.flatten.drop (o + vs.length)).toArray T fr)) (blk b (wrSeg k j vs ss) ns T :: H) := by
  obtain ⟨hm, fr, hh, hf⟩ := hM.holds _ (List.mem_cons_self ..)
  obtain ⟨h2, h3⟩ := wrSeg_flatten (ss := ss) (k := k) hg hj
  have ho' : (ss.take k).flatten.length + j = o := by rw [take_flatten_length, hm]; exact ho
  rw [ho'] at h2
  have hle : o + vs.length ≤ ss.flatten.length := by
    have hk : k < ss.length := (List.getElem?_eq_some_iff.1 hg).1
    have : ss.flatten.length = (ss.take k).flatten.length + (ss.drop k).flatten.length := by
      rw [← List.length_append, ← List.flatten_append, List.take_append_drop]
    rw [this, List.drop_eq_getElem_cons hk]
    have hgk : ss[k] = g := (List.getElem?_eq_some_iff.1 hg).2
    simp only [List.flatten_cons, List.length_append, hgk]
    omega
  refine ⟨fr, hh, hf, hle, ?_⟩
  have hb := (Array.getElem?_eq_some_iff.1 hh).1
  refine Mem.act (es := [blk b ss ns T]) (es' := [blk b (wrSeg k j vs ss) ns T]) hM rfl rfl rfl (by simp) (fun b' hb' hne => setBlk_other fun e => hne _ (List.mem_cons_self ..) (by simp [blk, e])) ?_ ?_ ?_ ?_ (List.pairwise_singleton ..)
  · intro e he; rw [List.mem_singleton.1 he]
    refine ⟨h3.trans hm, fr, ?_, ?_⟩
    · rw [setBlk_same hb, ← h2]; rfl
    · rw [← h2, wr_length hle]; exact hf
  · intro e he b' hb'; rw [List.mem_singleton.1 he] at hb'; left; exact ⟨_, List.mem_cons_self .., hb'⟩
  · intro e he b' hb'; rw [List.mem_singleton.1 he] at hb'; cases hb'
  · intro e he b' hb'; rw [List.mem_singleton.1 he] at hb'; cases hb'

/-- A store into part k of a block, from its j-th cell on. -/
theorem s_store {t b o j T s : Nat} (k : Nat) {ss ss' : List (List Value)} {ns : List Nat} {vs g : List Value} (hE : Env a n L) (hx : ev L x = some (.pointer (some ⟨b, o, none⟩))) (hy : ev L y = some v) (hM : Mem w0 M w (blk b ss ns T :: H))
    (hv : v.cells = vs.toArray) (ht : (P.info? t).map (·.size) = some s) (hl : vs.length = s) (h1 : One vs) (hg : ss[k]? = some g) (hj : j + vs.length ≤ g.length) (ho : (ns.take k).sum + j = o) (hss : wrSeg k j vs ss = ss')
    (hX : ∀ X, D = some X → X b) (kk : ∀ w', Mem w0 M w' (blk b ss' ns T :: H) → wpL P ops D Q rest a w') : wpL P ops D Q ((false, ⟨none, .store t x y, ty, pos, aft, none⟩) :: rest) a w := by
  subst hss
  obtain ⟨fr, hh, hf, hle, hM'⟩ := blk_store hM hg hj ho
  have hst := run_storeVar_blk (P := P) (o := o) ht hv hl h1 hh (by simpa using hf) (by simpa [hl] using hle)
  refine b_val0 ?_ (sta_of_setBlk hX) (kk _ hM')
  simp only [execOp, hE.eval hx, hE.eval hy, Instr.storeAt, Instr.sureAddr, Sem.run_bind, Sem.run_pure, Result.andThen_ok, hst, hl]

/-! ## Builtins -/

theorem s_builtin {bi : Builtin} {args : Array Operand} {ts : Array TypeId} {vs : Array Value} (hE : Env a n L) (hv : args.map a.eval = vs) (hf : ∀ cs, Flo P D (builtin bi ts ty cs vs) v w) (hn : Nat.blt d n = true)
    (k : ∀ a', Env a' n ((d, v) :: L) → wpL P ops D Q rest a' w) : wpL P ops D Q ((true, ⟨some d, .call { callee := .builtin bi, args := args, argTypes := ts }, ty, pos, aft, none⟩) :: rest) a w :=
  s_val hE hn (by simpa only [execOp, resolve, invoke, hv, pure_bind] using hf _) k

theorem s_len {t e m : Nat} (hE : Env a n L) (hx : ev L x = some v) (ht : P.underlying t = some (.slice e)) (hv : ∃ p c, v = .slice p m c) (hn : Nat.blt d n = true)
    (k : ∀ a', Env a' n ((d, .int .i64 m) :: L) → wpL P ops D Q rest a' w) : wpL P ops D Q ((true, ⟨some d, .call { callee := .builtin .len, args := #[x], argTypes := #[t] }, ty, pos, aft, none⟩) :: rest) a w := by
  obtain ⟨p, c, rfl⟩ := hv
  refine s_builtin hE (vs := #[.slice p m c]) (by simp [hE.eval hx]) (fun cs => Flo.of_all (fun w => ?_) w) hn k
  simp [builtin, Builtin.len_, run_underlying ht, goInt]

theorem rd_slice {es m c : Nat} {cs : List Value} (h : (rd v es m c cs).holds w) : ∃ p c, v = .slice p m c := by
  rcases h.2 with ⟨p, rfl, rfl, _⟩ | ⟨b, o, rfl, _⟩ <;> exact ⟨_, _, rfl⟩

theorem own_slice {es m : Nat} {cs : List Value} (h : (own v es m cs).holds w) : ∃ p c, v = .slice p m c := by
  rcases h.2 with ⟨rfl, rfl⟩ | ⟨b, cap, cur, T, fr, rfl, _⟩ <;> exact ⟨_, _, rfl⟩

theorem s_append {t xt e es bytes m m' : Nat} {cs news : List Value} (hE : Env a n L) (hx : ev L x = some v) (hy : ev L y = some u) (hM : Mem w0 M w (own v es m cs :: H)) (ht : SlT P t e es bytes) (hsrc : Src P es xt u m' news w)
    (h63 : m + m' ≤ maxLen) (hby : (m + m') * bytes ≤ 140737488355328) (hX : ∀ X, D = some X → ∀ b, b ∈ valBlocks v → X b) (hn : Nat.blt d n = true)
    (k : ∀ a' v' w', Env a' n ((d, v') :: L) → Mem w0 M w' (own v' es (m + m') (cs ++ news) :: H) → wpL P ops D Q rest a' w') :
    wpL P ops D Q ((false, ⟨some d, .call { callee := .builtin .append, args := #[x, y], argTypes := #[t, xt] }, ty, pos, aft, none⟩) :: rest) a w := by
  obtain ⟨v', w', hr, hA⟩ := run_append (ty := ty) ht (hM.holds _ (List.mem_cons_self ..)) hsrc h63 hby
  refine b_val hE hn (v := v') (w' := w') ?_ ?_ (fun a' hE' => k a' v' w' hE' (hM.append hA))
  · simp [execOp, resolve, invoke, builtin, hE.eval hx, hE.eval hy, hr]
  · cases D with
    | none => trivial
    | some X => exact ⟨hA.size, fun b hb hx => hA.frame b hb fun hb' => hx (hX X rfl b hb')⟩

/-! ## Calls -/

def evL (L : List (Nat × Value)) : List Operand → Option (List Value)
  | [] => some []
  | x :: r => match ev L x, evL L r with
    | some v, some l => some (v :: l)
    | _, _ => none

theorem Env.evals (hE : Env a n L) : ∀ {xs : List Operand} {vs : List Value}, evL L xs = some vs → xs.map a.eval = vs
  | [], vs, h => by simp [evL] at h; subst h; rfl
  | x :: r, vs, h => by
    simp only [evL] at h
    cases hx : ev L x with
    | none => simp [hx] at h
    | some v =>
      cases hr : evL L r with
      | none => simp [hx, hr] at h
      | some l =>
        simp [hx, hr] at h
        subst h
        rw [List.map_cons, hE.eval hx, hE.evals hr]

theorem s_call {f : FuncId} {xs : List Operand} {ts : Array TypeId} {vs : List Value} {R : Ending → World → Prop} (hE : Env a n L) (hv : evL L xs = some vs) (hf : ∀ args w, (callFunc f args).run P w = .ok (.enter f args) w)
    (hc : Calls P f vs.toArray w R) (hn : Nat.blt d n = true)
    (k : ∀ e w', R e w' → ∃ v, e = .returned v ∧ Sta D w w' ∧ ∀ a', Env a' n ((d, v) :: L) → wpL P ops D Q rest a' w') :
    wpL P ops D Q ((false, ⟨some d, .call { callee := .value (.func f), args := xs.toArray, argTypes := ts }, ty, pos, aft, none⟩) :: rest) a w := by
  simp only [wpL]
  rw [if_pos (by simp [Region.wanted])]
  refine .inl ?_
  unfold Oper.wp
  have hr : (execOp a.eval ⟨some d, .call { callee := .value (.func f), args := xs.toArray, argTypes := ts }, ty, pos, aft, none⟩).run P w = .ok (.enter f vs.toArray) w := by
    simp [execOp, resolve, Act.eval, Deferred.ofValue, invoke]
    rw [hE.evals hv, hf]
  rw [hr]
  refine Calls.mono hc fun e w' he => ?_
  obtain ⟨v, rfl, hs, hk⟩ := k e w' he
  exact ⟨hs, hk _ (hE.put _ (blt_lt hn))⟩

/-- A call of a function value: what it captured comes last. -/
theorem s_calldyn {f : FuncId} {xs : List Operand} {ts : Array TypeId} {vs : List Value} {cap : Array Value} {R : Ending → World → Prop} (hE : Env a n L) (hx : ev L x = some (.func (.func f) #[] cap)) (hv : evL L xs = some vs) (hf : ∀ args w, (callFunc f args).run P w = .ok (.enter f args) w)
    (hc : Calls P f (vs.toArray ++ cap) w R) (hn : Nat.blt d n = true)
    (k : ∀ e w', R e w' → ∃ v, e = .returned v ∧ Sta D w w' ∧ ∀ a', Env a' n ((d, v) :: L) → wpL P ops D Q rest a' w') :
    wpL P ops D Q ((false, ⟨some d, .call { callee := .value x, args := xs.toArray, argTypes := ts }, ty, pos, aft, none⟩) :: rest) a w := by
  simp only [wpL]
  rw [if_pos (by simp [Region.wanted])]
  refine .inl ?_
  unfold Oper.wp
  have hr : (execOp a.eval ⟨some d, .call { callee := .value x, args := xs.toArray, argTypes := ts }, ty, pos, aft, none⟩).run P w = .ok (.enter f (vs.toArray ++ cap)) w := by
    simp [execOp, resolve, hE.eval hx, Deferred.ofValue, invoke]
    rw [hE.evals hv, hf]
  rw [hr]
  refine Calls.mono hc fun e w' he => ?_
  obtain ⟨v, rfl, hs, hk⟩ := k e w' he
  exact ⟨hs, hk _ (hE.put _ (blt_lt hn))⟩

theorem Mem.drew (hM : Mem w0 M w H) : Mem w0 M { w with drawn := w.drawn + 1 } H :=
  Mem.act (es := []) (es' := []) hM rfl rfl rfl (Nat.le_refl _) (fun _ _ _ => rfl) (fun _ h => by cases h) (fun _ h => by cases h) (fun _ h => by cases h) (fun _ h => by cases h) .nil

theorem wp_drawnM {id : Nat} {ops : Array Oper} (hM : Mem w0 M w H) (hm : P.follows .mixedOrders = true) (X : Nat → Prop) (c : List (Nat × Bool)) (T : List (Nat × List (Nat × Nat)))
    (hc : canonOk ops c T = true) {l : List (Bool × Oper)} (hl : theOps ops c = l) (h : ∀ w', Mem w0 M w' H → w'.heap = w.heap → wpL P ops (some X) Q l a w') : (Code.region id ops true).wp P Q a w :=
  wp_drawn hm X c T hc hl (h _ hM.drew rfl)

/-! ## Control -/

theorem c_loop {γ : Type} {c : Code} (I : γ → Act → World → Prop) (μ : γ → Nat) (g : γ) (h0 : I g a w)
    (round : ∀ g a w, I g a w → c.wp P (Exit.then (fun a' w' => ∃ g', I g' a' w' ∧ μ g' < μ g) Q) a w) : (Code.loop c).wp P Q a w := by
  refine wp_loop_ghost (fun m a w => ∃ g, I g a w ∧ μ g = m) (μ g) ⟨g, h0, rfl⟩ fun m a w ⟨g, hI, hm⟩ => wp_mono (round g a w hI) ?_
  intro e a' w' hq
  cases e with
  | normal => obtain ⟨g', hI', hlt⟩ := hq; exact ⟨μ g', by omega, g', hI', rfl⟩
  | exit id => exact hq
  | goto l => exact hq
  | ret => exact hq
  | panic ch => exact hq
  | outgrown => exact hq

/-! ## Entering and leaving -/

theorem f_enter {f : FuncId} {fn : Func} {c : Code} {args : List Value} {w : World} {R : Ending → World → Prop} (n : Nat) (hf : P.funcs[f]? = some fn) (hb : fn.body = some c) (hn : fn.ntmps = n) (hle : Nat.ble args.length n = true)
    (h : ∀ a, Env a n (numb 0 args) → c.wp P (bodyPost P fn R) a w) : Calls P f args.toArray w R := by
  refine calls_of_wp hf hb (h _ ?_)
  rw [hn]
  exact Env.enter args n (Nat.le_of_ble_eq_true hle)

/-- What a result holds when a function leaves. -/
def ResOne (P : Program) (w : World) (L : List (Nat × Value)) (r : ResultVar) (v : Value) : Prop :=
  match r with
  | .tmp t => lk t L = some v
  | .cell p T => ∃ ad, lk p L = some (.pointer (some ad)) ∧ (loadVar T ad).run P w = .ok v w

theorem f_ret0 {fn : Func} {R : Ending → World → Prop} (hE : Env a n L) (hr : fn.results = #[]) (hR : R (.returned (.tuple #[])) w) : bodyPost P fn R .ret a w ∧ bodyPost P fn R .normal a w :=
  ⟨bodyPost_ret (results_none hr _ _ _) hE.defers hR, bodyPost_end (results_none hr _ _ _) hE.defers hR⟩

theorem f_ret1 {fn : Func} {R : Ending → World → Prop} {r1 : ResultVar} (hE : Env a n L) (hr : fn.results = #[r1]) (h : ResOne P w L r1 v) (hR : R (.returned v) w) : bodyPost P fn R .ret a w := by
  refine bodyPost_ret (v := v) ?_ hE.defers hR
  cases r1 with
  | tmp t => have := hE.at_ _ _ h; simp [results, hr, this]
  | cell p T => obtain ⟨ad, h1, h2⟩ := h; have := hE.at_ _ _ h1; simp [results, hr, this, asAddr, h2]

theorem f_ret2 {fn : Func} {R : Ending → World → Prop} {v1 v2 : Value} {r1 r2 : ResultVar} (hE : Env a n L) (hr : fn.results = #[r1, r2]) (h1 : ResOne P w L r1 v1) (h2 : ResOne P w L r2 v2) (hR : R (.returned (.tuple #[v1, v2])) w) : bodyPost P fn R .ret a w := by
  refine bodyPost_ret (v := .tuple #[v1, v2]) ?_ hE.defers hR
  cases r1 <;> cases r2 <;> simp only [ResOne] at h1 h2 <;>
    (try (obtain ⟨ad1, h1, h1'⟩ := h1)) <;> (try (obtain ⟨ad2, h2, h2'⟩ := h2)) <;> (have k1 := hE.at_ _ _ h1; have k2 := hE.at_ _ _ h2; simp [results, asAddr, *])

theorem res_cellN {p T b o s : Nat} {ss : List (List Value)} {ns : List Nat} {T' : Nat} {cs : List Value} (h : lk p L = some (.pointer (some ⟨b, o, none⟩))) (hB : (blk b ss ns T').holds w) (ht : RowT P T s) (hs : rdSeg o s ss ns = some cs) : ResOne P w L (.cell p T) (.agg cs.toArray) := by
  obtain ⟨b', o', e, h2, h3⟩ := cellsAt_blk hB hs
  cases e
  exact ⟨_, h, run_loadVar_row' (by rw [(rdSeg_spec hB.1 hs).1]; exact ht) h3⟩


/-! ## Ways out -/

theorem q_nil (h : Q .normal a w) : wpL P ops D Q [] a w := h
theorem q_then_e {K : Act → World → Prop} {id : Nat} (h : Q (.exit id) a w) : Exit.then K Q (.exit id) a w := h
theorem q_then_r {K : Act → World → Prop} (h : Q .ret a w) : Exit.then K Q .ret a w := h
theorem q_block_n {id : Nat} (h : Q .normal a w) : Exit.inBlock id Q .normal a w := h
theorem q_block_r {id : Nat} (h : Q .ret a w) : Exit.inBlock id Q .ret a w := h
theorem q_block_x {id : Nat} (h : Q .normal a w) : Exit.inBlock id Q (.exit id) a w := by simp only [Exit.inBlock, if_true]; exact h
theorem q_block_o {id id' : Nat} (hne : Nat.beq id' id = false) (h : Q (.exit id') a w) : Exit.inBlock id Q (.exit id') a w := by
  have : id' ≠ id := fun e => by subst e; simp at hne
  simp only [Exit.inBlock, if_neg this]; exact h

/-- What is known of a temporary is said in other words. -/
theorem Env.cast {v v' : Value} (hE : Env a n L) (t : Nat) (h : lk t L = some v) (e : v = v') : Env a n ((t, v') :: L) := by
  subst e
  refine ⟨hE.defers, hE.size, fun t' u hu => ?_⟩
  simp only [lk] at hu
  cases hb : Nat.beq t t' with
  | true =>
    have := Nat.eq_of_beq_eq_true hb
    subst this
    simp at hu
    rw [← hu]; exact hE.at_ _ _ h
  | false =>
    rw [hb] at hu
    exact hE.at_ _ _ hu

theorem Env.split {G : Prop} {b : Bool} (hE : Env a n L) (t : Nat) (h : lk t L = some (.bool b)) (ht : b = true → Env a n ((t, .bool true) :: L) → G) (hf : b = false → Env a n ((t, .bool false) :: L) → G) : G := by
  cases b with
  | true => exact ht rfl (hE.cast t h rfl)
  | false => exact hf rfl (hE.cast t h rfl)

end Go.Kx
