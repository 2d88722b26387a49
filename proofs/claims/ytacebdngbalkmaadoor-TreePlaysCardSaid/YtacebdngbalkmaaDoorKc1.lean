/- Own library: parts KxC, KxD, KxE. -/
import Derived.Test.YtacebdngbalkmaaDoorKc0
import Derived.Deep.AppendSrc
set_option linter.unusedSimpArgs false
set_option linter.unusedVariables false
/- Own library, part C: what is known of memory, as a list of entries that lie apart. -/
namespace Go.Kx
open Go

structure Ent where
  fp : List Nat
  ro : List Nat
  holds : World → Prop
  loc : ∀ w w', holds w → (∀ b, b ∈ fp ∨ b ∈ ro → w'.heap[b]? = w.heap[b]?) → holds w'
  old : ∀ w, holds w → ∀ b, b ∈ fp ∨ b ∈ ro → b < w.heap.size

def Apart (e f : Ent) : Prop := (∀ b, b ∈ e.fp → b ∉ f.fp ∧ b ∉ f.ro) ∧ (∀ b, b ∈ f.fp → b ∉ e.ro)

theorem Apart.symm {e f : Ent} (h : Apart e f) : Apart f e :=
  ⟨fun b hb => ⟨fun h' => (h.1 b h').1 hb, h.2 b hb⟩, fun b hb => (h.1 b hb).2⟩

structure Mem (w0 : World) (M : List Nat) (w : World) (H : List Ent) : Prop where
  os : w.os = w0.os
  tape : w.tape = w0.tape
  output : w.output = w0.output
  size : w0.heap.size ≤ w.heap.size
  frame : ∀ b, b < w0.heap.size → b ∉ M → w.heap[b]? = w0.heap[b]?
  holds : ∀ e, e ∈ H → e.holds w
  new : ∀ e, e ∈ H → ∀ b, b ∈ e.fp → b ∈ M ∨ w0.heap.size ≤ b
  self : ∀ e, e ∈ H → ∀ b, b ∈ e.ro → b ∉ e.fp
  apart : H.Pairwise Apart

variable {w0 w w' : World} {M : List Nat} {H H' : List Ent}

theorem Mem.get (h : Mem w0 M w H) (i : Nat) {e : Ent} (hi : H[i]? = some e) : e.holds w := h.holds e (List.mem_of_getElem? hi)

theorem Mem.sub (h : Mem w0 M w H) (hs : H'.Sublist H) : Mem w0 M w H' :=
  ⟨h.os, h.tape, h.output, h.size, h.frame, fun e he => h.holds e (hs.subset he), fun e he => h.new e (hs.subset he), fun e he => h.self e (hs.subset he), h.apart.sublist hs⟩

/-- These, in this order (each number once). -/
def picks (H : List Ent) : List Nat → Option (List Ent)
  | [] => some []
  | i :: r => match H[i]?, picks H r with
    | some e, some l => some (e :: l)
    | _, _ => none

theorem Mem.nil (h : Mem w0 M w H) : Mem w0 M w [] := h.sub (List.nil_sublist _)

theorem apart_of_get (h : H.Pairwise Apart) {i j : Nat} {e f : Ent} (hi : H[i]? = some e) (hj : H[j]? = some f) (hne : i ≠ j) : Apart e f := by
  obtain ⟨hi', rfl⟩ := List.getElem?_eq_some_iff.1 hi
  obtain ⟨hj', rfl⟩ := List.getElem?_eq_some_iff.1 hj
  rcases Nat.lt_or_gt_of_ne hne with hlt | hlt
  · exact List.pairwise_iff_getElem.1 h i j hi' hj' hlt
  · exact (List.pairwise_iff_getElem.1 h j i hj' hi' hlt).symm

theorem picks_mem : ∀ {ks : List Nat} {l : List Ent}, picks H ks = some l → ∀ e ∈ l, ∃ i ∈ ks, H[i]? = some e
  | [], l, h, e, he => by simp [picks] at h; subst h; cases he
  | i :: r, l, h, e, he => by
    simp only [picks] at h
    cases hi : H[i]? with
    | none => simp [hi] at h
    | some x =>
      cases hr : picks H r with
      | none => simp [hi, hr] at h
      | some l' =>
        simp [hi, hr] at h
        subst h
        rcases List.mem_cons.1 he with rfl | he
        · exact ⟨i, List.mem_cons_self .., hi⟩
        · obtain ⟨j, hj, hje⟩ := picks_mem hr e he
          exact ⟨j, List.mem_cons_of_mem _ hj, hje⟩

def noDup : List Nat → Bool
  | [] => true
  | k :: r => r.all (fun j => !(Nat.beq k j)) && noDup r

theorem picks_apart (hp : H.Pairwise Apart) : ∀ {ks : List Nat} {l : List Ent}, picks H ks = some l → noDup ks = true → l.Pairwise Apart
  | [], l, h, _ => by simp [picks] at h; subst h; exact .nil
  | i :: r, l, h, hd => by
    simp only [picks] at h
    simp only [noDup, Bool.and_eq_true, List.all_eq_true] at hd
    cases hi : H[i]? with
    | none => simp [hi] at h
    | some x =>
      cases hr : picks H r with
      | none => simp [hi, hr] at h
      | some l' =>
        simp [hi, hr] at h
        subst h
        refine .cons (fun e he => ?_) (picks_apart hp hr hd.2)
        obtain ⟨j, hj, hje⟩ := picks_mem hr e he
        refine apart_of_get hp hi hje (fun e' => ?_)
        have := hd.1 j hj
        rw [e'] at this
        simp at this

/-- Entries by their numbers: others are let go. -/
theorem Mem.pick (h : Mem w0 M w H) (ks : List Nat) {l : List Ent} (hl : picks H ks = some l) (hd : noDup ks = true := by rfl) : Mem w0 M w l := by
  have hm : ∀ e, e ∈ l → e ∈ H := fun e he => by
    obtain ⟨i, _, hi⟩ := picks_mem hl e he
    exact List.mem_of_getElem? hi
  exact ⟨h.os, h.tape, h.output, h.size, h.frame, fun e he => h.holds e (hm e he), fun e he => h.new e (hm e he), fun e he => h.self e (hm e he), picks_apart h.apart hl hd⟩

/-- The beginning of a function. -/
theorem Mem.start (w : World) {es : List Ent} (hh : ∀ e, e ∈ es → e.holds w) (hn : ∀ e, e ∈ es → ∀ b, b ∈ e.fp → b ∈ M) (hs : ∀ e, e ∈ es → ∀ b, b ∈ e.ro → b ∉ e.fp) (ha : es.Pairwise Apart) : Mem w M w es :=
  ⟨rfl, rfl, rfl, Nat.le_refl _, fun _ _ _ => rfl, hh, fun e he b hb => .inl (hn e he b hb), hs, ha⟩

theorem Mem.start0 (w : World) : Mem w [] w [] := Mem.start w (fun _ h => by cases h) (fun _ h => by cases h) (fun _ h => by cases h) .nil

/-- Where the blocks that an entry only reads may come from. -/
def RoFrom (es H : List Ent) (w : World) (b : Nat) : Prop := (∃ e, e ∈ es ∧ (b ∈ e.fp ∨ b ∈ e.ro)) ∨ (∃ f, f ∈ H ∧ b ∈ f.ro) ∨ w.heap.size ≤ b

theorem Mem.act {es es' H : List Ent} (hM : Mem w0 M w (es ++ H)) (ho : w'.os = w.os) (ht : w'.tape = w.tape) (hu : w'.output = w.output) (hsz : w.heap.size ≤ w'.heap.size)
    (hfr : ∀ b, b < w.heap.size → (∀ e, e ∈ es → b ∉ e.fp) → w'.heap[b]? = w.heap[b]?)
    (hh : ∀ e, e ∈ es' → e.holds w')
    (hnew : ∀ e, e ∈ es' → ∀ b, b ∈ e.fp → (∃ e0, e0 ∈ es ∧ b ∈ e0.fp) ∨ w.heap.size ≤ b)
    (hro : ∀ e, e ∈ es' → ∀ b, b ∈ e.ro → RoFrom es H w b)
    (hself : ∀ e, e ∈ es' → ∀ b, b ∈ e.ro → b ∉ e.fp)
    (hap : es'.Pairwise Apart) : Mem w0 M w' (es' ++ H) := by
  have hA := List.pairwise_append.1 hM.apart
  have hOld : ∀ f, f ∈ H → ∀ b, b ∈ f.fp ∨ b ∈ f.ro → b < w.heap.size := fun f hf => f.old w (hM.holds f (List.mem_append_right _ hf))
  have hNot : ∀ f, f ∈ H → ∀ b, b ∈ f.fp ∨ b ∈ f.ro → ∀ e, e ∈ es → b ∉ e.fp := fun f hf b hb e he hbe => by
    have := hA.2.2 e he f hf
    rcases hb with hb | hb
    · exact (this.1 b hbe).1 hb
    · exact (this.1 b hbe).2 hb
  refine ⟨ho.trans hM.os, ht.trans hM.tape, hu.trans hM.output, Nat.le_trans hM.size hsz, fun b hb hbm => ?_, fun e he => ?_, fun e he b hb => ?_, fun e he => ?_, ?_⟩
  · rw [hfr b (Nat.lt_of_lt_of_le hb hM.size) (fun e he hbe => ?_)]
    · exact hM.frame b hb hbm
    · rcases hM.new e (List.mem_append_left _ he) b hbe with h | h
      · exact hbm h
      · omega
  · rcases List.mem_append.1 he with he | he
    · exact hh e he
    · refine e.loc w w' (hM.holds e (List.mem_append_right _ he)) fun b hb => ?_
      exact hfr b (hOld e he b hb) (hNot e he b hb)
  · rcases List.mem_append.1 he with he | he
    · rcases hnew e he b hb with ⟨e0, h0, hb0⟩ | h
      · exact hM.new e0 (List.mem_append_left _ h0) b hb0
      · exact .inr (Nat.le_trans hM.size h)
    · exact hM.new e (List.mem_append_right _ he) b hb
  · rcases List.mem_append.1 he with he | he
    · exact hself e he
    · exact hM.self e (List.mem_append_right _ he)
  · refine List.pairwise_append.2 ⟨hap, hA.2.1, fun e he f hf => ⟨fun b hb => ?_, fun b hb hbr => ?_⟩⟩
    · rcases hnew e he b hb with ⟨e0, h0, hb0⟩ | h
      · exact (hA.2.2 e0 h0 f hf).1 b hb0
      · exact ⟨fun h' => by have := hOld f hf b (.inl h'); omega, fun h' => by have := hOld f hf b (.inr h'); omega⟩
    · rcases hro e he b hbr with ⟨e0, h0, hb0⟩ | ⟨g, hg, hbg⟩ | h
      · rcases hb0 with hb0 | hb0
        · exact ((hA.2.2 e0 h0 f hf).1 b hb0).1 hb
        · exact (hA.2.2 e0 h0 f hf).2 b hb hb0
      · by_cases e' : g = f
        · subst e'; exact hM.self g (List.mem_append_right _ hg) b hbg hb
        · have : Apart g f := by
            obtain ⟨i, hi⟩ := List.getElem?_of_mem hg
            obtain ⟨j, hj⟩ := List.getElem?_of_mem hf
            refine apart_of_get hA.2.1 hi hj fun hij => e' ?_
            subst hij; rw [hi] at hj; exact Option.some.inj hj
          exact this.2 b hb hbg
      · have := hOld f hf b (.inl hb); omega

/-- Behind a call: what it was given to turn (es) comes back as N, with what it made. -/
theorem Mem.call {es H N : List Ent} {Mc : List Nat} (hM : Mem w0 M w (es ++ H)) (hN : Mem w Mc w' N) (hMc : ∀ b, b ∈ Mc → ∃ e, e ∈ es ∧ b ∈ e.fp)
    (hro : ∀ e, e ∈ N → ∀ b, b ∈ e.ro → RoFrom es H w b) : Mem w0 M w' (N ++ H) :=
  hM.act hN.os hN.tape hN.output hN.size (fun b hb h => hN.frame b hb (fun hbm => by obtain ⟨e, he, hbe⟩ := hMc b hbm; exact h e he hbe)) hN.holds
    (fun e he b hb => (hN.new e he b hb).imp (hMc b) id) hro hN.self hN.apart

def NoRo : List Ent → Prop
  | [] => True
  | e :: r => e.ro = [] ∧ NoRo r

theorem NoRo.spec : ∀ {N : List Ent}, NoRo N → ∀ e, e ∈ N → ∀ b, b ∉ e.ro
  | [], _, _, he => by cases he
  | f :: r, h, e, he => by
    rcases List.mem_cons.1 he with rfl | he
    · intro b; rw [h.1]; exact List.not_mem_nil
    · exact NoRo.spec h.2 e he

/-- Behind a call that was given nothing to turn, and whose results are all its own. -/
theorem Mem.call0 {N : List Ent} (hM : Mem w0 M w H) (hN : Mem w [] w' N) (hr : NoRo N) : Mem w0 M w' (N ++ H) :=
  Mem.call (es := []) hM hN (fun b hb => by cases hb) (fun e he b hb => absurd hb (hr.spec e he b))

theorem Mem.sta0 (hM : Mem w0 [] w H) (X : Nat → Prop) : Sta (some X) w0 w := ⟨hM.size, fun b hb _ => hM.frame b hb (by simp)⟩

/-! ## Kinds of entries -/

/-- None of the first n cells is frozen. -/
def Fz (fr : Nat × Nat) (n : Nat) : Prop := fr.1 = fr.2 ∨ n ≤ fr.1

theorem Fz.zero (n : Nat) : Fz (0, 0) n := .inl rfl

/-- A block that is known whole: its cells in parts, each of a known length. -/
def blk (b : Nat) (ss : List (List Value)) (ns : List Nat) (T : TypeId) : Ent where
  fp := [b]
  ro := []
  holds w := ss.map List.length = ns ∧ ∃ fr, w.heap[b]? = some (.cells ss.flatten.toArray T fr) ∧ Fz fr ss.flatten.length
  loc w w' h hb := ⟨h.1, h.2.imp fun _ h => ⟨(hb b (.inl (List.mem_cons_self ..))).trans h.1, h.2⟩⟩
  old w h b' hb := by
    simp at hb
    subst hb
    obtain ⟨_, fr, h, _⟩ := h
    exact (Array.getElem?_eq_some_iff.1 h).1

def valBlocks : Value → List Nat
  | .slice (some a) _ _ => [a.block]
  | .pointer (some a) => [a.block]
  | _ => []

/-- The blocks that a slice of that capacity may be read from. -/
def rdB (v : Value) (c : Nat) : List Nat := if c = 0 then [] else valBlocks v

theorem rdB_sub {v : Value} {c x : Nat} (h : x ∈ rdB v c) : x ∈ valBlocks v := by
  unfold rdB at h; split at h
  · cases h
  · exact h

/-- A slice that is read alone: n elements of es cells each, of a capacity c. (One without capacity may have whatever address.) -/
def rd (v : Value) (es n c : Nat) (cs : List Value) : Ent where
  fp := []
  ro := rdB v c
  holds w := cs.length = n * es ∧ ((∃ p, v = .slice p 0 0 ∧ n = 0 ∧ c = 0) ∨
    ∃ b o, v = .slice (some ⟨b, o, none⟩) n c ∧ n ≤ c ∧ b < w.heap.size ∧ ∀ (i : Nat) (x : Value), cs[i]? = some x → w.cell? ⟨b, o + i, none⟩ = some x)
  loc w w' h hb := by
    refine ⟨h.1, ?_⟩
    rcases h.2 with h | ⟨b, o, rfl, h1, h2, h3⟩
    · exact .inl h
    · by_cases hc : c = 0
      · subst hc
        obtain rfl : n = 0 := by omega
        exact .inl ⟨_, rfl, rfl, rfl⟩
      · have hb' : w'.heap[b]? = w.heap[b]? := hb b (.inr (by simp [rdB, hc, valBlocks]))
        refine .inr ⟨b, o, rfl, h1, ?_, fun i x hx => ?_⟩
        · rw [Array.getElem?_eq_getElem h2] at hb'
          exact (Array.getElem?_eq_some_iff.1 hb').1
        · rw [World.cell?_of_block (w := w) hb']; exact h3 i x hx
  old w h b hb := by
    simp only [List.not_mem_nil, false_or] at hb
    have hb := rdB_sub hb
    rcases h.2 with ⟨p, rfl, rfl, rfl⟩ | ⟨b', o, rfl, h1, h2, h3⟩
    · simp [rdB] at *
    · simp [valBlocks] at hb; subst hb; exact h2

/-- A slice from the head of a block that nobody else knows of: what lies behind its length is whatever. -/
def own (v : Value) (es n : Nat) (cs : List Value) : Ent where
  fp := valBlocks v
  ro := []
  holds w := cs.length = n * es ∧ ((v = .slice none 0 0 ∧ n = 0) ∨
    ∃ b cap cur T fr, v = .slice (some ⟨b, 0, none⟩) n cap ∧ n ≤ cap ∧ cap ≤ maxLen ∧ w.heap[b]? = some (.cells cur T fr) ∧ cur.size = cap * es ∧ cur.toList.take (n * es) = cs ∧ Fz fr cur.size)
  loc w w' h hb := by
    refine ⟨h.1, ?_⟩
    rcases h.2 with h | ⟨b, cap, cur, T, fr, rfl, h1, h2, h3, h4⟩
    · exact .inl h
    · exact .inr ⟨b, cap, cur, T, fr, rfl, h1, h2, (hb b (.inl (by simp [valBlocks]))).trans h3, h4⟩
  old w h b hb := by
    simp only [List.not_mem_nil, or_false] at hb
    rcases h.2 with ⟨rfl, _⟩ | ⟨b', cap, cur, T, fr, rfl, h1, h2, h3, h4⟩
    · simp [valBlocks] at hb
    · simp [valBlocks] at hb; subst hb; exact (Array.getElem?_eq_some_iff.1 h3).1

/-- An owned slice is one that may be read. -/
theorem own_rd {v : Value} {es n : Nat} {cs : List Value} (h : (own v es n cs).holds w) : ∃ c, (rd v es n c cs).holds w := by
  obtain ⟨hl, h | ⟨b, cap, cur, T, fr, rfl, h1, h2, h3, h4, h5, h6⟩⟩ := h
  · exact ⟨0, hl, .inl ⟨none, h.1, h.2, rfl⟩⟩
  · refine ⟨cap, hl, .inr ⟨b, 0, rfl, h1, (Array.getElem?_eq_some_iff.1 h3).1, fun i x hx => ?_⟩⟩
    rw [Nat.zero_add, cell_of_row w b i cur T _ h3]
    rw [← h5, List.getElem?_take] at hx
    split at hx
    · simpa using hx
    · cases hx

/-- Ownership is given up: from now on it is read alone. -/
theorem Mem.freeze {v : Value} {es n : Nat} {cs : List Value} (hM : Mem w0 M w (own v es n cs :: H)) : ∃ c, Mem w0 M w (rd v es n c cs :: H) := by
  obtain ⟨c, hc⟩ := own_rd (hM.holds _ (List.mem_cons_self ..))
  refine ⟨c, Mem.act (es := [own v es n cs]) (es' := [rd v es n c cs]) hM rfl rfl rfl (Nat.le_refl _) (fun _ _ _ => rfl) ?_ ?_ ?_ ?_ (List.pairwise_singleton ..)⟩
  · intro e he; rw [List.mem_singleton.1 he]; exact hc
  · intro e he b hb; rw [List.mem_singleton.1 he] at hb; cases hb
  · intro e he b hb
    rw [List.mem_singleton.1 he] at hb
    exact .inl ⟨_, List.mem_cons_self .., .inl (rdB_sub hb)⟩
  · intro e he b hb; rw [List.mem_singleton.1 he]; exact List.not_mem_nil

end Go.Kx
/- Own library, part D: cells, runs of loads, stores, appends and copies, said of entries. -/
namespace Go.Kx
open Go
variable {P : Program} {w0 w w' : World} {M : List Nat} {H : List Ent}

/-- Cells that lie at an address. -/
def cellsAt (p : Value) (cs : List Value) : Ent where
  fp := []
  ro := valBlocks p
  holds w := ∃ b o, p = .pointer (some ⟨b, o, none⟩) ∧ b < w.heap.size ∧ ∀ (i : Nat) (x : Value), cs[i]? = some x → w.cell? ⟨b, o + i, none⟩ = some x
  loc w w' h hb := by
    obtain ⟨b, o, rfl, h2, h3⟩ := h
    have hb' : w'.heap[b]? = w.heap[b]? := hb b (.inr (by simp [valBlocks]))
    refine ⟨b, o, rfl, ?_, fun i x hx => ?_⟩
    · rw [Array.getElem?_eq_getElem h2] at hb'
      exact (Array.getElem?_eq_some_iff.1 hb').1
    · rw [World.cell?_of_block (w := w) hb']; exact h3 i x hx
  old w h b hb := by
    obtain ⟨b', o, rfl, h2, h3⟩ := h
    simp [valBlocks] at hb; subst hb; exact h2

/-- Every value of the list is one cell. -/
def One (cs : List Value) : Prop := ∀ v, v ∈ cs → v.oneCell' = true

theorem One.append {a b : List Value} (ha : One a) (hb : One b) : One (a ++ b) := fun v hv => by
  rcases List.mem_append.1 hv with h | h
  · exact ha v h
  · exact hb v h

theorem One.take {a : List Value} (ha : One a) (n : Nat) : One (a.take n) := fun v hv => ha v (List.mem_of_mem_take hv)
theorem One.drop {a : List Value} (ha : One a) (n : Nat) : One (a.drop n) := fun v hv => ha v (List.mem_of_mem_drop hv)

theorem run_sizeOf {t : TypeId} {s : Nat} (h : (P.info? t).map (·.size) = some s) (w : World) : (sizeOf t).run P w = .ok s w := by
  cases hi : P.info? t with
  | none => simp [hi] at h
  | some i => simp [hi] at h; simp [sizeOf, typeInfo, hi, h]

theorem run_isAgg {t : TypeId} {d : TypeDesc} (h : P.underlying t = some d) (w : World) : (isAgg t).run P w = .ok (TypeDesc.isRow d) w := by
  unfold isAgg
  rw [Sem.run_bind, run_underlying h]
  cases d <;> rfl

/-- A type whose variables are rows of s cells. -/
structure RowT (P : Program) (t : TypeId) (s : Nat) : Prop where
  row : ∃ d, P.underlying t = some d ∧ TypeDesc.isRow d = true
  size : (P.info? t).map (·.size) = some s

/-- A type whose variables are one cell. -/
structure OneT (P : Program) (t : TypeId) : Prop where
  row : ∃ d, P.underlying t = some d ∧ TypeDesc.isRow d = false
  size : (P.info? t).map (·.size) = some 1

theorem RowT.of {t s : Nat} {d : TypeDesc} (h : P.underlying t = some d) (hd : TypeDesc.isRow d = true) (hs : (P.info? t).map (·.size) = some s) : RowT P t s := ⟨⟨d, h, hd⟩, hs⟩
theorem OneT.of {t : Nat} {d : TypeDesc} (h : P.underlying t = some d) (hd : TypeDesc.isRow d = false) (hs : (P.info? t).map (·.size) = some 1) : OneT P t := ⟨⟨d, h, hd⟩, hs⟩

theorem run_loadVar_row' {t : TypeId} {b o : Nat} {cs : List Value} (ht : RowT P t cs.length) (hc : ∀ (i : Nat) (x : Value), cs[i]? = some x → w.cell? ⟨b, o + i, none⟩ = some x) :
    (loadVar t ⟨b, o, none⟩).run P w = .ok (.agg cs.toArray) w := by
  obtain ⟨⟨d, hd, hr⟩, hs⟩ := ht
  have hl : (loadCells ⟨b, o, none⟩ cs.length).run P w = .ok cs.toArray w :=
    run_loadCells_list (P := P) w ⟨b, o, none⟩ cs (fun j v hv => by rw [Addr.add_mid]; exact hc j v hv)
  simp only [loadVar, Sem.run_bind, run_isAgg hd, hr, Result.andThen_ok, if_true, run_sizeOf hs, hl, Sem.run_pure]

theorem run_loadVar_one {t : TypeId} {b o : Nat} {x : Value} (ht : OneT P t) (hc : w.cell? ⟨b, o, none⟩ = some x) :
    (loadVar t ⟨b, o, none⟩).run P w = .ok x w := by
  obtain ⟨⟨d, hd, hr⟩, hs⟩ := ht
  simp [loadVar, Sem.run_bind, run_isAgg hd, hr, run_load, hc]

/-! ## Stores -/

def setBlk (w : World) (b : Nat) (o : Obj) : World := { w with heap := w.heap.setIfInBounds b o }

theorem setBlk_same {b : Nat} {o : Obj} (h : b < w.heap.size) : (setBlk w b o).heap[b]? = some o := by simp [setBlk, h]
theorem setBlk_other {b b' : Nat} {o : Obj} (h : b' ≠ b) : (setBlk w b o).heap[b']? = w.heap[b']? := by
  simp only [setBlk]; rw [Array.getElem?_setIfInBounds_ne (Ne.symm h)]
@[simp] theorem setBlk_size {b : Nat} {o : Obj} : (setBlk w b o).heap.size = w.heap.size := by simp [setBlk]
theorem setBlk_setBlk {b : Nat} {o o' : Obj} : setBlk (setBlk w b o) b o' = setBlk w b o' := by simp [setBlk]

theorem setCell_blk {b i : Nat} {cur : Array Value} {T : TypeId} {fr : Nat × Nat} (h : w.heap[b]? = some (.cells cur T fr)) (v : Value) :
    w.setCell ⟨b, i, none⟩ v = setBlk w b (.cells (cur.setIfInBounds i v) T fr) := by
  obtain ⟨hb, he⟩ := Array.getElem?_eq_some_iff.1 h
  simp only [World.setCell, setBlk]
  congr 1
  apply Array.ext_getElem?
  intro k
  rw [Array.getElem?_modify, Array.getElem?_setIfInBounds]
  by_cases hk : b = k
  · subst hk
    simp [hb, he]
  · simp [hk]

theorem frozen_Fz {b i : Nat} {cur : Array Value} {T : TypeId} {fr : Nat × Nat} {n : Nat} (h : w.heap[b]? = some (.cells cur T fr)) (hf : Fz fr n) (hi : i < n) : w.frozen? ⟨b, i, none⟩ = false := by
  obtain ⟨lo, hi'⟩ := fr
  simp only [World.frozen?, h]
  rcases hf with hf | hf
  · simp only at hf
    by_cases h1 : lo ≤ i
    · simp; omega
    · simp [h1]
  · simp only at hf
    simp; omega

theorem run_storeCells {b o : Nat} {T : TypeId} {fr : Nat × Nat} : ∀ (vs : List Value) (i : Nat) (cur : Array Value) (w : World), w.heap[b]? = some (.cells cur T fr) → Fz fr cur.size → o + i + vs.length ≤ cur.size → One vs →
    (storeCells ⟨b, o, none⟩ vs i).run P w = .ok () (setBlk w b (.cells (cur.toList.take (o + i) ++ vs ++ cur.toList.drop (o + i + vs.length)).toArray T fr))
  | [], i, cur, w, h, hf, hl, h1 => by
    simp only [storeCells, Sem.run_pure, List.append_nil, List.length_nil, Nat.add_zero, List.take_append_drop, Array.toArray_toList]
    congr 1
    obtain ⟨hb, he⟩ := Array.getElem?_eq_some_iff.1 h
    unfold setBlk
    cases w with
    | mk heap tape drawn os output =>
      congr 1
      apply Array.ext_getElem?
      intro k
      rw [Array.getElem?_setIfInBounds]
      by_cases hk : b = k
      · subst hk; simp only [if_true]; rw [h]; simp [hb]
      · simp [hk]
  | v :: vs, i, cur, w, h, hf, hl, h1 => by
    have hlen : o + i < cur.size := by simp at hl; omega
    have hcell : w.cell? ⟨b, o + i, none⟩ = some cur[o + i] := by rw [cell_of_row w b (o + i) cur T fr h]; simp [hlen]
    have hfz := frozen_Fz h hf hlen
    have hv : v.oneCell' = true := h1 v (List.mem_cons_self ..)
    have hset : (setBlk w b (.cells (cur.setIfInBounds (o + i) v) T fr)).heap[b]? = some (.cells (cur.setIfInBounds (o + i) v) T fr) := setBlk_same (Array.getElem?_eq_some_iff.1 h).1
    have ih := run_storeCells (o := o) vs (i + 1) (cur.setIfInBounds (o + i) v) _ hset (by simpa using hf) (by simp at hl ⊢; omega) (fun x hx => h1 x (List.mem_cons_of_mem _ hx))
    simp only [storeCells, Sem.run_bind, Addr.add_mid, run_store P w _ v _ hv, hcell, hfz, Bool.false_eq_true, if_false, Result.andThen_ok, setCell_blk h, ih, setBlk_setBlk]
    congr 3
    have e1 : (cur.setIfInBounds (o + i) v).toList = cur.toList.set (o + i) v := by simp
    rw [e1]
    congr 1
    have e2 : List.take (o + (i + 1)) (cur.toList.set (o + i) v) = List.take (o + i) cur.toList ++ [v] := by
      rw [show o + (i + 1) = (o + i) + 1 by omega, List.take_succ_eq_append_getElem (by simpa using hlen)]
      rw [List.take_set_of_le (Nat.le_refl _)]
      simp
    have e3 : List.drop (o + (i + 1) + vs.length) (cur.toList.set (o + i) v) = List.drop (o + i + (v :: vs).length) cur.toList := by
      rw [List.drop_set_of_lt (by omega)]
      congr 1
      simp
      omega
    rw [e2, e3]
    simp

theorem run_storeVar_blk {t : TypeId} {b o s : Nat} {cur : Array Value} {T : TypeId} {fr : Nat × Nat} {v : Value} {vs : List Value} (hs : (P.info? t).map (·.size) = some s) (hv : v.cells = vs.toArray) (hl : vs.length = s)
    (h1 : One vs) (h : w.heap[b]? = some (.cells cur T fr)) (hf : Fz fr cur.size) (hfit : o + s ≤ cur.size) :
    (storeVar t ⟨b, o, none⟩ v).run P w = .ok () (setBlk w b (.cells (cur.toList.take o ++ vs ++ cur.toList.drop (o + s)).toArray T fr)) := by
  have hst := run_storeCells (P := P) (o := o) vs 0 cur w h hf (by omega) h1
  simp only [Nat.add_zero] at hst
  subst hl
  simp [storeVar, Sem.run_bind, run_sizeOf hs, hv, hst]


/-! ## Reading a slice -/

theorem lenOf_rd {v : Value} {es n c : Nat} {cs : List Value} (h : (rd v es n c cs).holds w) : (Builtin.lenOf v).run P w = .ok n w := by
  rcases h.2 with ⟨p, rfl, rfl, _⟩ | ⟨b, o, rfl, _⟩ <;> rfl

theorem firstCells_rd {v : Value} {es n c m : Nat} {cs : List Value} (h : (rd v es n c cs).holds w) (hm : m ≤ n) : (Builtin.firstCells es m v).run P w = .ok (cs.take (m * es)).toArray w := by
  obtain ⟨hl, ⟨p, rfl, rfl, _⟩ | ⟨b, o, rfl, h1, h2, h3⟩⟩ := h
  · have : m = 0 := by omega
    subst this
    cases p <;> simp [Builtin.firstCells, loadCells, loadCellsFrom]
  · have hle : m * es ≤ cs.length := by rw [hl]; exact Nat.mul_le_mul_right _ hm
    have hlen : (cs.take (m * es)).length = m * es := by simp [hle]
    have := run_loadCells_list (P := P) w ⟨b, o, none⟩ (cs.take (m * es)) (fun j x hx => by
      rw [Addr.add_mid]
      rw [List.getElem?_take] at hx
      split at hx
      · exact h3 j x hx
      · cases hx)
    rw [hlen] at this
    exact this

theorem firstCells_rd_all {v : Value} {es n c : Nat} {cs : List Value} (h : (rd v es n c cs).holds w) : (Builtin.firstCells es n v).run P w = .ok cs.toArray w := by
  have := firstCells_rd (P := P) h (Nat.le_refl n)
  rwa [List.take_of_length_le (by rw [h.1]; exact Nat.le_refl _)] at this

theorem alloc_old (w : World) (o : Obj) (b : Nat) (h : b < w.heap.size) : (w.alloc o).heap[b]? = w.heap[b]? := by
  show (w.heap.push o)[b]? = w.heap[b]?
  rw [Array.getElem?_push, if_neg (Nat.ne_of_lt h)]

/-! ## append -/

/-- A slice type, what it is of, how many cells and bytes an element has, and its zero. -/
structure SlT (P : Program) (t e es bytes : Nat) : Prop where
  und : P.underlying t = some (.slice e)
  size : (P.info? e).map (·.size) = some es
  bytes : (P.info? e).map (·.bytes) = some bytes
  zero : ∃ z, (P.info? e).bind (·.zero) = some z ∧ z.cells.size = es

theorem maxLen_eq : maxLen = 9223372036854775807 := rfl

structure Appended (w w' : World) (v v' : Value) (es n : Nat) (cs : List Value) : Prop where
  os : w'.os = w.os
  tape : w'.tape = w.tape
  output : w'.output = w.output
  size : w.heap.size ≤ w'.heap.size
  frame : ∀ b, b < w.heap.size → b ∉ valBlocks v → w'.heap[b]? = w.heap[b]?
  own : (own v' es n cs).holds w'
  new : ∀ b, b ∈ valBlocks v' → b ∈ valBlocks v ∨ w.heap.size ≤ b

theorem run_append {t xt e es bytes ty : Nat} (ht : SlT P t e es bytes) {v x : Value} {n m : Nat} {cs news : List Value} (hown : (own v es n cs).holds w)
    (hsrc : Src P es xt x m news w) (h63 : n + m ≤ maxLen) (hby : (n + m) * bytes ≤ 140737488355328) :
    ∃ v' w', (Builtin.append_ #[t, xt] ty #[v, x]).run P w = .ok v' w' ∧ Appended w w' v v' es (n + m) (cs ++ news) := by
  obtain ⟨hu, hs, hb, z, hz, hzs⟩ := ht
  obtain ⟨ie, hie⟩ : ∃ ie, P.info? e = some ie := by cases h : P.info? e with | none => simp [h] at hs | some i => exact ⟨i, rfl⟩
  simp only [hie, Option.map_some, Option.some.injEq, Option.bind_some] at hs hb hz
  subst hs; subst hb
  have hnl := hsrc.newsLen
  have hlen2 : (cs ++ news).length = (n + m) * ie.size := by rw [List.length_append, hown.1, hnl, Nat.add_mul]
  have grow : ∀ (base : Option Addr) (cap : Nat), v = .slice base n cap → cap < n + m → (Builtin.firstCells ie.size n v).run P w.drew = .ok cs.toArray w.drew →
      ∃ v' w', (Builtin.append_ #[t, xt] ty #[v, x]).run P w = .ok v' w' ∧ Appended w w' v v' ie.size (n + m) (cs ++ news) := by
    intro base cap hv hcap hold
    have hge := grownCap_ge w (n + m) cap e
    have hle := grownCap_le_maxLen w (n + m) cap e h63
    subst hv
    refine ⟨_, _, run_append_grow_src w t xt ty e ie z hu hie hz base n cap cs hold x m news hsrc hcap (by rw [maxLen_eq] at h63; omega) (growslice_fits hcap hby), ?_⟩
    refine ⟨rfl, rfl, rfl, by simp, fun b hb' _ => alloc_old w.drew _ b hb', ⟨hlen2, .inr ⟨w.heap.size, _, _, e, (0, 0), rfl, hge, hle, heap_alloc_new w.drew _, ?_, ?_, Fz.zero _⟩⟩, fun b hb' => ?_⟩
    · simp only [Array.size_append, List.size_toArray, size_zeroCells, hzs, hlen2, ← Nat.add_mul]
      congr 1; omega
    · simp only [Array.toList_append]
      rw [← hlen2]
      exact List.take_left
    · simp [valBlocks] at hb'; right; omega
  rcases hown.2 with ⟨rfl, rfl⟩ | ⟨b, cap, cur, T, fr, rfl, h1, h2, h3, h4, h5, h6⟩
  · have hcs : cs = [] := List.eq_nil_of_length_eq_zero (by simpa using hown.1)
    subst hcs
    by_cases hm : m = 0
    · subst hm
      have hn0 : news = [] := List.eq_nil_of_length_eq_zero (by simpa using hnl)
      subst hn0
      refine ⟨.slice none 0 0, w, ?_, rfl, rfl, rfl, Nat.le_refl _, fun _ _ _ => rfl, hown, fun b hb => .inl hb⟩
      rcases hsrc.kind with ⟨e', hk⟩ | hk <;> simp [Builtin.append_, run_underlying hu, run_underlying hk, sizeOf, typeInfo, hie, hsrc.len, hsrc.cells]
    · exact grow none 0 rfl (by omega) (by simp [Builtin.firstCells])
  · by_cases hroom : n + m ≤ cap
    · have hfit : n * ie.size + 0 + news.length ≤ cur.size := by
        rw [hnl, h4, Nat.add_zero, ← Nat.add_mul]; exact Nat.mul_le_mul_right _ hroom
      have hst := run_storeCells (P := P) (o := n * ie.size) news 0 cur w h3 h6 hfit hsrc.one
      simp only [Nat.add_zero] at hst hfit
      have hb := (Array.getElem?_eq_some_iff.1 h3).1
      have hcl : (List.take (n * ie.size) cur.toList).length = n * ie.size := by rw [h5]; exact hown.1
      refine ⟨.slice (some ⟨b, 0, none⟩) (n + m) cap, setBlk w b (.cells (List.take (n * ie.size) cur.toList ++ news ++ List.drop (n * ie.size + news.length) cur.toList).toArray T fr), ?_, rfl, rfl, rfl, by simp, fun b' hb' hne => ?_, ⟨hlen2, .inr ⟨b, cap, _, T, fr, rfl, hroom, h2, setBlk_same hb, ?_, ?_, ?_⟩⟩, fun b' hb' => .inl hb'⟩
      · rcases hsrc.kind with ⟨e', hk⟩ | hk <;> simp [Builtin.append_, run_underlying hu, run_underlying hk, sizeOf, typeInfo, hie, hsrc.len, hroom, hsrc.cells, Addr.add_mid, hst]
      · exact setBlk_other (fun e => hne (by simp [valBlocks, e]))
      · simp only [List.size_toArray, List.length_append, List.length_take, List.length_drop, Array.length_toList]
        omega
      · rw [h5]
        rw [← hlen2]
        exact List.take_left
      · have : (List.take (n * ie.size) cur.toList ++ news ++ List.drop (n * ie.size + news.length) cur.toList).toArray.size = cur.size := by
          simp only [List.size_toArray, List.length_append, List.length_take, List.length_drop, Array.length_toList]; omega
        rw [this]; exact h6
    · refine grow _ cap rfl (by omega) ?_
      obtain ⟨c, hrd⟩ := own_rd hown
      have hrd' : (rd (.slice (some ⟨b, 0, none⟩) n cap) ie.size n c cs).holds w.drew := hrd
      exact firstCells_rd_all hrd'

/-- append, in memory: the old slice is let go, the new one is owned. -/
theorem Mem.append {v v' : Value} {es n n' : Nat} {cs cs' : List Value} (hM : Mem w0 M w (own v es n cs :: H)) (h : Appended w w' v v' es n' cs') : Mem w0 M w' (own v' es n' cs' :: H) :=
  Mem.act (es := [own v es n cs]) (es' := [own v' es n' cs']) hM h.os h.tape h.output h.size
    (fun b hb hne => h.frame b hb (hne _ (List.mem_cons_self ..)))
    (fun e he => by rw [List.mem_singleton.1 he]; exact h.own)
    (fun e he b hb => by
      rw [List.mem_singleton.1 he] at hb
      exact (h.new b hb).imp (fun h => ⟨_, List.mem_cons_self .., h⟩) id)
    (fun e he b hb => by rw [List.mem_singleton.1 he] at hb; cases hb)
    (fun e he b hb => by rw [List.mem_singleton.1 he] at hb; cases hb)
    (List.pairwise_singleton ..)

theorem Src.rd {v : Value} {es n c xt e : Nat} {cs : List Value} (hx : P.underlying xt = some (.slice e)) (h : (rd v es n c cs).holds w) (h1 : One cs) : Src P es xt v n cs w where
  kind := .inl ⟨_, hx⟩
  len w' := by rcases h.2 with ⟨p, rfl, rfl, _⟩ | ⟨b, o, rfl, _⟩ <;> rfl
  cells := firstCells_rd_all h
  cellsD := firstCells_rd_all (w := w.drew) h
  newsLen := h.1
  one := h1

/-- A slice that has no room: append makes a new one. -/
theorem own_of_new (w : World) (cs : List Value) (es n cap : Nat) (T : TypeId) (cur : Array Value) (hl : cs.length = n * es) (h1 : n ≤ cap) (h2 : cap ≤ maxLen) (h3 : cur.size = cap * es) (h4 : cur.toList.take (n * es) = cs) :
    (own (.slice (some ⟨w.heap.size, 0, none⟩) n cap) es n cs).holds (w.alloc (.cells cur T)) :=
  ⟨hl, .inr ⟨w.heap.size, cap, cur, T, (0, 0), rfl, h1, h2, heap_alloc_new w _, h3, h4, Fz.zero _⟩⟩

end Go.Kx
/- Own library, part E: the steps of a walk, one a kind of operation. -/
namespace Go.Kx
open Go
variable {P : Program} {ops : Array Oper} {D : Option (Nat → Prop)} {Q : Exit → Act → World → Prop} {w0 w w' : World} {M : List Nat} {H H' : List Ent}
  {a : Act} {n : Nat} {L : List (Nat × Value)} {rest : List (Bool × Oper)} {d : Nat} {ty : TypeId} {pos : String} {aft : Array Edge} {x y z : Operand} {u v r : Value}

theorem blt_lt {i j : Nat} (h : Nat.blt i j = true) : i < j := by
  have : (Nat.blt i j = true) = (i < j) := Nat.blt_eq
  rwa [this] at h

/-! ## Guards -/

theorem yielded_of {j t : Nat} {b : Bool} (hE : Env a n L) (hj : (ops[j]?).bind (·.dst) = some t) (hl : lk t L = some (.bool b)) : yielded ops a.tmps j = some b := by
  unfold yielded
  rw [hj]
  simp [hE.at_ t _ hl]

theorem g_yes {f : Bool} {dst : Option Tmp} {op : Op} {j t : Nat} {b : Bool} (hE : Env a n L) (hj : (ops[j]?).bind (·.dst) = some t) (hl : lk t L = some (.bool b))
    (k : wpL P ops D Q ((f, ⟨dst, op, ty, pos, aft, none⟩) :: rest) a w) : wpL P ops D Q ((f, ⟨dst, op, ty, pos, aft, some (j, b)⟩) :: rest) a w := by
  have hw : Region.wanted ⟨dst, op, ty, pos, aft, some (j, b)⟩ (yielded ops a.tmps) = true := by simp [Region.wanted, yielded_of hE hj hl]
  simp only [wpL] at k ⊢
  rw [if_pos hw]
  rw [if_pos (by simp [Region.wanted])] at k
  exact k

theorem g_no {f : Bool} {op : Op} {j t : Nat} {b : Bool} (hE : Env a n L) (hj : (ops[j]?).bind (·.dst) = some t) (hl : lk t L = some (.bool b)) (hn : Nat.blt d n = true)
    (k : ∀ a', Env a' n ((d, undef) :: L) → wpL P ops D Q rest a' w) : wpL P ops D Q ((f, ⟨some d, op, ty, pos, aft, some (j, !b)⟩) :: rest) a w := by
  have hw : Region.wanted ⟨some d, op, ty, pos, aft, some (j, !b)⟩ (yielded ops a.tmps) = false := by simp [Region.wanted, yielded_of hE hj hl]
  simp only [wpL]
  rw [if_neg (by simp [hw])]
  exact k _ (hE.put _ (blt_lt hn))

theorem yielded_und {j t : Nat} (hE : Env a n L) (hj : (ops[j]?).bind (·.dst) = some t) (hl : lk t L = some undef) : yielded ops a.tmps j = none := by
  unfold yielded
  rw [hj]
  simp [hE.at_ t _ hl, undef]

theorem g_und {f b : Bool} {op : Op} {j t : Nat} (hE : Env a n L) (hj : (ops[j]?).bind (·.dst) = some t) (hl : lk t L = some undef) (hn : Nat.blt d n = true)
    (k : ∀ a', Env a' n ((d, undef) :: L) → wpL P ops D Q rest a' w) : wpL P ops D Q ((f, ⟨some d, op, ty, pos, aft, some (j, b)⟩) :: rest) a w := by
  have hw : Region.wanted ⟨some d, op, ty, pos, aft, some (j, b)⟩ (yielded ops a.tmps) = false := by simp [Region.wanted, yielded_und hE hj hl]
  simp only [wpL]
  rw [if_neg (by simp [hw])]
  exact k _ (hE.put _ (blt_lt hn))

/-! ## Operations that float -/

theorem s_val {op : Op} (hE : Env a n L) (hn : Nat.blt d n = true) (hf : Flo P D (execOp a.eval ⟨some d, op, ty, pos, aft, none⟩) v w)
    (k : ∀ a', Env a' n ((d, v) :: L) → wpL P ops D Q rest a' w) : wpL P ops D Q ((true, ⟨some d, op, ty, pos, aft, none⟩) :: rest) a w := by
  simp only [wpL]
  rw [if_pos (by simp [Region.wanted])]
  exact ⟨v, hf, k _ (hE.put _ (blt_lt hn))⟩

theorem s_move (hE : Env a n L) (hx : ev L x = some v) (hn : Nat.blt d n = true) (k : ∀ a', Env a' n ((d, v) :: L) → wpL P ops D Q rest a' w) :
    wpL P ops D Q ((true, ⟨some d, .move x, ty, pos, aft, none⟩) :: rest) a w :=
  s_val hE hn (Flo.of_all (fun w => by simp [execOp, hE.eval hx]) w) k

theorem s_assign (hE : Env a n L) (hx : ev L x = some v) (hn : Nat.blt d n = true) (k : ∀ a', Env a' n ((d, v) :: L) → wpL P ops D Q rest a' w) :
    wpL P ops D Q ((true, ⟨some d, .assign x, ty, pos, aft, none⟩) :: rest) a w :=
  s_val hE hn (Flo.of_all (fun w => by simp [execOp, hE.eval hx]) w) k

theorem s_pickt (hE : Env a n L) (hx : ev L x = some (.bool true)) (hy : ev L y = some v) (hn : Nat.blt d n = true) (k : ∀ a', Env a' n ((d, v) :: L) → wpL P ops D Q rest a' w) :
    wpL P ops D Q ((true, ⟨some d, .pick x y z, ty, pos, aft, none⟩) :: rest) a w :=
  s_val hE hn (Flo.of_all (fun w => by simp [execOp, hE.eval hx, hE.eval hy, asBool]) w) k

theorem s_pickf (hE : Env a n L) (hx : ev L x = some (.bool false)) (hz : ev L z = some v) (hn : Nat.blt d n = true) (k : ∀ a', Env a' n ((d, v) :: L) → wpL P ops D Q rest a' w) :
    wpL P ops D Q ((true, ⟨some d, .pick x y z, ty, pos, aft, none⟩) :: rest) a w :=
  s_val hE hn (Flo.of_all (fun w => by simp [execOp, hE.eval hx, hE.eval hz, asBool]) w) k

theorem s_extract {vs : Array Value} {i : Nat} (hE : Env a n L) (hx : ev L x = some (.tuple vs)) (hi : vs[i]? = some v) (hn : Nat.blt d n = true) (k : ∀ a', Env a' n ((d, v) :: L) → wpL P ops D Q rest a' w) :
    wpL P ops D Q ((true, ⟨some d, .extract x i, ty, pos, aft, none⟩) :: rest) a w :=
  s_val hE hn (Flo.of_all (fun w => by simp [execOp, hE.eval hx, Instr.extract, hi]) w) k

theorem s_nilCheck {ad : Addr} (hE : Env a n L) (hx : ev L x = some (.pointer (some ad))) (hn : Nat.blt d n = true) (k : ∀ a', Env a' n ((d, .pointer (some ad)) :: L) → wpL P ops D Q rest a' w) :
    wpL P ops D Q ((true, ⟨some d, .nilCheck x, ty, pos, aft, none⟩) :: rest) a w :=
  s_val hE hn (Flo.of_all (fun w => by simp [execOp, hE.eval hx]) w) k

theorem s_not {b : Bool} {t : TypeId} (hE : Env a n L) (hx : ev L x = some (.bool b)) (hn : Nat.blt d n = true) (k : ∀ a', Env a' n ((d, .bool (!b)) :: L) → wpL P ops D Q rest a' w) :
    wpL P ops D Q ((true, ⟨some d, .unOp .not t x, ty, pos, aft, none⟩) :: rest) a w :=
  s_val hE hn (Flo.of_all (fun w => by simp [execOp, hE.eval hx, Op.unary]) w) k

theorem s_makeFunc {fn : Fn} {f c : Array Operand} (hE : Env a n L) (hn : Nat.blt d n = true) (k : ∀ a', Env a' n ((d, .func fn (f.map a.eval) (c.map a.eval)) :: L) → wpL P ops D Q rest a' w) :
    wpL P ops D Q ((true, ⟨some d, .makeFunc fn f c, ty, pos, aft, none⟩) :: rest) a w :=
  s_val hE hn (Flo.of_all (fun w => by simp [execOp, Instr.makeFunc]) w) k

/-- What an operation of two operands gives. -/
def Bin (P : Program) (op : BinOp) (t : TypeId) (u v r : Value) : Prop := ∀ (x y : Operand) (w : World), (do eqGuard op t x y u v; binOp op t u v : Sem Value).run P w = .ok r w

theorem s_bin {op : BinOp} {t t' : TypeId} (hE : Env a n L) (hx : ev L x = some u) (hy : ev L y = some v) (hb : Bin P op t u v r) (hn : Nat.blt d n = true)
    (k : ∀ a', Env a' n ((d, r) :: L) → wpL P ops D Q rest a' w) : wpL P ops D Q ((true, ⟨some d, .binOp op t x y t', ty, pos, aft, none⟩) :: rest) a w :=
  s_val hE hn (Flo.of_all (fun w => by
    have := hb x y w
    simp only [execOp, hE.eval hx, hE.eval hy]
    rw [Sem.run_bind, this]; rfl) w) k

theorem bin_of {op : BinOp} {t : TypeId} (hg : (op matches .eql | .neq) = false) (h : ∀ w, (binOp op t u v).run P w = .ok r w) : Bin P op t u v r := fun x y w => by
  have : (eqGuard op t x y u v).run P w = .ok () w := by
    unfold eqGuard
    cases op <;> first | rfl | (simp at hg; done)
  rw [Sem.run_bind, this]; exact h w

theorem bin_eq {op : BinOp} {t : TypeId} (h1 : ∀ c, u ≠ .agg c) (h2 : u ≠ .nilIface) (h : ∀ w, (binOp op t u v).run P w = .ok r w) : Bin P op t u v r := fun x y w => by
  have : (eqGuard op t x y u v).run P w = .ok () w := by
    unfold eqGuard
    cases op <;> first | rfl | (cases u <;> first | rfl | exact absurd rfl h2 | exact absurd rfl (h1 _))
  rw [Sem.run_bind, this]; exact h w

section ints
variable {k : IntKind} {i j q : Int} {t : TypeId}

theorem bin_add (h : k.wrap (i + j) = q) : Bin P .add t (.int k i) (.int k j) (.int k q) := bin_of rfl fun w => by simp [binOp, Op.intArith, h]
theorem bin_sub (h : k.wrap (i - j) = q) : Bin P .sub t (.int k i) (.int k j) (.int k q) := bin_of rfl fun w => by simp [binOp, Op.intArith, h]
theorem bin_mul (h : k.wrap (i * j) = q) : Bin P .mul t (.int k i) (.int k j) (.int k q) := bin_of rfl fun w => by simp [binOp, Op.intArith, h]
theorem bin_quo (h0 : j ≠ 0) (h : k.wrap (i.tdiv j) = q) : Bin P .quo t (.int k i) (.int k j) (.int k q) := bin_of rfl fun w => by simp [binOp, Op.intDiv, h0, h]
theorem bin_rem (h0 : j ≠ 0) (h : i.tmod j = q) : Bin P .rem t (.int k i) (.int k j) (.int k q) := bin_of rfl fun w => by simp [binOp, Op.intDiv, h0, h]
theorem bin_lss : Bin P .lss t (.int k i) (.int k j) (.bool (decide (i < j))) := bin_of rfl fun w => by simp [binOp, Op.intCmp]
theorem bin_leq : Bin P .leq t (.int k i) (.int k j) (.bool (decide (i ≤ j))) := bin_of rfl fun w => by simp [binOp, Op.intCmp]
theorem bin_gtr : Bin P .gtr t (.int k i) (.int k j) (.bool (decide (j < i))) := bin_of rfl fun w => by simp [binOp, Op.intCmp]
theorem bin_geq : Bin P .geq t (.int k i) (.int k j) (.bool (decide (j ≤ i))) := bin_of rfl fun w => by simp [binOp, Op.intCmp]
theorem bin_eql : Bin P .eql t (.int k i) (.int k j) (.bool (decide (i = j))) := bin_eq (fun _ h => by cases h) (fun h => by cases h) fun w => by simp [binOp, Op.intCmp]; rfl
theorem bin_neq : Bin P .neq t (.int k i) (.int k j) (.bool (!decide (i = j))) := bin_eq (fun _ h => by cases h) (fun h => by cases h) fun w => by simp [binOp, Op.intCmp]; rfl

theorem wrap_i64 (h1 : -9223372036854775808 ≤ q) (h2 : q ≤ 9223372036854775807) : IntKind.i64.wrap q = q := IntWalk.i64_in q ⟨h1, h2⟩
theorem wrap_u64 (h1 : 0 ≤ q) (h2 : q ≤ 18446744073709551615) : IntKind.u64.wrap q = q := IntWalk.u64_in q ⟨h1, h2⟩
end ints

theorem bin_equal {t : TypeId} {b : Bool} (h1 : ∀ c, u ≠ .agg c) (h2 : u ≠ .nilIface) (he : ∀ w, (binOp .eql t u v).run P w = ((Op.equal t u v).run P w).andThen fun b w => .ok (.bool b) w)
    (hn : ∀ w, (binOp .neq t u v).run P w = ((Op.equal t u v).run P w).andThen fun b w => .ok (.bool (!b)) w) (h : ∀ d w, (Op.equalIn (d + 1) t u v).run P w = .ok b w) :
    Bin P .eql t u v (.bool b) ∧ Bin P .neq t u v (.bool (!b)) := by
  have h' : ∀ w, (Op.equal t u v).run P w = .ok b w := fun w => h 9999 w
  exact ⟨bin_eq h1 h2 fun w => by rw [he, h']; rfl, bin_eq h1 h2 fun w => by rw [hn, h']; rfl⟩

theorem bins_ptr_nil {t e : TypeId} {ad : Addr} (ht : P.underlying t = some (.pointer e)) : Bin P .eql t (.pointer (some ad)) (.pointer none) (.bool false) ∧ Bin P .neq t (.pointer (some ad)) (.pointer none) (.bool true) :=
  bin_equal (fun _ h => by cases h) (fun h => by cases h) (fun w => Sem.run_bind' P _ _ w) (fun w => Sem.run_bind' P _ _ w) fun d w => by simp [Op.equalIn, run_underlying ht]

theorem bins_nil_nil {t e : TypeId} (ht : P.underlying t = some (.pointer e)) : Bin P .eql t (.pointer none) (.pointer none) (.bool true) ∧ Bin P .neq t (.pointer none) (.pointer none) (.bool false) :=
  bin_equal (fun _ h => by cases h) (fun h => by cases h) (fun w => Sem.run_bind' P _ _ w) (fun w => Sem.run_bind' P _ _ w) fun d w => by simp [Op.equalIn, run_underlying ht]

/-- What a conversion that floats gives. -/
def Cnv (P : Program) (src dst : TypeId) (u r : Value) : Prop := ∀ w : World, (convert src dst u).run P w = .ok r w

theorem s_conv {src dst : TypeId} (hE : Env a n L) (hx : ev L x = some u) (hb : Cnv P src dst u r) (hn : Nat.blt d n = true)
    (k : ∀ a', Env a' n ((d, r) :: L) → wpL P ops D Q rest a' w) : wpL P ops D Q ((true, ⟨some d, .convert src dst x, ty, pos, aft, none⟩) :: rest) a w :=
  s_val hE hn (Flo.of_all (fun w => by
    have := hb w
    simp only [execOp, hE.eval hx]
    rw [Sem.run_bind, this]; rfl) w) k

theorem cnv_int {src dst : TypeId} {ds : TypeDesc} {k k' : IntKind} {i q : Int} (hs : P.underlying src = some ds) (hd : P.underlying dst = some (.int k)) (h : k.wrap i = q) : Cnv P src dst (.int k' i) (.int k q) := fun w => by
  simp [convert, run_underlying hs, run_underlying hd, Conv.intToInt, h]

/-! ## Addresses -/

/-- Where a field lies. -/
def fieldOff (P : Program) (s i : Nat) : Option Nat :=
  match P.underlying s with
  | some (.struct fs) => match fs[i]? with
    | some f => if (P.info? f.type).map (·.size) = some 0 then none else if (P.info? f.type).isSome then some f.offset else none
    | none => none
  | _ => none

theorem run_fieldAt {s i o b off : Nat} (h : fieldOff P s i = some o) (w : World) : (Instr.fieldAt s (.pointer (some ⟨b, off, none⟩)) i).run P w = .ok (.pointer (some ⟨b, off + o, none⟩)) w := by
  unfold fieldOff at h
  cases hu : P.underlying s with
  | none => simp [hu] at h
  | some dsc =>
    rw [hu] at h
    cases dsc <;> simp only at h <;> try (cases h; done)
    rename_i fs
    cases hf : fs[i]? with
    | none => simp [hf] at h
    | some f =>
      simp only [hf] at h
      cases hi : P.info? f.type with
      | none => simp [hi] at h
      | some inf =>
        simp only [hi, Option.map_some, Option.isSome_some, if_true] at h
        split at h
        · cases h
        · rename_i hne
          cases h
          have hsz : ¬ inf.size = 0 := by simpa using hne
          simp [Instr.fieldAt, run_underlying hu, hf, Instr.sureAddr, fieldPlace, sizeOf, typeInfo, hi, hsz, Addr.add_mid]

theorem s_fieldAddr {s i o b off : Nat} (hE : Env a n L) (hx : ev L x = some (.pointer (some ⟨b, off, none⟩))) (ho : fieldOff P s i = some o) (hn : Nat.blt d n = true)
    (k : ∀ a', Env a' n ((d, .pointer (some ⟨b, off + o, none⟩)) :: L) → wpL P ops D Q rest a' w) : wpL P ops D Q ((true, ⟨some d, .fieldAddr s x i, ty, pos, aft, none⟩) :: rest) a w :=
  s_val hE hn (Flo.of_all (fun w => by simp [execOp, hE.eval hx, run_fieldAt ho]) w) k

/-- An array's type: how many elements, of how many cells each. -/
def arrT (P : Program) (t : Nat) : Option (Nat × Nat) :=
  match P.underlying t with
  | some (.array l e) => (P.info? e).map fun i => (l, i.size)
  | _ => none

theorem arrT_spec {t l es : Nat} (h : arrT P t = some (l, es)) : ∃ e, P.underlying t = some (.array l e) ∧ (P.info? e).map (·.size) = some es := by
  unfold arrT at h
  cases hu : P.underlying t with
  | none => simp [hu] at h
  | some dsc =>
    rw [hu] at h
    cases dsc <;> simp only at h <;> try (cases h; done)
    rename_i l' e
    cases hi : P.info? e with
    | none => simp [hi] at h
    | some inf => simp [hi] at h; exact ⟨e, by simp [h.1], by simp [hi, h.2]⟩

theorem s_indexArr {t l es b off j : Nat} {i : Int} {k' : IntKind} (hE : Env a n L) (hx : ev L x = some (.pointer (some ⟨b, off, none⟩))) (hy : ev L y = some (.int k' i)) (ht : arrT P t = some (l, es))
    (hi : i = (j : Int)) (hj : j < l) (hn : Nat.blt d n = true)
    (k : ∀ a', Env a' n ((d, .pointer (some ⟨b, off + j * es, none⟩)) :: L) → wpL P ops D Q rest a' w) : wpL P ops D Q ((true, ⟨some d, .indexAddr t x y, ty, pos, aft, none⟩) :: rest) a w := by
  obtain ⟨e, hu, hs⟩ := arrT_spec ht
  subst hi
  refine s_val hE hn (Flo.of_all (fun w => ?_) w) k
  have h1 : (0 : Int) ≤ j ∧ (j : Int) < l := ⟨by omega, by omega⟩
  simp [execOp, hE.eval hx, hE.eval hy, Instr.indexAt, asIntOf, run_underlying hu, Instr.sureAddr, h1, run_sizeOf hs, Addr.add_mid]
  intro h; omega

/-- A slice type: of how many cells an element is. -/
def slT (P : Program) (t : Nat) : Option Nat :=
  match P.underlying t with
  | some (.slice e) => (P.info? e).map (·.size)
  | _ => none

theorem slT_spec {t es : Nat} (h : slT P t = some es) : ∃ e, P.underlying t = some (.slice e) ∧ (P.info? e).map (·.size) = some es := by
  unfold slT at h
  cases hu : P.underlying t with
  | none => simp [hu] at h
  | some dsc =>
    rw [hu] at h
    cases dsc <;> simp only at h <;> try (cases h; done)
    rename_i e
    exact ⟨e, rfl, h⟩

/-- An element of a slice that is read. -/
theorem s_indexRd {t es j m c : Nat} {i : Int} {k' : IntKind} {cs : List Value} (hE : Env a n L) (hx : ev L x = some v) (hr : (rd v es m c cs).holds w) (hy : ev L y = some (.int k' i)) (ht : slT P t = some es)
    (hi : i = (j : Int)) (hj : j < m) (hn : Nat.blt d n = true)
    (k : ∀ a' p, Env a' n ((d, p) :: L) → (cellsAt p ((cs.drop (j * es)).take es)).holds w → (∀ b, b ∈ valBlocks p → b ∈ rdB v c) → wpL P ops D Q rest a' w) : wpL P ops D Q ((true, ⟨some d, .indexAddr t x y, ty, pos, aft, none⟩) :: rest) a w := by
  obtain ⟨e, hu, hs⟩ := slT_spec ht
  subst hi
  rcases hr with ⟨hl, ⟨p, rfl, rfl, _⟩ | ⟨b, o, rfl, h1, h2, h3⟩⟩
  · omega
  · refine s_val hE hn (v := .pointer (some ⟨b, o + j * es, none⟩)) (Flo.of_all (fun w => ?_) w) (fun a' hE' => k a' _ hE' ⟨b, o + j * es, rfl, h2, fun i x hx => ?_⟩ (fun y hy => by simp only [rdB, if_neg (show ¬ c = 0 by omega)]; exact hy))
    · have h1 : (0 : Int) ≤ j ∧ (j : Int) < m := ⟨by omega, by omega⟩
      simp [execOp, hE.eval hx, hE.eval hy, Instr.indexAt, asIntOf, run_underlying hu, h1, run_sizeOf hs, Addr.add_mid]
      intro h; omega
    · rw [List.getElem?_take] at hx
      split at hx
      · rw [List.getElem?_drop] at hx
        have := h3 _ x hx
        rwa [← Nat.add_assoc] at this
      · cases hx

/-! ## Loads -/

theorem Flo.load {t : TypeId} {p : Value} {f : Ent} (hE : Env a n L) (hx : ev L x = some p) (hf : f.holds w) (hX : ∀ X, D = some X → ∀ b, b ∈ f.fp ∨ b ∈ f.ro → ¬ X b)
    (h : ∀ w', f.holds w' → (Instr.loadAt t p).run P w' = .ok v w') : Flo P D (execOp a.eval ⟨some d, .load t x, ty, pos, aft, none⟩) v w := by
  have h2 : ∀ w', f.holds w' → (execOp a.eval ⟨some d, .load t x, ty, pos, aft, none⟩).run P w' = .ok (.value v) w' := fun w' hw' => by
    simp only [execOp, hE.eval hx]
    rw [Sem.run_bind, h w' hw']; rfl
  refine ⟨h2 w hf, fun X hD w' hs => h2 w' (f.loc w w' hf fun b hb => ?_)⟩
  subst hD
  exact hs.2 b (f.old w hf b hb) (hX X rfl b hb)

/-- A load of one cell, at an address whose cells are known. -/
theorem s_loadAt1 {t : TypeId} {p : Value} (hE : Env a n L) (hx : ev L x = some p) (hc : (cellsAt p [v]).holds w) (ht : OneT P t) (hX : ∀ X, D = some X → ∀ b, b ∈ valBlocks p → ¬ X b) (hn : Nat.blt d n = true)
    (k : ∀ a', Env a' n ((d, v) :: L) → wpL P ops D Q rest a' w) : wpL P ops D Q ((true, ⟨some d, .load t x, ty, pos, aft, none⟩) :: rest) a w :=
  s_val hE hn (Flo.load hE hx hc (fun X hD b hb => hX X hD b (by simpa [cellsAt] using hb)) (fun w' h => by
    obtain ⟨b, o, rfl, h2, h3⟩ := h
    have := h3 0 v rfl
    simp only [Instr.loadAt, Instr.sureAddr, Sem.run_bind, Sem.run_pure, Result.andThen_ok]
    exact run_loadVar_one ht (by simpa using this))) k

/-- A load of a row, at an address whose cells are known. -/
theorem s_loadAtN {t : TypeId} {p : Value} {cs : List Value} (hE : Env a n L) (hx : ev L x = some p) (hc : (cellsAt p cs).holds w) (ht : RowT P t cs.length) (hX : ∀ X, D = some X → ∀ b, b ∈ valBlocks p → ¬ X b) (hn : Nat.blt d n = true)
    (k : ∀ a', Env a' n ((d, .agg cs.toArray) :: L) → wpL P ops D Q rest a' w) : wpL P ops D Q ((true, ⟨some d, .load t x, ty, pos, aft, none⟩) :: rest) a w :=
  s_val hE hn (Flo.load hE hx hc (fun X hD b hb => hX X hD b (by simpa [cellsAt] using hb)) (fun w' h => by
    obtain ⟨b, o, rfl, h2, h3⟩ := h
    simp only [Instr.loadAt, Instr.sureAddr, Sem.run_bind, Sem.run_pure, Result.andThen_ok]
    exact run_loadVar_row' ht h3)) k

/-- The cells from o on, s of them, where they are whole parts. -/
def rdSeg : Nat → Nat → List (List Value) → List Nat → Option (List Value)
  | 0, s, g :: ss, m :: ns => cond (Nat.beq s m) (some g) (cond (Nat.blt m s) ((rdSeg 0 (s - m) ss ns).map (g ++ ·)) none)
  | o + 1, s, _ :: ss, m :: ns => cond (Nat.ble m (o + 1)) (rdSeg (o + 1 - m) s ss ns) none
  | _, _, _, _ => none

theorem rdSeg_spec : ∀ {ss : List (List Value)} {ns : List Nat} {o s : Nat} {cs : List Value}, ss.map List.length = ns → rdSeg o s ss ns = some cs → cs.length = s ∧ ∀ (i : Nat) (x : Value), cs[i]? = some x → ss.flatten[o + i]? = some x
  | [], ns, o, s, cs, _, h => by cases o <;> simp [rdSeg] at h
  | g :: ss, [], o, s, cs, hm, _ => by simp at hm
  | g :: ss, m :: ns, 0, s, cs, hm, h => by
    simp only [List.map_cons, List.cons.injEq] at hm
    obtain ⟨hg, hm⟩ := hm
    simp only [rdSeg] at h
    cases h1 : Nat.beq s m with
    | true =>
      rw [h1, cond_true] at h
      cases h
      have := Nat.eq_of_beq_eq_true h1
      refine ⟨by omega, fun i x hx => ?_⟩
      have hlt := (List.getElem?_eq_some_iff.1 hx).1
      simp only [List.flatten_cons, Nat.zero_add]
      rw [List.getElem?_append_left hlt]; exact hx
    | false =>
      rw [h1, cond_false] at h
      cases h2 : Nat.blt m s with
      | false => rw [h2, cond_false] at h; cases h
      | true =>
        rw [h2, cond_true] at h
        have h2' : m < s := blt_lt h2
        cases hr : rdSeg 0 (s - m) ss ns with
        | none => rw [hr] at h; cases h
        | some cs' =>
          rw [hr] at h
          simp only [Option.map_some, Option.some.injEq] at h
          subst h
          obtain ⟨ih1, ih2⟩ := rdSeg_spec hm hr
          refine ⟨by simp; omega, fun i x hx => ?_⟩
          simp only [List.flatten_cons, Nat.zero_add]
          rw [List.getElem?_append] at hx ⊢
          split at hx
          · rename_i hlt; rw [if_pos hlt]; exact hx
          · rename_i hlt; rw [if_neg hlt]
            have := ih2 _ x hx
            rwa [Nat.zero_add] at this
  | g :: ss, m :: ns, o + 1, s, cs, hm, h => by
    simp only [List.map_cons, List.cons.injEq] at hm
    obtain ⟨hg, hm⟩ := hm
    simp only [rdSeg] at h
    cases h1 : Nat.ble m (o + 1) with
    | false => rw [h1, cond_false] at h; cases h
    | true =>
      rw [h1, cond_true] at h
      have h1' : m ≤ o + 1 := Nat.le_of_ble_eq_true h1
      obtain ⟨ih1, ih2⟩ := rdSeg_spec hm h
      refine ⟨ih1, fun i x hx => ?_⟩
      simp only [List.flatten_cons]
      rw [List.getElem?_append_right (by omega), hg]
      have := ih2 i x hx
      rwa [show o + 1 + i - m = o + 1 - m + i by omega]

theorem cellsAt_blk {b o s T : Nat} {ss : List (List Value)} {ns : List Nat} {cs : List Value} (h : (blk b ss ns T).holds w) (hs : rdSeg o s ss ns = some cs) : (cellsAt (.pointer (some ⟨b, o, none⟩)) cs).holds w := by
  obtain ⟨hm, fr, hh, hf⟩ := h
  obtain ⟨_, h2⟩ := rdSeg_spec hm hs
  refine ⟨b, o, rfl, (Array.getElem?_eq_some_iff.1 hh).1, fun i x hx => ?_⟩
  rw [cell_of_row w b (o + i) _ T fr hh]
  simpa using h2 i x hx

/-- A load of one cell out of a block that is known. -/
theorem s_load1 {t b o T : Nat} {ss : List (List Value)} {ns : List Nat} (hE : Env a n L) (hx : ev L x = some (.pointer (some ⟨b, o, none⟩))) (hB : (blk b ss ns T).holds w) (hs : rdSeg o 1 ss ns = some [v]) (ht : OneT P t)
    (hX : ∀ X, D = some X → ¬ X b) (hn : Nat.blt d n = true) (k : ∀ a', Env a' n ((d, v) :: L) → wpL P ops D Q rest a' w) : wpL P ops D Q ((true, ⟨some d, .load t x, ty, pos, aft, none⟩) :: rest) a w :=
  s_loadAt1 hE hx (cellsAt_blk hB hs) ht (fun X hD b' hb => by simp [valBlocks] at hb; subst hb; exact hX X hD) hn k

/-- A load of a row out of a block that is known. -/
theorem s_loadN {t b o s T : Nat} {ss : List (List Value)} {ns : List Nat} {cs : List Value} (hE : Env a n L) (hx : ev L x = some (.pointer (some ⟨b, o, none⟩))) (hB : (blk b ss ns T).holds w) (ht : RowT P t s) (hs : rdSeg o s ss ns = some cs)
    (hX : ∀ X, D = some X → ¬ X b) (hn : Nat.blt d n = true) (k : ∀ a', Env a' n ((d, .agg cs.toArray) :: L) → wpL P ops D Q rest a' w) : wpL P ops D Q ((true, ⟨some d, .load t x, ty, pos, aft, none⟩) :: rest) a w :=
  s_loadAtN hE hx (cellsAt_blk hB hs) (by rw [(rdSeg_spec hB.1 hs).1]; exact ht) (fun X hD b' hb => by simp [valBlocks] at hb; subst hb; exact hX X hD) hn k

end Go.Kx
