/- Own library, part C: what is known of memory, as a list of entries that lie apart. -/
import Derived.Test.YtamjaacddbecaaaKxB
set_option linter.unusedSimpArgs false
set_option linter.unusedVariables false
namespace Go.Kx
open Go

structure Ent where
  fp : List Nat
  ro : List Nat
  holds : World → Prop
  loc : ∀ w w', holds w → (∀ b, b ∈ fp ∨ b ∈ ro → w'.heap[b]? = w.heap[b]?) → holds w'
  old : ∀ w, holds w → ∀ b, b ∈ fp ∨ b ∈ ro → b < w.heap.size

def Apart (e f : Ent) : Prop := (∀ b, b ∈ e.fp → b ∉ f.fp ∧ b ∉ f.ro) ∧ (∀ b, b ∈ f.fp → b ∉ e.ro)

theorem Apart.symm {e f : Ent} (h : Apart e f) : Apart f e :=
  ⟨fun b hb => ⟨fun h' => (h.1 b h').1 hb, h.2 b hb⟩, fun b hb => (h.1 b hb).2⟩

structure Mem (w0 : World) (M : List Nat) (w : World) (H : List Ent) : Prop where
  os : w.os = w0.os
  tape : w.tape = w0.tape
  output : w.output = w0.output
  size : w0.heap.size ≤ w.heap.size
  frame : ∀ b, b < w0.heap.size → b ∉ M → w.heap[b]? = w0.heap[b]?
  holds : ∀ e, e ∈ H → e.holds w
  new : ∀ e, e ∈ H → ∀ b, b ∈ e.fp → b ∈ M ∨ w0.heap.size ≤ b
  self : ∀ e, e ∈ H → ∀ b, b ∈ e.ro → b ∉ e.fp
  apart : H.Pairwise Apart

variable {w0 w w' : World} {M : List Nat} {H H' : List Ent}

theorem Mem.get (h : Mem w0 M w H) (i : Nat) {e : Ent} (hi : H[i]? = some e) : e.holds w := h.holds e (List.mem_of_getElem? hi)

theorem Mem.sub (h : Mem w0 M w H) (hs : H'.Sublist H) : Mem w0 M w H' :=
  ⟨h.os, h.tape, h.output, h.size, h.frame, fun e he => h.holds e (hs.subset he), fun e he => h.new e (hs.subset he), fun e he => h.self e (hs.subset he), h.apart.sublist hs⟩

/-- These, in this order (each number once). -/
def picks (H : List Ent) : List Nat → Option (List Ent)
  | [] => some []
  | i :: r => match H[i]?, picks H r with
    | some e, some l => some (e :: l)
    | _, _ => none

theorem Mem.nil (h : Mem w0 M w H) : Mem w0 M w [] := h.sub (List.nil_sublist _)

theorem apart_of_get (h : H.Pairwise Apart) {i j : Nat} {e f : Ent} (hi : H[i]? = some e) (hj : H[j]? = some f) (hne : i ≠ j) : Apart e f := by
  obtain ⟨hi', rfl⟩ := List.getElem?_eq_some_iff.1 hi
  obtain ⟨hj', rfl⟩ := List.getElem?_eq_some_iff.1 hj
  rcases Nat.lt_or_gt_of_ne hne with hlt | hlt
  · exact List.pairwise_iff_getElem.1 h i j hi' hj' hlt
  · exact (List.pairwise_iff_getElem.1 h j i hj' hi' hlt).symm

theorem picks_mem : ∀ {ks : List Nat} {l : List Ent}, picks H ks = some l → ∀ e ∈ l, ∃ i ∈ ks, H[i]? = some e
  | [], l, h, e, he => by simp [picks] at h; subst h; cases he
  | i :: r, l, h, e, he => by
    simp only [picks] at h
    cases hi : H[i]? with
    | none => simp [hi] at h
    | some x =>
      cases hr : picks H r with
      | none => simp [hi, hr] at h
      | some l' =>
        simp [hi, hr] at h
        subst h
        rcases List.mem_cons.1 he with rfl | he
        · exact ⟨i, List.mem_cons_self .., hi⟩
        · obtain ⟨j, hj, hje⟩ := picks_mem hr e he
          exact ⟨j, List.mem_cons_of_mem _ hj, hje⟩

def noDup : List Nat → Bool
  | [] => true
  | k :: r => r.all (fun j => !(Nat.beq k j)) && noDup r

theorem picks_apart (hp : H.Pairwise Apart) : ∀ {ks : List Nat} {l : List Ent}, picks H ks = some l → noDup ks = true → l.Pairwise Apart
  | [], l, h, _ => by simp [picks] at h; subst h; exact .nil
  | i :: r, l, h, hd => by
    simp only [picks] at h
    simp only [noDup, Bool.and_eq_true, List.all_eq_true] at hd
    cases hi : H[i]? with
    | none => simp [hi] at h
    | some x =>
      cases hr : picks H r with
      | none => simp [hi, hr] at h
      | some l' =>
        simp [hi, hr] at h
        subst h
        refine .cons (fun e he => ?_) (picks_apart hp hr hd.2)
        obtain ⟨j, hj, hje⟩ := picks_mem hr e he
        refine apart_of_get hp hi hje (fun e' => ?_)
        have := hd.1 j hj
        rw [e'] at this
        simp at this

/-- Entries by their numbers: others are let go. -/
theorem Mem.pick (h : Mem w0 M w H) (ks : List Nat) {l : List Ent} (hl : picks H ks = some l) (hd : noDup ks = true := by rfl) : Mem w0 M w l := by
  have hm : ∀ e, e ∈ l → e ∈ H := fun e he => by
    obtain ⟨i, _, hi⟩ := picks_mem hl e he
    exact List.mem_of_getElem? hi
  exact ⟨h.os, h.tape, h.output, h.size, h.frame, fun e he => h.holds e (hm e he), fun e he => h.new e (hm e he), fun e he => h.self e (hm e he), picks_apart h.apart hl hd⟩

/-- The beginning of a function. -/
theorem Mem.start (w : World) {es : List Ent} (hh : ∀ e, e ∈ es → e.holds w) (hn : ∀ e, e ∈ es → ∀ b, b ∈ e.fp → b ∈ M) (hs : ∀ e, e ∈ es → ∀ b, b ∈ e.ro → b ∉ e.fp) (ha : es.Pairwise Apart) : Mem w M w es :=
  ⟨rfl, rfl, rfl, Nat.le_refl _, fun _ _ _ => rfl, hh, fun e he b hb => .inl (hn e he b hb), hs, ha⟩

theorem Mem.start0 (w : World) : Mem w [] w [] := Mem.start w (fun _ h => by cases h) (fun _ h => by cases h) (fun _ h => by cases h) .nil

/-- Where the blocks that an entry only reads may come from. -/
def RoFrom (es H : List Ent) (w : World) (b : Nat) : Prop := (∃ e, e ∈ es ∧ (b ∈ e.fp ∨ b ∈ e.ro)) ∨ (∃ f, f ∈ H ∧ b ∈ f.ro) ∨ w.heap.size ≤ b

theorem Mem.act {es es' H : List Ent} (hM : Mem w0 M w (es ++ H)) (ho : w'.os = w.os) (ht : w'.tape = w.tape) (hu : w'.output = w.output) (hsz : w.heap.size ≤ w'.heap.size)
    (hfr : ∀ b, b < w.heap.size → (∀ e, e ∈ es → b ∉ e.fp) → w'.heap[b]? = w.heap[b]?)
    (hh : ∀ e, e ∈ es' → e.holds w')
    (hnew : ∀ e, e ∈ es' → ∀ b, b ∈ e.fp → (∃ e0, e0 ∈ es ∧ b ∈ e0.fp) ∨ w.heap.size ≤ b)
    (hro : ∀ e, e ∈ es' → ∀ b, b ∈ e.ro → RoFrom es H w b)
    (hself : ∀ e, e ∈ es' → ∀ b, b ∈ e.ro → b ∉ e.fp)
    (hap : es'.Pairwise Apart) : Mem w0 M w' (es' ++ H) := by
  have hA := List.pairwise_append.1 hM.apart
  have hOld : ∀ f, f ∈ H → ∀ b, b ∈ f.fp ∨ b ∈ f.ro → b < w.heap.size := fun f hf => f.old w (hM.holds f (List.mem_append_right _ hf))
  have hNot : ∀ f, f ∈ H → ∀ b, b ∈ f.fp ∨ b ∈ f.ro → ∀ e, e ∈ es → b ∉ e.fp := fun f hf b hb e he hbe => by
    have := hA.2.2 e he f hf
    rcases hb with hb | hb
    · exact (this.1 b hbe).1 hb
    · exact (this.1 b hbe).2 hb
  refine ⟨ho.trans hM.os, ht.trans hM.tape, hu.trans hM.output, Nat.le_trans hM.size hsz, fun b hb hbm => ?_, fun e he => ?_, fun e he b hb => ?_, fun e he => ?_, ?_⟩
  · rw [hfr b (Nat.lt_of_lt_of_le hb hM.size) (fun e he hbe => ?_)]
    · exact hM.frame b hb hbm
    · rcases hM.new e (List.mem_append_left _ he) b hbe with h | h
      · exact hbm h
      · omega
  · rcases List.mem_append.1 he with he | he
    · exact hh e he
    · refine e.loc w w' (hM.holds e (List.mem_append_right _ he)) fun b hb => ?_
      exact hfr b (hOld e he b hb) (hNot e he b hb)
  · rcases List.mem_append.1 he with he | he
    · rcases hnew e he b hb with ⟨e0, h0, hb0⟩ | h
      · exact hM.new e0 (List.mem_append_left _ h0) b hb0
      · exact .inr (Nat.le_trans hM.size h)
    · exact hM.new e (List.mem_append_right _ he) b hb
  · rcases List.mem_append.1 he with he | he
    · exact hself e he
    · exact hM.self e (List.mem_append_right _ he)
  · refine List.pairwise_append.2 ⟨hap, hA.2.1, fun e he f hf => ⟨fun b hb => ?_, fun b hb hbr => ?_⟩⟩
    · rcases hnew e he b hb with ⟨e0, h0, hb0⟩ | h
      · exact (hA.2.2 e0 h0 f hf).1 b hb0
      · exact ⟨fun h' => by have := hOld f hf b (.inl h'); omega, fun h' => by have := hOld f hf b (.inr h'); omega⟩
    · rcases hro e he b hbr with ⟨e0, h0, hb0⟩ | ⟨g, hg, hbg⟩ | h
      · rcases hb0 with hb0 | hb0
        · exact ((hA.2.2 e0 h0 f hf).1 b hb0).1 hb
        · exact (hA.2.2 e0 h0 f hf).2 b hb hb0
      · by_cases e' : g = f
        · subst e'; exact hM.self g (List.mem_append_right _ hg) b hbg hb
        · have : Apart g f := by
            obtain ⟨i, hi⟩ := List.getElem?_of_mem hg
            obtain ⟨j, hj⟩ := List.getElem?_of_mem hf
            refine apart_of_get hA.2.1 hi hj fun hij => e' ?_
            subst hij; rw [hi] at hj; exact Option.some.inj hj
          exact this.2 b hb hbg
      · have := hOld f hf b (.inl hb); omega

/-- Behind a call: what it was given to turn (es) comes back as N, with what it made. -/
theorem Mem.call {es H N : List Ent} {Mc : List Nat} (hM : Mem w0 M w (es ++ H)) (hN : Mem w Mc w' N) (hMc : ∀ b, b ∈ Mc → ∃ e, e ∈ es ∧ b ∈ e.fp)
    (hro : ∀ e, e ∈ N → ∀ b, b ∈ e.ro → RoFrom es H w b) : Mem w0 M w' (N ++ H) :=
  hM.act hN.os hN.tape hN.output hN.size (fun b hb h => hN.frame b hb (fun hbm => by obtain ⟨e, he, hbe⟩ := hMc b hbm; exact h e he hbe)) hN.holds
    (fun e he b hb => (hN.new e he b hb).imp (hMc b) id) hro hN.self hN.apart

def NoRo : List Ent → Prop
  | [] => True
  | e :: r => e.ro = [] ∧ NoRo r

theorem NoRo.spec : ∀ {N : List Ent}, NoRo N → ∀ e, e ∈ N → ∀ b, b ∉ e.ro
  | [], _, _, he => by cases he
  | f :: r, h, e, he => by
    rcases List.mem_cons.1 he with rfl | he
    · intro b; rw [h.1]; exact List.not_mem_nil
    · exact NoRo.spec h.2 e he

/-- Behind a call that was given nothing to turn, and whose results are all its own. -/
theorem Mem.call0 {N : List Ent} (hM : Mem w0 M w H) (hN : Mem w [] w' N) (hr : NoRo N) : Mem w0 M w' (N ++ H) :=
  Mem.call (es := []) hM hN (fun b hb => by cases hb) (fun e he b hb => absurd hb (hr.spec e he b))

theorem Mem.sta (hM : Mem w0 M w H) : Sta (some fun b => b ∈ M) w0 w := ⟨hM.size, fun b hb hx => hM.frame b hb hx⟩

theorem Mem.sta0 (hM : Mem w0 [] w H) (X : Nat → Prop) : Sta (some X) w0 w := ⟨hM.size, fun b hb _ => hM.frame b hb (by simp)⟩

/-! ## Kinds of entries -/

/-- None of the first n cells is frozen. -/
def Fz (fr : Nat × Nat) (n : Nat) : Prop := fr.1 = fr.2 ∨ n ≤ fr.1

theorem Fz.zero (n : Nat) : Fz (0, 0) n := .inl rfl

/-- A block that is known whole: its cells in parts, each of a known length. -/
def blk (b : Nat) (ss : List (List Value)) (ns : List Nat) (T : TypeId) : Ent where
  fp := [b]
  ro := []
  holds w := ss.map List.length = ns ∧ ∃ fr, w.heap[b]? = some (.cells ss.flatten.toArray T fr) ∧ Fz fr ss.flatten.length
  loc w w' h hb := ⟨h.1, h.2.imp fun _ h => ⟨(hb b (.inl (List.mem_cons_self ..))).trans h.1, h.2⟩⟩
  old w h b' hb := by
    simp at hb
    subst hb
    obtain ⟨_, fr, h, _⟩ := h
    exact (Array.getElem?_eq_some_iff.1 h).1

def valBlocks : Value → List Nat
  | .slice (some a) _ _ => [a.block]
  | .pointer (some a) => [a.block]
  | _ => []

/-- The blocks that a slice of that capacity may be read from. -/
def rdB (v : Value) (c : Nat) : List Nat := if c = 0 then [] else valBlocks v

theorem rdB_sub {v : Value} {c x : Nat} (h : x ∈ rdB v c) : x ∈ valBlocks v := by
  unfold rdB at h; split at h
  · cases h
  · exact h

/-- A slice that is read alone: n elements of es cells each, of a capacity c. (One without capacity may have whatever address.) -/
def rd (v : Value) (es n c : Nat) (cs : List Value) : Ent where
  fp := []
  ro := rdB v c
  holds w := cs.length = n * es ∧ ((∃ p, v = .slice p 0 0 ∧ n = 0 ∧ c = 0) ∨
    ∃ b o, v = .slice (some ⟨b, o, none⟩) n c ∧ n ≤ c ∧ b < w.heap.size ∧ ∀ (i : Nat) (x : Value), cs[i]? = some x → w.cell? ⟨b, o + i, none⟩ = some x)
  loc w w' h hb := by
    refine ⟨h.1, ?_⟩
    rcases h.2 with h | ⟨b, o, rfl, h1, h2, h3⟩
    · exact .inl h
    · by_cases hc : c = 0
      · subst hc
        obtain rfl : n = 0 := by omega
        exact .inl ⟨_, rfl, rfl, rfl⟩
      · have hb' : w'.heap[b]? = w.heap[b]? := hb b (.inr (by simp [rdB, hc, valBlocks]))
        refine .inr ⟨b, o, rfl, h1, ?_, fun i x hx => ?_⟩
        · rw [Array.getElem?_eq_getElem h2] at hb'
          exact (Array.getElem?_eq_some_iff.1 hb').1
        · rw [World.cell?_of_block (w := w) hb']; exact h3 i x hx
  old w h b hb := by
    simp only [List.not_mem_nil, false_or] at hb
    have hb := rdB_sub hb
    rcases h.2 with ⟨p, rfl, rfl, rfl⟩ | ⟨b', o, rfl, h1, h2, h3⟩
    · simp [rdB] at *
    · simp [valBlocks] at hb; subst hb; exact h2

/-- A slice from the head of a block that nobody else knows of: what lies behind its length is whatever. -/
def own (v : Value) (es n : Nat) (cs : List Value) : Ent where
  fp := valBlocks v
  ro := []
  holds w := cs.length = n * es ∧ ((v = .slice none 0 0 ∧ n = 0) ∨
    ∃ b cap cur T fr, v = .slice (some ⟨b, 0, none⟩) n cap ∧ n ≤ cap ∧ cap ≤ maxLen ∧ w.heap[b]? = some (.cells cur T fr) ∧ cur.size = cap * es ∧ cur.toList.take (n * es) = cs ∧ Fz fr cur.size)
  loc w w' h hb := by
    refine ⟨h.1, ?_⟩
    rcases h.2 with h | ⟨b, cap, cur, T, fr, rfl, h1, h2, h3, h4⟩
    · exact .inl h
    · exact .inr ⟨b, cap, cur, T, fr, rfl, h1, h2, (hb b (.inl (by simp [valBlocks]))).trans h3, h4⟩
  old w h b hb := by
    simp only [List.not_mem_nil, or_false] at hb
    rcases h.2 with ⟨rfl, _⟩ | ⟨b', cap, cur, T, fr, rfl, h1, h2, h3, h4⟩
    · simp [valBlocks] at hb
    · simp [valBlocks] at hb; subst hb; exact (Array.getElem?_eq_some_iff.1 h3).1

/-- An owned slice is one that may be read. -/
theorem own_rd {v : Value} {es n : Nat} {cs : List Value} (h : (own v es n cs).holds w) : ∃ c, (rd v es n c cs).holds w := by
  obtain ⟨hl, h | ⟨b, cap, cur, T, fr, rfl, h1, h2, h3, h4, h5, h6⟩⟩ := h
  · exact ⟨0, hl, .inl ⟨none, h.1, h.2, rfl⟩⟩
  · refine ⟨cap, hl, .inr ⟨b, 0, rfl, h1, (Array.getElem?_eq_some_iff.1 h3).1, fun i x hx => ?_⟩⟩
    rw [Nat.zero_add, cell_of_row w b i cur T _ h3]
    rw [← h5, List.getElem?_take] at hx
    split at hx
    · simpa using hx
    · cases hx

/-- Ownership is given up: from now on it is read alone. -/
theorem Mem.freeze {v : Value} {es n : Nat} {cs : List Value} (hM : Mem w0 M w (own v es n cs :: H)) : ∃ c, Mem w0 M w (rd v es n c cs :: H) := by
  obtain ⟨c, hc⟩ := own_rd (hM.holds _ (List.mem_cons_self ..))
  refine ⟨c, Mem.act (es := [own v es n cs]) (es' := [rd v es n c cs]) hM rfl rfl rfl (Nat.le_refl _) (fun _ _ _ => rfl) ?_ ?_ ?_ ?_ (List.pairwise_singleton ..)⟩
  · intro e he; rw [List.mem_singleton.1 he]; exact hc
  · intro e he b hb; rw [List.mem_singleton.1 he] at hb; cases hb
  · intro e he b hb
    rw [List.mem_singleton.1 he] at hb
    exact .inl ⟨_, List.mem_cons_self .., .inl (rdB_sub hb)⟩
  · intro e he b hb; rw [List.mem_singleton.1 he]; exact List.not_mem_nil

end Go.Kx
