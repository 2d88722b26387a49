/- Own library, part U: plain laws: rows are read back, and are laid as they were read. -/
import Derived.Test.YtlieojojahhmmaaKxT
set_option linter.unusedSimpArgs false
set_option linter.unusedVariables false
namespace Go.Kx
open Go
variable {P : Program} {w0 w w' : World} {M : List Nat} {H : List Ent}

theorem Mem.callF {N : List Ent} (hM : Mem w0 M w H) (hN : Mem w [] w' N) (hr : ∀ e, e ∈ N → ∀ b, b ∈ e.ro → (∃ f, f ∈ H ∧ b ∈ f.ro) ∨ w.heap.size ≤ b) : Mem w0 M w' (N ++ H) :=
  Mem.call (es := []) hM hN (fun b hb => by cases hb) (fun e he b hb => .inr (hr e he b hb))

theorem laid_val {bs : List UInt8} : ∀ {k : Nat}, bs.length = k → laid k (val bs) = bs := by
  intro k
  induction k generalizing bs with
  | zero => intro h; rw [List.eq_nil_of_length_eq_zero h]; rfl
  | succ k ih =>
    intro h
    have hne : bs ≠ [] := by intro e; subst e; simp at h
    obtain ⟨c, b, rfl⟩ : ∃ c b, bs = c ++ [b] := ⟨bs.dropLast, bs.getLast hne, (List.dropLast_concat_getLast hne).symm⟩
    have hc : c.length = k := by simpa using h
    have hb := b.toNat_lt
    rw [laid_succ, val_snoc, show (val c * 256 + b.toNat) / 256 = val c by omega, ih hc]
    congr 2
    apply UInt8.toNat_inj.1
    simp

theorem rowPart_take {p r : List UInt8} (h : p.length < 4294967296) : val ((rowPart p ++ r).take 4) = p.length ∧ ((rowPart p ++ r).drop 4).take p.length = p ∧ ((rowPart p ++ r).drop 4).drop p.length = r := by
  have h4 : (laid 4 p.length).length = 4 := by simp
  unfold rowPart
  rw [List.append_assoc]
  have e1 : (laid 4 p.length ++ (p ++ r)).take 4 = laid 4 p.length := List.take_left' h4
  have e2 : (laid 4 p.length ++ (p ++ r)).drop 4 = p ++ r := List.drop_left' h4
  rw [e1, e2, val_laid]
  exact ⟨Nat.mod_eq_of_lt h, List.take_left, List.drop_left⟩

theorem pAt_laid (ps : List (List UInt8)) (r : List UInt8) (hp : ∀ p, p ∈ ps → p.length < 4294967296) : ∀ i, i ≤ ps.length → pAt (ps.flatMap rowPart ++ r) false i = (ps.take i, (ps.drop i).flatMap rowPart ++ r, false)
  | 0, _ => by simp [pAt]
  | i + 1, hi => by
    have ih := pAt_laid ps r hp i (by omega)
    have hlt : i < ps.length := by omega
    have hd : ps.drop i = ps[i] :: ps.drop (i + 1) := List.drop_eq_getElem_cons hlt
    rw [hd, List.flatMap_cons, List.append_assoc] at ih
    obtain ⟨h1, h2, h3⟩ := rowPart_take (p := ps[i]) (r := (ps.drop (i + 1)).flatMap rowPart ++ r) (hp _ (List.getElem_mem hlt))
    have hlen : (rowPart ps[i]).length = 4 + ps[i].length := by simp [rowPart]
    have := pAt_ok ih (by simp [hlen]; omega) (by rw [h1]; simp [hlen]; omega)
    rw [h1, h2, h3] at this
    rw [this, List.take_succ_eq_append_getElem hlt]

theorem pParts_laid {dm : UInt8} {ps : List (List UInt8)} (hn : ps.length ≤ 16) (hp : ∀ p, p ∈ ps → p.length < 4294967296) (r : List UInt8) : pParts (rowBs dm ps ps.length ++ r) = if r.length = 0 then (dm, ps, 0) else (0, [], 4) := by
  have e : rowBs dm ps ps.length ++ r = dm :: UInt8.ofNat ps.length :: (ps.flatMap rowPart ++ r) := by simp [rowBs]
  have h1 : (UInt8.ofNat ps.length).toNat = ps.length := by simp; omega
  have h2 := pAt_laid ps r hp ps.length (Nat.le_refl _)
  simp only [List.take_length, List.drop_length, List.flatMap_nil, List.nil_append] at h2
  rw [e]
  have hg : ((dm :: UInt8.ofNat ps.length :: (ps.flatMap rowPart ++ r)).getD 1 0).toNat = ps.length := h1
  have := pParts_end (row := dm :: UInt8.ofNat ps.length :: (ps.flatMap rowPart ++ r)) (by simp) (by rw [hg]; exact hn) (ps := ps) (bs := r) (by rw [hg]; exact h2)
  rw [this]; rfl

/-- What is read so far stands ahead of the rest. -/
theorem pAt_back {b0 : List UInt8} : ∀ (i : Nat) {ps : List (List UInt8)} {r : List UInt8}, pAt b0 false i = (ps, r, false) → b0 = ps.flatMap rowPart ++ r ∧ ∀ p, p ∈ ps → p.length < 4294967296
  | 0, ps, r, h => by simp [pAt] at h; obtain ⟨rfl, rfl⟩ := h; simp
  | i + 1, ps, r, h => by
    obtain ⟨ps', bs, t, hx⟩ : ∃ ps' bs t, pAt b0 false i = (ps', bs, t) := ⟨_, _, _, rfl⟩
    cases t with
    | true => have := pAt_torn (b0 := b0) (t0 := false) (i := i) (by rw [hx]) 1; rw [h] at this; cases this
    | false =>
      by_cases hb : bs.length < 4 ∨ (bs.drop 4).length < val (bs.take 4)
      · have := pAt_bad hx hb; rw [h] at this; cases this
      · have h4 : 4 ≤ bs.length := by omega
        have hn : val (bs.take 4) ≤ (bs.drop 4).length := by omega
        have h' := pAt_ok hx h4 hn
        rw [h] at h'
        simp only [Prod.mk.injEq, and_true] at h'
        obtain ⟨rfl, rfl⟩ := h'
        obtain ⟨e, hl⟩ := pAt_back i hx
        have hv := val_lt (bs.take 4)
        have h4l : (bs.take 4).length = 4 := by simp; omega
        rw [h4l] at hv
        have hlen : ((bs.drop 4).take (val (bs.take 4))).length = val (bs.take 4) := by simp; simp at hn; omega
        refine ⟨?_, fun p hp => ?_⟩
        · rw [e, List.flatMap_append, List.append_assoc]
          congr 1
          simp only [List.flatMap_cons, List.flatMap_nil, List.append_nil, rowPart, hlen, laid_val h4l, List.append_assoc, List.take_append_drop]
        · rcases List.mem_append.1 hp with hp | hp
          · exact hl p hp
          · rw [List.mem_singleton.1 hp, hlen]; exact hv

/-- What is read as a row is laid as just these bytes. -/
theorem pParts_back {row : List UInt8} (h : (pParts row).2.2 = 0) : (pParts row).2.1.length ≤ 16 ∧ (∀ p, p ∈ (pParts row).2.1 → p.length < 4294967296) ∧ row = rowBs (pParts row).1 (pParts row).2.1 (pParts row).2.1.length := by
  by_cases h2 : 2 ≤ row.length
  · by_cases hb : (row.getD 1 0).toNat ≤ 16
    · obtain ⟨ps, bs, t, hx⟩ : ∃ ps bs t, pAt (row.drop 2) false (row.getD 1 0).toNat = (ps, bs, t) := ⟨_, _, _, rfl⟩
      cases t with
      | true => rw [pParts_torn h2 hb (Nat.le_refl _) (by rw [hx])] at h; cases h
      | false =>
        rw [pParts_end h2 hb hx] at h ⊢
        split at h
        · rename_i h0
          rw [if_pos h0]
          have hl := pAt_length (row.drop 2) false (row.getD 1 0).toNat
          rw [hx] at hl
          obtain ⟨e, hp⟩ := pAt_back _ hx
          have hbs := List.eq_nil_of_length_eq_zero h0
          subst hbs
          rw [List.append_nil] at e
          refine ⟨by simp only at hl ⊢; omega, hp, ?_⟩
          simp only at hl ⊢
          match row, h2 with
          | a :: b :: r, _ =>
            simp only [rowBs, List.getD_cons_zero]
            simp only [List.drop_succ_cons, List.drop_zero] at e
            rw [List.take_length, hl, ← e]
            simp
        · cases h
    · rw [pParts_many h2 (by omega)] at h; cases h
  · rw [pParts_short (by omega)] at h; cases h

theorem pRow_back {row : List UInt8} (h : (pParts row).2.2 = 0) : pRow (pParts row).1 (pParts row).2.1 = (row, 0) := by
  obtain ⟨h1, h2, h3⟩ := pParts_back h
  unfold pRow
  rw [if_neg (by omega), ← h3]

theorem pParts_more {row : List UInt8} {x : UInt8} (h : (pParts row).2.2 = 0) : (pParts (row ++ [x])).2.2 = 4 := by
  obtain ⟨h1, h2, h3⟩ := pParts_back h
  have := pParts_laid (dm := (pParts row).1) h1 h2 [x]
  rw [← h3] at this
  rw [this]; rfl

theorem pParts_code (row : List UInt8) : (pParts row).2.2 = 0 ∨ pParts row = (0, [], 4) := by
  unfold pParts
  split
  · exact .inr rfl
  · split
    · exact .inl rfl
    · exact .inr rfl

theorem pParts_less {row : List UInt8} (hne : row ≠ []) (h : (pParts row).2.2 = 0) : (pParts (row.take (row.length - 1))).2.2 = 4 := by
  rcases pParts_code (row.take (row.length - 1)) with h0 | h0
  · have := pParts_more (x := row.getLast hne) h0
    rw [← List.dropLast_eq_take, List.dropLast_concat_getLast hne, h] at this
    cases this
  · rw [h0]

theorem rowBs_eq {dm dm' : UInt8} {ps ps' : List (List UInt8)} (hn : ps.length ≤ 16) (hp : ∀ p, p ∈ ps → p.length < 4294967296) (hn' : ps'.length ≤ 16) (hp' : ∀ p, p ∈ ps' → p.length < 4294967296) :
    rowBs dm ps ps.length = rowBs dm' ps' ps'.length ↔ dm = dm' ∧ ps = ps' := by
  constructor
  · intro h
    have h1 := pParts_laid (dm := dm) hn hp []
    have h2 := pParts_laid (dm := dm') hn' hp' []
    rw [h, h2] at h1
    simp at h1
    exact ⟨h1.1.symm, h1.2.symm⟩
  · rintro ⟨rfl, rfl⟩; rfl

end Go.Kx
