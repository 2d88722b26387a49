/- Own library, part T: plain laws of rows of parts; lists of parts that grow or come in. -/
import Derived.Test.YtlieojojahhmmaaKxR
set_option linter.unusedSimpArgs false
set_option linter.unusedVariables false
namespace Go.Kx
open Go
open Go.ChangeShapes Go.WideShapes Go.ChangeAt Go.RowKit
variable {P : Program} {w0 w : World} {M : List Nat} {H : List Ent}

theorem tNum_ok1 {bs : List UInt8} (h : 1 ≤ bs.length) : tNum bs false 1 = (val (bs.take 1), bs.drop 1, false) := by
  have h1 : (1 : Int) ≤ bs.length := by omega
  simp [tNum, numOk, widthB, h1]
theorem pA_eq {row : List UInt8} (h : 1 ≤ row.length) : pA row = (val (row.take 1), row.drop 1, false) := tNum_ok1 h
theorem pC_eq {row : List UInt8} (h : 2 ≤ row.length) : pC row = (val ((row.drop 1).take 1), row.drop 2, false) := by
  rw [pC, pA_eq (by omega)]
  have := tNum_ok1 (bs := row.drop 1) (by simp; omega)
  rw [List.drop_drop] at this
  exact this
theorem val_one (b : UInt8) : val [b] = b.toNat := by simp [val]
theorem pC_fst {row : List UInt8} (h : 2 ≤ row.length) : (pC row).1 = (row.getD 1 0).toNat := by
  rw [pC_eq h]
  match row, h with
  | a :: b :: r, _ => simp [val_one]
theorem pA_fst {row : List UInt8} (h : 1 ≤ row.length) : UInt8.ofNat (pA row).1 = row.getD 0 0 := by
  rw [pA_eq h]
  match row, h with
  | a :: r, _ => simp [val_one]

theorem tNum_torn {bs : List UInt8} {x : Int} : tNum bs true x = (0, bs, true) := by simp [tNum, numOk]
theorem tBytes_torn {bs : List UInt8} {x : Int} : tBytes bs true x = ([], bs, true) := by simp [tBytes, bytesOk]

theorem pParts_short {row : List UInt8} (h : row.length < 2) : pParts row = (0, [], 4) := by
  have h2 : (pC row).1 = 0 ∧ (pC row).2.2 = true := by
    by_cases h0 : row.length = 0
    · obtain rfl := List.eq_nil_of_length_eq_zero h0
      decide
    · rw [pC, pA_eq (by omega)]
      obtain ⟨a, rfl⟩ : ∃ a, row = [a] := by match row, h0, h with | [a], _, _ => exact ⟨a, rfl⟩
      simp [tNum, numOk, widthB]
  unfold pParts
  rw [if_neg (by omega), if_neg]
  rw [pR, h2.1, h2.2]
  simp [pAt]

theorem pParts_many {row : List UInt8} (h : 2 ≤ row.length) (hb : 16 < (row.getD 1 0).toNat) : pParts row = (0, [], 4) := by
  unfold pParts; rw [pC_fst h, if_pos hb]

theorem pAt_ok {b0 bs : List UInt8} {t0 : Bool} {i : Nat} {ps : List (List UInt8)} (h : pAt b0 t0 i = (ps, bs, false)) (h4 : 4 ≤ bs.length) (hn : val (bs.take 4) ≤ (bs.drop 4).length) :
    pAt b0 t0 (i + 1) = (ps ++ [(bs.drop 4).take (val (bs.take 4))], (bs.drop 4).drop (val (bs.take 4)), false) := by
  have h4' : (4 : Int) ≤ bs.length := by omega
  have hn' : ((val (bs.take 4) : Nat) : Int) ≤ ((bs.drop 4).length : Int) := by omega
  have e1 : tNum bs false 4 = (val (bs.take 4), bs.drop 4, false) := by
    unfold tNum numOk
    rw [if_pos (by simp only [h4']; rfl)]; rfl
  have e2 : tBytes (bs.drop 4) false (val (bs.take 4) : Nat) = ((bs.drop 4).take (val (bs.take 4)), (bs.drop 4).drop (val (bs.take 4)), false) := by
    unfold tBytes bytesOk
    rw [if_pos (by simp only [hn']; simp)]; rfl
  simp only [pAt, h, e1, e2]

theorem pAt_bad {b0 bs : List UInt8} {t0 : Bool} {i : Nat} {ps : List (List UInt8)} (h : pAt b0 t0 i = (ps, bs, false)) (hb : bs.length < 4 ∨ (bs.drop 4).length < val (bs.take 4)) : (pAt b0 t0 (i + 1)).2.2 = true := by
  by_cases h4 : 4 ≤ bs.length
  · have hb := hb.resolve_left (by omega)
    have h4' : (4 : Int) ≤ bs.length := by omega
    have e1 : tNum bs false 4 = (val (bs.take 4), bs.drop 4, false) := by
      unfold tNum numOk
      rw [if_pos (by simp only [h4']; rfl)]; rfl
    have hn' : ¬ ((val (bs.take 4) : Nat) : Int) ≤ ((bs.drop 4).length : Int) := by omega
    have e2 : tBytes (bs.drop 4) false (val (bs.take 4) : Nat) = ([], bs.drop 4, true) := by
      unfold tBytes bytesOk
      rw [if_neg (by simp only [hn']; simp)]
    simp only [pAt, h, e1, e2]
  · have h4' : ¬ (4 : Int) ≤ bs.length := by omega
    have e1 : tNum bs false 4 = (0, bs, true) := by
      unfold tNum numOk
      rw [if_neg (by simp only [h4']; simp)]
    simp only [pAt, h, e1, tBytes_torn]

theorem pAt_torn {b0 : List UInt8} {t0 : Bool} {i : Nat} (h : (pAt b0 t0 i).2.2 = true) : ∀ j, (pAt b0 t0 (i + j)).2.2 = true
  | 0 => h
  | j + 1 => by
    have ih := pAt_torn h j
    show (pAt b0 t0 (i + j + 1)).2.2 = true
    simp only [pAt, ih, tNum_torn, tBytes_torn]

theorem pParts_torn {row : List UInt8} (h : 2 ≤ row.length) (hb : (row.getD 1 0).toNat ≤ 16) {i : Nat} (hi : i ≤ (row.getD 1 0).toNat) (ht : (pAt (row.drop 2) false i).2.2 = true) : pParts row = (0, [], 4) := by
  unfold pParts
  have e : pC row = ((row.getD 1 0).toNat, row.drop 2, false) := by rw [← pC_fst h, pC_eq h]
  have h2 := pAt_torn ht ((row.getD 1 0).toNat - i)
  rw [show i + ((row.getD 1 0).toNat - i) = (row.getD 1 0).toNat by omega] at h2
  rw [pC_fst h, if_neg (by omega), if_neg]
  rw [pR, e, h2]; simp

theorem pParts_end {row : List UInt8} (h : 2 ≤ row.length) (hb : (row.getD 1 0).toNat ≤ 16) {ps : List (List UInt8)} {bs : List UInt8} (ht : pAt (row.drop 2) false (row.getD 1 0).toNat = (ps, bs, false)) :
    pParts row = if bs.length = 0 then (row.getD 0 0, ps, 0) else (0, [], 4) := by
  unfold pParts
  have e : pC row = ((row.getD 1 0).toNat, row.drop 2, false) := by rw [← pC_fst h, pC_eq h]
  rw [pC_fst h, if_neg (by omega), pR, e, ht, pA_fst (by omega)]
  simp

/-- A part more, with its own block. -/
theorem Mem.rdvGrow {bb : List Nat} {vs : List Value} {ps : List (List UInt8)} {v : Value} {p : List UInt8} {c : Nat} (hM : Mem w0 M w (rd v 1 p.length c (bv p) :: rdv bb vs ps :: H)) : Mem w0 M w (rdv (rdB v c ++ bb) (vs ++ [v]) (ps ++ [p]) :: H) := by
  have h1 := hM.get 0 rfl
  have h2 := hM.get 1 rfl
  refine Mem.act (es := [rd v 1 p.length c (bv p), rdv bb vs ps]) (es' := [rdv (rdB v c ++ bb) (vs ++ [v]) (ps ++ [p])]) hM rfl rfl rfl (Nat.le_refl _) (fun _ _ _ => rfl) ?_ ?_ ?_ ?_ (List.pairwise_singleton ..)
  · intro e he; rw [List.mem_singleton.1 he]
    refine ⟨fun x hx => ?_, by simp [h2.2.1], fun i u q hu hq => ?_⟩
    · rcases List.mem_append.1 hx with hx | hx
      · exact (rd v 1 p.length c (bv p)).old w h1 x (.inr hx)
      · exact h2.1 x hx
    · by_cases hi : i < ps.length
      · rw [List.getElem?_append_left (by rw [h2.2.1]; exact hi)] at hu
        rw [List.getElem?_append_left hi] at hq
        obtain ⟨c', k1, k2⟩ := h2.2.2 i u q hu hq
        exact ⟨c', fun x hx => List.mem_append_right _ (k1 x hx), k2⟩
      · rw [List.getElem?_append_right (by rw [h2.2.1]; omega)] at hu
        rw [List.getElem?_append_right (by omega)] at hq
        rw [h2.2.1] at hu
        have e0 : i - ps.length = 0 := by
          cases hz : i - ps.length with
          | zero => rfl
          | succ k => rw [hz] at hq; simp at hq
        rw [e0] at hu hq
        simp at hu hq
        subst hu hq
        exact ⟨c, fun x hx => List.mem_append_left _ hx, h1⟩
  · intro e he b hb; rw [List.mem_singleton.1 he] at hb; cases hb
  · intro e he b hb
    rw [List.mem_singleton.1 he] at hb
    rcases List.mem_append.1 hb with hb | hb
    · exact .inl ⟨_, .head _, .inr hb⟩
    · exact .inl ⟨_, .tail _ (.head _), .inr hb⟩
  · intro e he b hb; rw [List.mem_singleton.1 he]; exact List.not_mem_nil

/-- The first i parts, of k bytes at most. -/
def clip (k : Nat) (ps : List (List UInt8)) (i : Nat) : List (List UInt8) := (ps.take i).map (·.take k)
theorem clip_succ {k i : Nat} {ps : List (List UInt8)} (h : i < ps.length) : clip k ps (i + 1) = clip k ps i ++ [(ps.getD i []).take k] := by
  unfold clip
  rw [List.take_succ_eq_append_getElem h, List.map_append]
  simp [List.getD, h]
theorem clip_length {k i : Nat} {ps : List (List UInt8)} (h : i ≤ ps.length) : (clip k ps i).length = i := by simp [clip]; omega
theorem clip_bytes {k n : Nat} {ps : List (List UInt8)} : ∀ {i : Nat}, i ≤ n → rowBytes (clip k ps i) ≤ 2 + n * (k + 4) := by
  intro i hi
  have key : ∀ l : List (List UInt8), ((l.map (·.take k)).map fun p => p.length + 4).sum ≤ l.length * (k + 4) := by
    intro l
    induction l with
    | nil => simp
    | cons a l ih =>
      simp only [List.map_cons, List.sum_cons, List.length_cons, List.length_take]
      rw [Nat.add_mul]
      omega
  have h1 := key (ps.take i)
  have h2 : (ps.take i).length * (k + 4) ≤ n * (k + 4) := Nat.mul_le_mul_right _ (by simp; omega)
  unfold rowBytes clip
  omega

theorem rdv_getB {bb : List Nat} {vs : List Value} {ps : List (List UInt8)} (h : (rdv bb vs ps).holds w) {i : Nat} (hi : i < ps.length) : ∃ c, (∀ x, x ∈ rdB (vs.getD i undef) c → x ∈ bb) ∧ (rd (vs.getD i undef) 1 (ps.getD i []).length c (bv (ps.getD i []))).holds w := by
  have hv : i < vs.length := by rw [h.2.1]; exact hi
  obtain ⟨c, h1, hc⟩ := h.2.2 i _ _ (List.getElem?_eq_getElem hv) (List.getElem?_eq_getElem hi)
  exact ⟨c, by simpa [hv] using h1, by simpa [hv, hi] using hc⟩

theorem Mem.notX {e f : Ent} (hM : Mem w0 M w H) (i j : Nat) (hi : H[i]? = some e) (hj : H[j]? = some f) (hne : i ≠ j) : ∀ b, b ∈ e.fp → b ∉ f.ro := fun b hb => ((apart_of_get hM.apart hi hj hne).1 b hb).2

theorem Mem.addFrom {e : Ent} {v' : Value} {es' m' c' : Nat} {cs' : List Value} (hM : Mem w0 M w H) (i : Nat) (hi : H[i]? = some e) (hr : (rd v' es' m' c' cs').holds w) (hvb : ∀ x, x ∈ rdB v' c' → x ∈ e.ro) (he : e.fp = []) : Mem w0 M w (rd v' es' m' c' cs' :: H) := by
  refine hM.addRd hr rfl fun b hb f hf hbf => ?_
  obtain ⟨j, hj, rfl⟩ := List.mem_iff_getElem.1 hf
  have hj' : H[j]? = some H[j] := List.getElem?_eq_getElem hj
  by_cases hij : j = i
  · subst hij
    rw [hj'] at hi
    rw [Option.some.inj hi, he] at hbf
    cases hbf
  · exact hM.notX j i hj' hi hij b hbf (hvb b hb)

theorem u8_of {i : Int} (h1 : IntKind.u8.min ≤ i) (h2 : i ≤ IntKind.u8.max) : ∃ b : UInt8, i = (b.toNat : Int) := by
  have h1' : (0 : Int) ≤ i := h1
  have h2' : i ≤ 255 := h2
  exact ⟨UInt8.ofNat i.toNat, by simp; omega⟩

variable {W : World} {K : Type} {enc : TypeId × Value → K}

/-- A list of parts that came in. -/
theorem parts_of {l : List Value} {n : Nat} (hl : l.length = n * 1) (h : ∀ i, i < n → ∃ v bs c, (l.drop (i * 1)).take 1 = [v] ∧ (rd v 1 bs.length c (bv bs)).holds W ∧ bs.length ≤ 140737488351232) :
    ∃ bb ps, ps.length = n ∧ (rdv bb l ps).holds W := by
  induction n generalizing l with
  | zero => exact ⟨[], [], rfl, by have := List.eq_nil_of_length_eq_zero (show l.length = 0 by omega); subst this; exact rdv_nil W⟩
  | succ n ih =>
    match l, hl with
    | v :: l, hl =>
      obtain ⟨v', bs, c, h1, h2, h3⟩ := h 0 (by omega)
      simp at h1
      subst h1
      obtain ⟨bb, ps, hp, hb⟩ := ih (l := l) (by simp at hl; omega) (fun i hi => by
        have := h (i + 1) (by omega)
        simpa [Nat.add_mul] using this)
      exact ⟨_, _, by simp [hp], rdv_cons h2 hb⟩

theorem dec_parts {t e e' : Nat} (hu : P.underlying t = some (.slice e')) (hes' : P.cellsOf e' = 1) (hby' : P.bytesOf e' = 24) (hu' : P.underlying e' = some (.slice e)) (hue : P.underlying e = some (.int .u8)) (hes : P.cellsOf e = 1) (hby : P.bytesOf e = 1) :
    Dec P W t (fun cs => ∃ v vs bb ps c, cs = [v] ∧ (rd v 1 ps.length c vs).holds W ∧ (rdv bb vs ps).holds W ∧ ps.length ≤ 140737488351232) :=
  (dec_slice hu hes' hby' (by omega) (dec_bytes hu' hue hes hby)).mono fun cs h => by
    obtain ⟨v, n, c, l, rfl, hr, hR, hb⟩ := h
    obtain ⟨bb, ps, rfl, hp⟩ := parts_of hr.1 hR
    exact ⟨v, l, bb, ps, c, rfl, hr, hp, by have : reachBytes = 140737488351232 := rfl; omega⟩

theorem arg_parts {t e e' base : Nat} {v : Value} {d : DataW K} {qs : List MemPlace} (hu : P.underlying t = some (.slice e')) (hes' : P.cellsOf e' = 1) (hby' : P.bytesOf e' = 24) (hu' : P.underlying e' = some (.slice e)) (hue : P.underlying e = some (.int .u8)) (hes : P.cellsOf e = 1) (hby : P.bytesOf e = 1)
    (hval : Value.okWide P W .any base t v) (h : DataW.Trod enc P W 0 (fun _ => true) true t v d qs) (hw : ∀ m, m ∈ d.weights P t → m ≤ reachBytes) :
    ∃ vs bb ps c, (rd v 1 ps.length c vs).holds W ∧ (rdv bb vs ps).holds W ∧ ps.length ≤ 140737488351232 := by
  obtain ⟨a, n, cap, rfl⟩ := okWide_slice hu hval
  obtain ⟨v', vs, bb, ps, c, hc, h1, h2, h3⟩ := trod_of (dec_parts hu hes' hby' hu' hue hes hby) h hw
  obtain rfl : Value.slice a n cap = v' := by simpa [Value.cells] using hc
  exact ⟨vs, bb, ps, c, h1, h2, h3⟩

theorem pParts_len (row : List UInt8) : (pParts row).2.1.length ≤ 16 := by
  unfold pParts
  split
  · simp
  · split
    · have := pAt_length (pC row).2.1 (pC row).2.2 (pC row).1
      show (pAt (pC row).2.1 (pC row).2.2 (pC row).1).1.length ≤ 16
      omega
    · simp

end Go.Kx
