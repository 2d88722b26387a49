/- Own library: parts KxSl, KxSo, KxSq. -/
import Derived.Test.YtniekapfoaiieaaDoorKc4
set_option linter.unusedSimpArgs false
set_option linter.unusedVariables false
/- Own library, part Sl: passphrases' slots, in plain Lean. -/
set_option linter.unusedSimpArgs false
namespace Go.Kx
open Go
variable {P : Program} {ops : Array Oper} {D : Option (Nat → Prop)} {Q : Exit → Act → World → Prop} {w0 w w' : World} {M : List Nat} {H H' : List Ent}
  {a : Act} {n : Nat} {L : List (Nat × Value)} {rest : List (Bool × Oper)} {d : Nat} {ty : TypeId} {pos : String} {aft : Array Edge} {x y z : Operand} {u v r : Value}
def slotT : List UInt8 := [115, 108, 111, 116]
def okp (p : List UInt8) : Bool := decide (1 ≤ p.length) && decide (p.length ≤ 48)
def okr (z : Int) : Bool := decide (1 ≤ z) && decide (z ≤ 4096)
def phrZ (p : List UInt8) : List UInt8 := if okp p then phrW p else []
def passE (p : List UInt8) : Nat := if okp p then 0 else 2
def keyZ (b a : List UInt8) (z : Int) : List UInt8 := if okr z then keyW b a z.toNat 32 else []
def roundE (z : Int) : Nat := if okr z then 0 else 2
theorem phrZ_len (p : List UInt8) : (phrZ p).length ≤ 49 := by
  unfold phrZ; split
  · rename_i h; simp [okp] at h; simp [phrW]; omega
  · simp
def kK (p a : List UInt8) (z : Int) : List UInt8 := if okp p && okr z then keyW (phrW p) a z.toNat 32 else List.replicate 32 0
def kE (p : List UInt8) (z : Int) : Nat := if okp p && okr z then 0 else 2
theorem kK_len (p a : List UInt8) (z : Int) : (kK p a z).length = 32 := by unfold kK; split <;> simp
def keyS (p : List UInt8) (s : So) : List UInt8 := kK p s.2.2.1 s.2.1
def opS (p : List UInt8) (s : So) : Bool := s.1 && unwB (keyS p s) slotT 0 s.2.2.2.1 s.2.2.2.2
def arS (p : List UInt8) (s : So) : List UInt8 := wrapD (keyS p s) slotT 0 s.2.2.2.1
theorem arS_len {p : List UInt8} {s : So} (h : OkS s) : (arS p s).length = 32 := wrapD_len h.2.2.1
def mayS (h : Hd) (p : List UInt8) : Bool := okp p && decide (checkH h = 0)
def unl (h : Hd) (p : List UInt8) : List UInt8 × Nat × Nat :=
  if !mayS h p then (List.replicate 32 0, 0, 2) else if opS p h.s0 then (arS p h.s0, 0, 0) else if opS p h.s1 then (arS p h.s1, 1, 0) else if opS p h.s2 then (arS p h.s2, 2, 0) else if opS p h.s3 then (arS p h.s3, 3, 0) else (List.replicate 32 0, 0, 12)
theorem unl_len {h : Hd} (k : OkHd h) (p : List UInt8) : (unl h p).1.length = 32 := by
  unfold unl
  split
  · simp
  split
  · exact arS_len k.s0
  split
  · exact arS_len k.s1
  split
  · exact arS_len k.s2
  split
  · exact arS_len k.s3
  · simp
def usedL (h : Hd) : List Nat := (((if h.s0.1 then [0] else []) ++ (if h.s1.1 then [1] else [])) ++ (if h.s2.1 then [2] else [])) ++ (if h.s3.1 then [3] else [])
theorem usedL_lt {h : Hd} : ∀ i, i ∈ usedL h → i < 4 := by
  intro i hi
  unfold usedL at hi
  simp only [List.mem_append] at hi
  rcases hi with ((hi | hi) | hi) | hi <;> (split at hi <;> simp at hi <;> omega)
theorem usedL_len {h : Hd} : (usedL h).length ≤ 4 := by
  unfold usedL
  cases h.s0.1 <;> cases h.s1.1 <;> cases h.s2.1 <;> cases h.s3.1 <;> simp
def freeS (h : Hd) : Int := if !h.s0.1 then 0 else if !h.s1.1 then 1 else if !h.s2.1 then 2 else if !h.s3.1 then 3 else -1
def getS (h : Hd) : Nat → So
  | 0 => h.s0
  | 1 => h.s1
  | 2 => h.s2
  | _ => h.s3
def setS (h : Hd) : Nat → So → Hd
  | 0, s => { h with s0 := s }
  | 1, s => { h with s1 := s }
  | 2, s => { h with s2 := s }
  | _, s => { h with s3 := s }
theorem setS_ok {h : Hd} {s : So} (k : OkHd h) (ks : OkS s) : ∀ i, OkHd (setS h i s)
  | 0 => ⟨k.m, k.r, k.v0, k.v1, ks, k.s1, k.s2, k.s3⟩
  | 1 => ⟨k.m, k.r, k.v0, k.v1, k.s0, ks, k.s2, k.s3⟩
  | 2 => ⟨k.m, k.r, k.v0, k.v1, k.s0, k.s1, ks, k.s3⟩
  | _ + 3 => ⟨k.m, k.r, k.v0, k.v1, k.s0, k.s1, k.s2, ks⟩
def saltS (h : Hd) (b : List UInt8) : Bool := ((h.s0.1 && decide (h.s0.2.2.1 = b) || h.s1.1 && decide (h.s1.2.2.1 = b)) || h.s2.1 && decide (h.s2.2.2.1 = b)) || h.s3.1 && decide (h.s3.2.2.1 = b)
def thereS (h : Hd) (p b : List UInt8) : Bool := saltS h b || decide ((unl h p).2.2 = 0)
/-- Is a used slot of the first so many in the list of that salt? -/
def saltI (h : Hd) (b : List UInt8) (i : Nat) : Prop := ∀ j, j < i → ¬ (getS h ((usedL h).getD j 0)).2.2.1 = b
theorem saltS_no {h : Hd} {b : List UInt8} (k : saltI h b (usedL h).length) : saltS h b = false := by
  have key : ∀ i, i ∈ usedL h → ¬ (getS h i).2.2.1 = b := by
    intro i hi
    obtain ⟨j, hj, rfl⟩ := List.mem_iff_getElem.1 hi
    have := k j hj
    simpa [List.getD, hj] using this
  have k0 : h.s0.1 = true → ¬ h.s0.2.2.1 = b := fun e => key 0 (by simp [usedL, e])
  have k1 : h.s1.1 = true → ¬ h.s1.2.2.1 = b := fun e => key 1 (by simp [usedL, e])
  have k2 : h.s2.1 = true → ¬ h.s2.2.2.1 = b := fun e => key 2 (by simp [usedL, e])
  have k3 : h.s3.1 = true → ¬ h.s3.2.2.1 = b := fun e => key 3 (by simp [usedL, e])
  simp only [saltS, Bool.or_eq_false_iff, Bool.and_eq_false_imp, decide_eq_false_iff_not]
  exact ⟨⟨⟨k0, k1⟩, k2⟩, k3⟩
theorem usedL_getS {h : Hd} {i : Nat} (hi : i ∈ usedL h) : (getS h i).1 = true := by
  unfold usedL at hi
  simp only [List.mem_append] at hi
  rcases hi with ((hi | hi) | hi) | hi
  · by_cases e : h.s0.1 = true
    · simp [e] at hi; subst hi; exact e
    · simp [e] at hi
  · by_cases e : h.s1.1 = true
    · simp [e] at hi; subst hi; exact e
    · simp [e] at hi
  · by_cases e : h.s2.1 = true
    · simp [e] at hi; subst hi; exact e
    · simp [e] at hi
  · by_cases e : h.s3.1 = true
    · simp [e] at hi; subst hi; exact e
    · simp [e] at hi
theorem saltS_yes {h : Hd} {b : List UInt8} {i : Nat} (hi : i ∈ usedL h) (e : (getS h i).2.2.1 = b) : saltS h b = true := by
  have hu := usedL_getS hi
  have hl := usedL_lt i hi
  match i, hl with
  | 0, _ => simp only [getS] at hu e; simp [saltS, hu, e]
  | 1, _ => simp only [getS] at hu e; simp [saltS, hu, e]
  | 2, _ => simp only [getS] at hu e; simp [saltS, hu, e]
  | 3, _ => simp only [getS] at hu e; simp [saltS, hu, e]
def newS (p b : List UInt8) (z : Int) (x : List UInt8) : So := (true, z, b, wrapD (kK p b z) slotT 0 x, tagB (kK p b z) slotT 0 (wrapD (kK p b z) slotT 0 x))
theorem newS_ok {p b x : List UInt8} {z : Int} (hz : In64 z) (hb : b.length = 16) (hx : x.length = 32) : OkS (newS p b z x) := ⟨hz, hb, wrapD_len hx, tagB_len ..⟩
def addS (h : Hd) (x p b : List UInt8) (z : Int) : Hd × Int × Nat :=
  if !mayS h p then (zH, 0, 2) else if !decide (kE p z = 0) then (zH, 0, 2) else if thereS h p b then (zH, 0, 6) else if freeS h < 0 then (zH, 0, 7) else (setS h (freeS h).toNat (newS p b z x), freeS h, 0)
theorem addS_ok {h : Hd} {x p b : List UInt8} {z : Int} (k : OkHd h) (hz : In64 z) (hb : b.length = 16) (hx : x.length = 32) : OkHd (addS h x p b z).1 := by
  unfold addS
  split
  · exact zH_ok
  split
  · exact zH_ok
  split
  · exact zH_ok
  split
  · exact zH_ok
  · exact setS_ok k (newS_ok hz hb hx) _
def remS (h : Hd) (i : Int) : Hd × Nat :=
  if !decide (checkH h = 0) || (decide (i < 0) || decide (3 < i)) then (zH, 2) else if !(getS h i.toNat).1 then (zH, 5) else (setS h i.toNat zS, 0)
theorem remS_ok {h : Hd} {i : Int} (k : OkHd h) : OkHd (remS h i).1 := by
  unfold remS
  split
  · exact zH_ok
  split
  · exact zH_ok
  · exact setS_ok k zH_ok.s0 _
theorem passE_zero {p : List UInt8} : passE p = 0 ↔ okp p = true := by unfold passE; split <;> simp_all
theorem roundE_zero {z : Int} : roundE z = 0 ↔ okr z = true := by unfold roundE; split <;> simp_all
theorem passE_no {p : List UInt8} (h : ¬ passE p = 0) : okp p = false := by cases e : okp p <;> simp_all [passE_zero]
theorem roundE_no {z : Int} (h : ¬ roundE z = 0) : okr z = false := by cases e : okr z <;> simp_all [roundE_zero]
theorem kE_two {p : List UInt8} {z : Int} (h : ¬ kE p z = 0) : kE p z = 2 := by
  unfold kE at *
  split at h <;> simp_all
theorem op_unused {p : List UInt8} {s : So} (h : s.1 = false) : opS p s = false := by simp [opS, h]
theorem op_no {p : List UInt8} {s : So} (h : ¬ unwE (kK p s.2.2.1 s.2.1) slotT 0 s.2.2.2.1 s.2.2.2.2 = 0) : opS p s = false := by
  have : unwB (keyS p s) slotT 0 s.2.2.2.1 s.2.2.2.2 = false := by
    unfold unwE at h
    cases e : unwB (kK p s.2.2.1 s.2.1) slotT 0 s.2.2.2.1 s.2.2.2.2
    · exact e
    · rw [e] at h; exact absurd rfl h
  simp [opS, this]
theorem op_yes {p : List UInt8} {s : So} (hu : s.1 = true) (h : unwE (kK p s.2.2.1 s.2.1) slotT 0 s.2.2.2.1 s.2.2.2.2 = 0) : opS p s = true ∧ unwK (kK p s.2.2.1 s.2.1) slotT 0 s.2.2.2.1 s.2.2.2.2 = arS p s := by
  have e : unwB (kK p s.2.2.1 s.2.1) slotT 0 s.2.2.2.1 s.2.2.2.2 = true := by
    unfold unwE at h
    cases e : unwB (kK p s.2.2.1 s.2.1) slotT 0 s.2.2.2.1 s.2.2.2.2
    · rw [e] at h; cases h
    · rfl
  refine ⟨by simp only [opS, keyS, hu, e, Bool.and_self], ?_⟩
  rw [unwK, e]; rfl
theorem saltI_zero {h : Hd} {b : List UInt8} : saltI h b 0 := fun _ hj => absurd hj (Nat.not_lt_zero _)
theorem saltI_succ {h : Hd} {b : List UInt8} {i : Nat} (k : saltI h b i) (e : ¬ (getS h ((usedL h).getD i 0)).2.2.1 = b) : saltI h b (i + 1) := fun j hj => by
  by_cases hji : j = i
  · subst hji; exact e
  · exact k j (by omega)
theorem usedL_four {h : Hd} {i : Nat} (hi : i < (usedL h).length) : (usedL h).getD i 0 = 0 ∨ (usedL h).getD i 0 = 1 ∨ (usedL h).getD i 0 = 2 ∨ (usedL h).getD i 0 = 3 := by
  have hm : (usedL h).getD i 0 ∈ usedL h := by simp [List.getD, hi]
  have := usedL_lt _ hm
  omega
theorem usedL_mem {h : Hd} {i : Nat} (hi : i < (usedL h).length) : (usedL h).getD i 0 ∈ usedL h := by simp [List.getD, hi]
theorem there_salt {h : Hd} {p b : List UInt8} {i j : Nat} (hi : i < (usedL h).length) (hc : (usedL h).getD i 0 = j) (e : (getS h j).2.2.1 = b) : thereS h p b = true := by
  have hs : saltS h b = true := saltS_yes (usedL_mem hi) (by rw [hc]; exact e)
  simp [thereS, hs]
theorem freeS_five (h : Hd) : freeS h = -1 ∨ freeS h = 0 ∨ freeS h = 1 ∨ freeS h = 2 ∨ freeS h = 3 := by
  unfold freeS
  split
  · simp
  split
  · simp
  split
  · simp
  split <;> simp
def intC (i : Nat) : List Value := [.int .i64 (i : Int)]
theorem intCs_one (ls : List Nat) : One (ls.flatMap intC) := fun v hv => by
  obtain ⟨c, _, h⟩ := List.mem_flatMap.1 hv
  simp [intC] at h; subst h; rfl
/-! ## The chapter's header -/
def emptyH : Hd := ⟨4, 1, zV, zV, zS, zS, zS, zS⟩
def k7 : List UInt8 := 7 :: List.replicate 31 0
def sa1 : List UInt8 := 1 :: List.replicate 15 0
def sa2 : List UInt8 := 2 :: List.replicate 15 0
def n1T : So := newS [97, 98] sa1 2 k7
def h1T : Hd := setS emptyH 0 n1T
def n2T : So := newS [99, 100] sa2 1 k7
def h2T : Hd := setS h1T 1 n2T
theorem emptyH_ok : OkHd emptyH := ⟨by unfold In64; decide, by unfold In64; decide, zH_ok.v0, zH_ok.v1, zH_ok.s0, zH_ok.s1, zH_ok.s2, zH_ok.s3⟩
theorem h1T_ok : OkHd h1T := setS_ok emptyH_ok (newS_ok (by unfold In64; decide) (by decide) (by decide)) 0
theorem h2T_ok : OkHd h2T := setS_ok h1T_ok (newS_ok (by unfold In64; decide) (by decide) (by decide)) 1
theorem tagB0 (k d : List UInt8) : tagB k slotT 0 d = hmacW (subW k [115, 108, 111, 116, 32, 115, 101, 97, 108, 32, 48]) (plT 66 d) := by rw [seal_slot]; rfl
theorem wrapD0 (k x : List UInt8) : wrapD k slotT 0 x = xorW x (subW k [115, 108, 111, 116, 32, 112, 97, 100, 32, 48]) := by rw [mask_slot]; rfl
/-- The other passphrase does not open the first slot. -/
theorem other_no : unwB (kK [99, 100] sa1 2) slotT 0 n1T.2.2.2.1 n1T.2.2.2.2 = false := by
  have e1 : n1T.2.2.2.1 = wrapD (kK [97, 98] sa1 2) slotT 0 k7 := rfl
  have e2 : n1T.2.2.2.2 = tagB (kK [97, 98] sa1 2) slotT 0 (wrapD (kK [97, 98] sa1 2) slotT 0 k7) := rfl
  rw [e1, e2, unwB, tagB0, tagB0, wrapD0]
  decide +kernel
theorem op_new {p b x : List UInt8} {z : Int} (hx : x.length = 32) : opS p (newS p b z x) = true ∧ arS p (newS p b z x) = x := by
  have h := unw_ok (k := kK p b z) (l := slotT) (n := 0) hx
  refine ⟨?_, wrap_back hx⟩
  show (true && unwB (kK p b z) slotT 0 (wrapD (kK p b z) slotT 0 x) (tagB (kK p b z) slotT 0 (wrapD (kK p b z) slotT 0 x))) = true
  simp [unwB]
theorem op_zS (p : List UInt8) : opS p zS = false := op_unused rfl
theorem may_e : mayS emptyH [97, 98] = true := by decide +kernel
theorem may_1 : mayS h1T [99, 100] = true := by decide +kernel
theorem may_2a : mayS h2T [97, 98] = true := by decide +kernel
theorem may_2b : mayS h2T [99, 100] = true := by decide +kernel
theorem add1T : addS emptyH k7 [97, 98] sa1 2 = (h1T, 0, 0) := by
  have h1 : kE [97, 98] 2 = 0 := by decide
  have h2 : thereS emptyH [97, 98] sa1 = false := by
    have e : (unl emptyH [97, 98]).2.2 = 12 := by
      have h0 : opS [97, 98] emptyH.s0 = false := op_zS _
      have h1 : opS [97, 98] emptyH.s1 = false := op_zS _
      have h2 : opS [97, 98] emptyH.s2 = false := op_zS _
      have h3 : opS [97, 98] emptyH.s3 = false := op_zS _
      simp [unl, may_e, h0, h1, h2, h3]
    have hs : saltS emptyH sa1 = false := by decide +kernel
    simp [thereS, hs, e]
  simp only [addS, may_e, h1, h2]
  rfl
theorem op_other : opS [99, 100] h1T.s0 = false := by
  show (true && unwB (kK [99, 100] sa1 2) slotT 0 n1T.2.2.2.1 n1T.2.2.2.2) = false
  rw [other_no]; rfl
theorem add2T : addS h1T k7 [99, 100] sa2 1 = (h2T, 1, 0) := by
  have h1 : kE [99, 100] 1 = 0 := by decide
  have h2 : thereS h1T [99, 100] sa2 = false := by
    have e : (unl h1T [99, 100]).2.2 = 12 := by
      have h0 : opS [99, 100] h1T.s1 = false := op_zS _
      have h0' : opS [99, 100] h1T.s2 = false := op_zS _
      have h0'' : opS [99, 100] h1T.s3 = false := op_zS _
      simp [unl, may_1, op_other, h0, h0', h0'']
    have hs : saltS h1T sa2 = false := by decide +kernel
    simp [thereS, hs, e]
  simp only [addS, may_1, h1, h2]
  rfl
theorem unl1T : unl h2T [97, 98] = (k7, 0, 0) := by
  have h := op_new (p := [97, 98]) (b := sa1) (x := k7) (z := 2) (by decide)
  have h0 : opS [97, 98] h2T.s0 = true := h.1
  have h1 : arS [97, 98] h2T.s0 = k7 := h.2
  simp [unl, may_2a, h0, h1]
theorem unl2T : unl h2T [99, 100] = (k7, 1, 0) := by
  have h := op_new (p := [99, 100]) (b := sa2) (x := k7) (z := 1) (by decide)
  have h0 : opS [99, 100] h2T.s0 = false := op_other
  have h1 : opS [99, 100] h2T.s1 = true := h.1
  have h2 : arS [99, 100] h2T.s1 = k7 := h.2
  simp [unl, may_2b, h0, h1, h2]
def opensB (h : Hd) (p : List UInt8) (j : Nat) : Bool := decide ((unl h p).1 = k7) && (decide ((unl h p).2.1 = j) && decide ((unl h p).2.2 = 0))
def noB (h : Hd) (p : List UInt8) (j : Nat) : Bool := decide ((unl h p).1 = List.replicate 32 0) && (decide ((unl h p).2.1 = 0) && decide ((unl h p).2.2 = j))
theorem opens1T : opensB h2T [97, 98] 0 = true := by rw [opensB, unl1T]; rfl
theorem opens2T : opensB h2T [99, 100] 1 = true := by rw [opensB, unl2T]; rfl
/-- A slice as a pointer to an array. -/
theorem s_toArrV {t e es N m : Nat} {v : Value} {bs : List UInt8} (hE : Env a n L) (hx : ev L x = some v) (hr : (ownW v es m (bv bs)).holds w) (h1 : es = 1) (hm : m = N) (h0 : 0 < N) (ht : P.underlying t = some (.array N e)) (hn : Nat.blt d n = true)
    (k : ∀ a' p, Env a' n ((d, p) :: L) → (cellsAt p (bv bs)).holds w → wpL P ops D Q rest a' w) : wpL P ops D Q ((true, ⟨some d, .sliceToArrayPointer t x, ty, pos, aft, none⟩) :: rest) a w := by
  subst h1 hm
  obtain ⟨hl, ⟨rfl, rfl⟩ | ⟨b, cap, cur, T, fr, rfl, g1, g3, g4, g5, g6⟩⟩ := hr
  · omega
  refine s_toArrP hE hx ht (Nat.le_refl _) hn (fun a' hE' => k a' _ hE' ⟨b, 0, rfl, (Array.getElem?_eq_some_iff.1 g3).1, fun i x hx => ?_⟩)
  rw [Nat.zero_add, cell_of_row w b i _ T fr g3]
  rw [← g5, List.getElem?_take] at hx
  split at hx
  · simpa using hx
  · cases hx
end Go.Kx
/- Own library, part So: what a slot's coming and going changes. -/
set_option linter.unusedSimpArgs false
namespace Go.Kx
open Go
end Go.Kx
/- Own library, part Sq: the chapter's examples of slots. -/
set_option linter.unusedSimpArgs false
namespace Go.Kx
open Go
def sealc : List UInt8 := [115, 108, 111, 116, 32, 115, 101, 97, 108, 32, 48]
def padc : List UInt8 := [115, 108, 111, 116, 32, 112, 97, 100, 32, 48]
def opC (q p b : List UInt8) (z : Int) (x : List UInt8) : Bool := decide (hmacW (subW (kK q b z) sealc) (plT 66 (xorW x (subW (kK p b z) padc))) = hmacW (subW (kK p b z) sealc) (plT 66 (xorW x (subW (kK p b z) padc))))
theorem unw0 (K k x : List UInt8) : unwB K slotT 0 (wrapD k slotT 0 x) (tagB k slotT 0 (wrapD k slotT 0 x)) = decide (hmacW (subW K sealc) (plT 66 (xorW x (subW k padc))) = hmacW (subW k sealc) (plT 66 (xorW x (subW k padc)))) := by
  unfold unwB
  simp only [tagB0, wrapD0, sealc, padc]
  exact decide_eq_decide.2 Iff.rfl
theorem opn {q p b x : List UInt8} {z : Int} (h : opC q p b z x = false) : opS q (newS p b z x) = false := by
  show (true && unwB (kK q b z) slotT 0 (wrapD (kK p b z) slotT 0 x) (tagB (kK p b z) slotT 0 (wrapD (kK p b z) slotT 0 x))) = false
  rw [unw0]
  unfold opC at h
  rw [h]; rfl
def sa3 : List UInt8 := 3 :: List.replicate 15 0
def sa4 : List UInt8 := 4 :: List.replicate 15 0
def sa5 : List UInt8 := 5 :: List.replicate 15 0
def sa9 : List UInt8 := 9 :: List.replicate 15 0
def n3T : So := newS [101, 102] sa1 1 k7
def n4T : So := newS [103, 104] sa3 1 k7
def n5T : So := newS [105, 106] sa4 1 k7
def gT : Hd := setS h2T 0 zS
def hnT : Hd := setS gT 0 n3T
def hqT : Hd := setS hnT 2 n4T
def hsT : Hd := setS hqT 3 n5T
theorem gT_ok : OkHd gT := setS_ok h2T_ok zH_ok.s0 0
theorem hnT_ok : OkHd hnT := setS_ok gT_ok (newS_ok (by unfold In64; decide) (by decide) (by decide)) 0
theorem hqT_ok : OkHd hqT := setS_ok hnT_ok (newS_ok (by unfold In64; decide) (by decide) (by decide)) 2
theorem hsT_ok : OkHd hsT := setS_ok hqT_ok (newS_ok (by unfold In64; decide) (by decide) (by decide)) 3
theorem x1 : opS [101, 102] n1T = false := opn (by decide +kernel)
theorem x2 : opS [101, 102] n2T = false := opn (by decide +kernel)
theorem x3 : opS [103, 104] n3T = false := opn (by decide +kernel)
theorem x4 : opS [103, 104] n2T = false := opn (by decide +kernel)
theorem x5 : opS [105, 106] n3T = false := opn (by decide +kernel)
theorem x6 : opS [105, 106] n2T = false := opn (by decide +kernel)
theorem x7 : opS [105, 106] n4T = false := opn (by decide +kernel)
theorem x8 : opS [107, 108] n3T = false := opn (by decide +kernel)
theorem x9 : opS [107, 108] n2T = false := opn (by decide +kernel)
theorem x10 : opS [107, 108] n4T = false := opn (by decide +kernel)
theorem x11 : opS [107, 108] n5T = false := opn (by decide +kernel)
theorem x12 : opS [97, 98] n2T = false := opn (by decide +kernel)
/-- Not one of four slots opens. -/
theorem unl12 {h : Hd} {p : List UInt8} (hm : mayS h p = true) (h0 : opS p h.s0 = false) (h1 : opS p h.s1 = false) (h2 : opS p h.s2 = false) (h3 : opS p h.s3 = false) : unl h p = (List.replicate 32 0, 0, 12) := by simp [unl, hm, h0, h1, h2, h3]
theorem m1 : mayS h2T [101, 102] = true := by decide +kernel
theorem m2 : mayS gT [101, 102] = true := by decide +kernel
theorem m3 : mayS hnT [103, 104] = true := by decide +kernel
theorem m4 : mayS hqT [105, 106] = true := by decide +kernel
theorem m5 : mayS hsT [107, 108] = true := by decide +kernel
theorem m6 : mayS gT [97, 98] = true := by decide +kernel
theorem m7 : mayS gT [99, 100] = true := by decide +kernel
theorem no1T : noB h2T [101, 102] 12 = true := by rw [noB, unl12 m1 x1 x2 (op_zS _) (op_zS _)]; decide
theorem no2T : noB h2T [] 2 = true := by simp [noB, unl, mayS, okp]
theorem no3T : noB zH [97, 98] 2 = true := by
  have : mayS zH [97, 98] = false := by decide +kernel
  simp [noB, unl, this]
theorem chk2 : checkH h2T = 0 := by decide +kernel
theorem chkg : checkH gT = 0 := by decide +kernel
theorem rem1T : remS h2T 0 = (gT, 0) := by rw [remS, chk2]; rfl
theorem rem2T : (remS gT 0).2 = 5 := by rw [remS, chkg]; rfl
theorem rem3T : (remS gT 4).2 = 2 := by rw [remS, chkg]; rfl
theorem ad3T : (addS h2T k7 [97, 98] sa9 1).2.2 = 6 := by
  have h1 : kE [97, 98] 1 = 0 := by decide
  have h2 : thereS h2T [97, 98] sa9 = true := by simp [thereS, unl1T]
  simp only [addS, may_2a, h1, h2]; rfl
theorem ad4T : (addS h2T k7 [101, 102] sa1 1).2.2 = 6 := by
  have h1 : kE [101, 102] 1 = 0 := by decide
  have hs : saltS h2T sa1 = true := by decide +kernel
  have h2 : thereS h2T [101, 102] sa1 = true := by simp [thereS, hs]
  simp only [addS, m1, h1, h2]; rfl
theorem ad5T : (addS emptyH k7 [97, 98] sa1 0).2.2 = 2 := by
  have h1 : kE [97, 98] 0 = 2 := by decide
  simp only [addS, may_e, h1]; rfl
theorem add_of {h : Hd} {x p b : List UInt8} {z : Int} (hm : mayS h p = true) (hk : kE p z = 0) (hs : saltS h b = false) (h0 : opS p h.s0 = false) (h1 : opS p h.s1 = false) (h2 : opS p h.s2 = false) (h3 : opS p h.s3 = false) : addS h x p b z = if freeS h < 0 then (zH, 0, 7) else (setS h (freeS h).toNat (newS p b z x), freeS h, 0) := by
  have ht : thereS h p b = false := by rw [thereS, unl12 hm h0 h1 h2 h3, hs]; decide
  simp only [addS, hm, hk, ht]; rfl
theorem ad6T : addS gT k7 [101, 102] sa1 1 = (hnT, 0, 0) := (add_of m2 (by decide) (by decide +kernel) (op_zS _) x2 (op_zS _) (op_zS _)).trans rfl
theorem ad7T : addS hnT k7 [103, 104] sa3 1 = (hqT, 2, 0) := (add_of m3 (by decide) (by decide +kernel) x3 x4 (op_zS _) (op_zS _)).trans rfl
theorem ad8T : addS hqT k7 [105, 106] sa4 1 = (hsT, 3, 0) := (add_of m4 (by decide) (by decide +kernel) x5 x6 x7 (op_zS _)).trans rfl
theorem ad9T : (addS hsT k7 [107, 108] sa5 1).2.2 = 7 := congrArg (fun q : Hd × Int × Nat => q.2.2) ((add_of m5 (by decide) (by decide +kernel) x8 x9 x10 x11).trans rfl)
theorem no4T : noB gT [97, 98] 12 = true := by rw [noB, unl12 m6 (op_zS _) x12 (op_zS _) (op_zS _)]; decide
theorem opens3T : opensB gT [99, 100] 1 = true := by
  have h := op_new (p := [99, 100]) (b := sa2) (x := k7) (z := 1) (by decide)
  have h0 : opS [99, 100] gT.s0 = false := op_zS _
  have h1 : opS [99, 100] gT.s1 = true := h.1
  have h2 : arS [99, 100] gT.s1 = k7 := h.2
  simp [opensB, unl, m7, h0, h1, h2]
end Go.Kx
