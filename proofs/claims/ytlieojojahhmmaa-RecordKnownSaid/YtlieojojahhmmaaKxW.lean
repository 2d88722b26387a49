/- Own library, part W: lists of widths, numbers and texts: laid one behind the other, and taken back. -/
import Derived.Test.YtlieojojahhmmaaKxV
set_option linter.unusedSimpArgs false
set_option linter.unusedVariables false
namespace Go.Kx
open Go
variable {P : Program} {w0 w : World} {M : List Nat} {H : List Ent}

/-- A block's parts are named anew. -/
theorem Mem.resplit {b T : Nat} {ss ss' : List (List Value)} {ns ns' : List Nat} (hM : Mem w0 M w (blk b ss ns T :: H)) (hf : ss'.flatten = ss.flatten) (hn : ss'.map List.length = ns') : Mem w0 M w (blk b ss' ns' T :: H) := by
  refine Mem.act (es := [blk b ss ns T]) (es' := [blk b ss' ns' T]) hM rfl rfl rfl (Nat.le_refl _) (fun _ _ _ => rfl) ?_ ?_ ?_ ?_ (List.pairwise_singleton ..)
  · intro e he; rw [List.mem_singleton.1 he]
    obtain ⟨_, fr, h1, h2⟩ := hM.get 0 rfl
    exact ⟨hn, fr, by rw [hf]; exact h1, by rw [hf]; exact h2⟩
  · intro e he b' hb; rw [List.mem_singleton.1 he] at hb; exact .inl ⟨_, .head _, hb⟩
  · intro e he b' hb; rw [List.mem_singleton.1 he] at hb; cases hb
  · intro e he b' hb; rw [List.mem_singleton.1 he] at hb; cases hb

abbrev Trio := Int × Nat × ByteArray
def it (k : Trio) : List Value := [.int .i64 k.1, .int .u64 (k.2.1 : Int), .string k.2.2]
def its (ls : List Trio) : List Value := ls.flatMap it
def it0 : Trio := (0, 0, .empty)

theorem its_elem : ∀ {ls : List Trio} {i : Nat}, i < ls.length → ((its ls).drop (i * 3)).take 3 = it (ls.getD i it0)
  | p :: ls, 0, _ => rfl
  | p :: ls, i + 1, h => by
    have := its_elem (ls := ls) (i := i) (by simpa using h)
    rw [show (i + 1) * 3 = i * 3 + 3 by omega]
    simpa [its, it] using this

theorem its_one (ls : List Trio) : One (its ls) := fun v hv => by
  obtain ⟨k, _, hk⟩ := List.mem_flatMap.1 hv
  simp only [it, List.mem_cons, List.not_mem_nil, or_false] at hk
  rcases hk with rfl | rfl | rfl <;> rfl

theorem its_snoc (ls : List Trio) (k : Trio) : its ls ++ it k = its (ls ++ [k]) := by simp [its]

def FitsT (k : Trio) : Prop := numFits k.1 k.2.1 = true ∧ k.2.1 < 2 ^ 64 ∧ k.2.2.size ≤ 300
def encI (k : Trio) : List UInt8 := laid k.1.toNat k.2.1 ++ (laid 2 k.2.2.size ++ k.2.2.data.toList)
def enc (ks : List Trio) : List UInt8 := ks.flatMap encI

theorem fits_width {x : Int} {m : Nat} (h : numFits x m = true) : ∃ k : Nat, x = (k : Int) ∧ k ≤ 8 ∧ 1 ≤ k ∧ widthB k = true := by
  simp only [numFits, Bool.and_eq_true] at h
  obtain ⟨k, rfl, h1, h2⟩ := widthB_nat h.1
  exact ⟨k, rfl, h1, h2, h.1⟩

theorem encI_len {k : Trio} (h : FitsT k) : (encI k).length ≤ 310 := by
  obtain ⟨n, hn, h1, _, _⟩ := fits_width h.1
  have h2 : k.2.2.data.toList.length = k.2.2.size := rfl
  have h3 := h.2.2
  simp [encI, hn]
  have h4 : k.2.2.data.size = k.2.2.size := rfl
  omega

theorem enc_len : ∀ {ks : List Trio}, (∀ k, k ∈ ks → FitsT k) → (enc ks).length ≤ 310 * ks.length
  | [], _ => by simp [enc]
  | k :: ks, h => by
    have h1 := encI_len (h k (.head _))
    have h2 := enc_len (ks := ks) (fun q hq => h q (.tail _ hq))
    simp [enc] at h2 ⊢
    omega

theorem enc_snoc (ks : List Trio) (k : Trio) : enc (ks ++ [k]) = enc ks ++ laid k.1.toNat k.2.1 ++ (laid 2 k.2.2.size ++ k.2.2.data.toList) := by simp [enc, encI]

theorem tNum_enc {k : Trio} (h : FitsT k) (r : List UInt8) : tNum (laid k.1.toNat k.2.1 ++ r) false k.1 = (k.2.1, r, false) := by
  obtain ⟨n, hn, h1, h2, hw⟩ := fits_width h.1
  have hf := h.1
  rw [hn] at hf ⊢
  rw [fits_iff h1 h.2.1 hw] at hf
  have hl : (laid n k.2.1).length = n := by simp
  unfold tNum
  rw [Int.toNat_natCast, if_pos]
  · rw [List.take_left' hl, List.drop_left' hl, of_decide_eq_true hf]
  · simp [numOk, hw]; omega

theorem tText_enc {s : ByteArray} (h : s.size ≤ 300) (r : List UInt8) : tText (laid 2 s.size ++ (s.data.toList ++ r)) false 300 = (s.data.toList, r, false) := by
  have hl : (laid 2 s.size).length = 2 := by simp
  have e1 : (laid 2 s.size ++ (s.data.toList ++ r)).take 2 = laid 2 s.size := List.take_left' hl
  have e2 : (laid 2 s.size ++ (s.data.toList ++ r)).drop 2 = s.data.toList ++ r := List.drop_left' hl
  have e3 : val (laid 2 s.size) = s.size := by
    rw [val_laid]
    exact Nat.mod_eq_of_lt (Nat.lt_of_le_of_lt h (by decide))
  have h4 : s.data.toList.length = s.size := rfl
  have h5 : s.data.size = s.size := rfl
  unfold tText
  rw [e1, e2, e3, if_pos]
  · rw [← List.drop_drop, e2, Nat.add_sub_cancel_left, List.take_left' h4, List.drop_left' h4]
  · simp [textOk, e1, e3, h5]
    omega

theorem enc_drop {ks : List Trio} {i : Nat} (h : i < ks.length) : enc (ks.drop i) = laid (ks.getD i it0).1.toNat (ks.getD i it0).2.1 ++ (laid 2 (ks.getD i it0).2.2.size ++ ((ks.getD i it0).2.2.data.toList ++ enc (ks.drop (i + 1)))) := by
  unfold enc
  rw [List.drop_eq_getElem_cons h, List.flatMap_cons]
  simp [encI, List.getD, h]

theorem good_get {ks : List Trio} (hg : ∀ k, k ∈ ks → FitsT k) {i : Nat} (h : i < ks.length) : FitsT (ks.getD i it0) := by
  have : ks.getD i it0 = ks[i] := by simp [List.getD, h]
  rw [this]; exact hg _ (List.getElem_mem h)

theorem its_of {l : List Value} {n : Nat} (hl : l.length = n * 3) (h : ∀ i, i < n → ∃ k : Trio, (l.drop (i * 3)).take 3 = it k ∧ k.2.1 < 2 ^ 64) : ∃ ls, l = its ls ∧ ls.length = n ∧ ∀ k, k ∈ ls → k.2.1 < 2 ^ 64 := by
  induction n generalizing l with
  | zero => exact ⟨[], List.eq_nil_of_length_eq_zero (by omega), rfl, fun k hk => by cases hk⟩
  | succ n ih =>
    match l, hl with
    | [], hl => simp at hl
    | [u], hl => simp at hl; omega
    | [u, v], hl => simp at hl; omega
    | u :: v :: x :: l, hl =>
      obtain ⟨k, e, hk⟩ := h 0 (by omega)
      simp [it] at e
      obtain ⟨rfl, rfl, rfl⟩ := e
      obtain ⟨ls, rfl, h2, h3⟩ := ih (l := l) (by simp at hl; omega) (fun i hi => by
        have := h (i + 1) (by omega)
        rw [show (i + 1) * 3 = i * 3 + 3 by omega] at this
        simpa using this)
      refine ⟨k :: ls, by simp [its, it], by simp [h2], fun q hq => ?_⟩
      rcases List.mem_cons.1 hq with rfl | hq
      · exact hk
      · exact h3 q hq

theorem it_one (k : Trio) : One (it k) := fun v hv => by
  simp only [it, List.mem_cons, List.not_mem_nil, or_false] at hv
  rcases hv with rfl | rfl | rfl <;> rfl

theorem pNum_code (bs : List UInt8) (x : Int) (m : Nat) : (numFits x m = true ∧ pNum bs x m = (bs ++ laid x.toNat m, 0)) ∨ pNum bs x m = ([], 2) := by
  unfold pNum
  split
  · exact .inl ⟨by assumption, rfl⟩
  · exact .inr rfl

theorem get_mem {ls : List Trio} {i : Nat} (h : i < ls.length) : ls.getD i it0 ∈ ls := by
  have : ls.getD i it0 = ls[i] := by simp [List.getD, h]
  rw [this]; exact List.getElem_mem h

variable {W : World} {K : Type} {enc' : TypeId × Value → K}
open Go.ChangeShapes Go.WideShapes Go.ChangeAt Go.RowKit

theorem dec_trio {e t0 t1 t2 : Nat} {fs : Array Field} (hu : P.underlying e = some (.struct fs)) (hs : P.cellsOf e = 3) (hl : fs.toList.map (fun f => (f.type, f.offset, P.cellsOf f.type)) = [(t0, 0, 1), (t1, 1, 1), (t2, 2, 1)])
    (h0 : P.underlying t0 = some (.int .i64)) (h1 : P.underlying t1 = some (.int .u64)) (h2 : P.underlying t2 = some .string) : Dec P W e (fun cs => ∃ k : Trio, cs = it k ∧ k.2.1 < 2 ^ 64) :=
  (dec_structL [(t0, 0, 1, fun cs => ∃ i, cs = [.int .i64 i] ∧ IntKind.i64.min ≤ i ∧ i ≤ IntKind.i64.max), (t1, 1, 1, fun cs => ∃ i, cs = [.int .u64 i] ∧ IntKind.u64.min ≤ i ∧ i ≤ IntKind.u64.max), (t2, 2, 1, fun cs => ∃ s : ByteArray, cs = [.string s] ∧ s.size ≤ reachBytes)] hu hs hl (by
    intro p hp
    simp only [List.mem_cons, List.not_mem_nil, or_false] at hp
    rcases hp with rfl | rfl | rfl
    · exact dec_int h0
    · exact dec_int h1
    · exact dec_string h2)).mono fun cs h => by
    obtain ⟨a, b, c, rfl⟩ := len3 h.1
    obtain ⟨i, hi, _⟩ := h.2 _ (.head _)
    obtain ⟨j, hj, hj1, hj2⟩ := h.2 _ (.tail _ (.head _))
    obtain ⟨s, hs, _⟩ := h.2 _ (.tail _ (.tail _ (.head _)))
    simp only [List.drop_zero, List.drop_succ_cons, List.take_succ_cons, List.take_zero, List.cons.injEq, and_true] at hi hj hs
    obtain ⟨m, rfl⟩ := Int.eq_ofNat_of_zero_le (show 0 ≤ j from hj1)
    have hm : (m : Int) ≤ 18446744073709551615 := hj2
    refine ⟨(i, m, s), by rw [hi, hj, hs]; rfl, ?_⟩
    show m < 2 ^ 64
    omega

theorem arg_its {t e base : Nat} {v : Value} {d : DataW K} {qs : List MemPlace} (hu : P.underlying t = some (.slice e)) (hes : P.cellsOf e = 3) (hby : P.bytesOf e = 32) (hd : Dec P W e (fun cs => ∃ k : Trio, cs = it k ∧ k.2.1 < 2 ^ 64)) (hval : Value.okWide P W .any base t v)
    (h : DataW.Trod enc' P W 0 (fun _ => true) true t v d qs) (hw : ∀ m, m ∈ d.weights P t → m ≤ reachBytes) : ∃ ls c, (rd v 3 ls.length c (its ls)).holds W ∧ (∀ k, k ∈ ls → k.2.1 < 2 ^ 64) ∧ ls.length ≤ 140737488351232 := by
  obtain ⟨a, n, cap, rfl⟩ := okWide_slice hu hval
  obtain ⟨v', m, c, l, hc, hr, hR, hb⟩ := trod_of (dec_slice hu hes hby (by omega) hd) h hw
  obtain rfl : Value.slice a n cap = v' := by simpa [Value.cells] using hc
  obtain ⟨ls, rfl, rfl, hms⟩ := its_of hr.1 hR
  exact ⟨ls, c, hr, hms, by have : reachBytes = 140737488351232 := rfl; omega⟩

end Go.Kx
