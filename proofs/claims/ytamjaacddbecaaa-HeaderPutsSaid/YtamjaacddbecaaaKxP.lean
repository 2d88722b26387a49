/- Own library, part P: plain functions that the bytes layer comes to, and small laws for its walks. -/
import Derived.Test.YtamjaacddbecaaaKxG
import Derived.Lib.Bytes
set_option linter.unusedSimpArgs false
set_option linter.unusedVariables false
namespace Go.Kx
open Go
variable {P : Program} {w0 w w' : World} {M : List Nat} {H : List Ent}

def laid (k m : Nat) : List UInt8 := (List.range k).map fun i => UInt8.ofNat (m / 2 ^ (8 * (k - 1 - i)))

@[simp] theorem laid_length (k m : Nat) : (laid k m).length = k := by simp [laid]

theorem laid_take_succ {k m i : Nat} (h : i < k) : (laid k m).take (i + 1) = (laid k m).take i ++ [UInt8.ofNat (m / 2 ^ (8 * (k - 1 - i)))] := by
  rw [List.take_succ_eq_append_getElem (by simpa using h)]
  simp [laid]

theorem bin_shr_nat {t : TypeId} {k k' : IntKind} {m s : Nat} {j : Int} (hj : j = (s : Int)) (hs : s ≤ k.bits) : Bin P .shr t (.int k m) (.int k' j) (.int k ((m / 2 ^ s : Nat) : Int)) := bin_of rfl fun w => by
  subst hj
  have h1 : ¬ ((s : Int) < 0) := by omega
  have h2 : min (s : Int).toNat k.bits = s := by simp; omega
  simp only [binOp, Op.shift, h1, if_false, h2]
  have e : (m : Int).fdiv (2 ^ s) = ((m / 2 ^ s : Nat) : Int) := by
    rw [Int.fdiv_eq_ediv_of_nonneg _ (Int.le_of_lt (Int.pow_pos (by omega)))]
    simp
  rw [e]; rfl

/-- A test of '!'. -/
theorem not_true {b : Bool} (h : (!b) = true) : b = false := by simpa using h
theorem not_false' {b : Bool} (h : (!b) = false) : b = true := by simpa using h

theorem len47 {m : Nat} (h : m ≤ 140737488355328) : m ≤ maxLen := by rw [maxLen_eq]; omega


/-! ## Numbers out of bytes -/

def val (bs : List UInt8) : Nat := bs.foldl (fun n b => n * 256 + b.toNat) 0

theorem val_snoc (bs : List UInt8) (b : UInt8) : val (bs ++ [b]) = val bs * 256 + b.toNat := by simp [val]

theorem foldl_val_lt : ∀ (bs : List UInt8) (n : Nat), bs.foldl (fun n b => n * 256 + b.toNat) n < (n + 1) * 256 ^ bs.length
  | [], n => by simp
  | b :: bs, n => by
    have h := foldl_val_lt bs (n * 256 + b.toNat)
    have hb := b.toNat_lt
    simp only [List.foldl_cons, List.length_cons]
    refine Nat.lt_of_lt_of_le h ?_
    rw [Nat.pow_succ, Nat.mul_comm (256 ^ bs.length) 256, ← Nat.mul_assoc]
    exact Nat.mul_le_mul_right _ (by omega)

theorem val_lt (bs : List UInt8) : val bs < 256 ^ bs.length := by have := foldl_val_lt bs 0; simpa [val] using this

theorem val_take_succ {bs : List UInt8} {i : Nat} (h : i < bs.length) : val (bs.take (i + 1)) = val (bs.take i) * 256 + (bs.getD i 0).toNat := by
  rw [List.take_succ_eq_append_getElem h, val_snoc]
  simp [h]

theorem or_nat_u64 {t : TypeId} {m s : Nat} (hm : m < 2 ^ 64) (hs : s < 2 ^ 64) : Bin P .or t (.int .u64 m) (.int .u64 s) (.int .u64 ((m ||| s : Nat) : Int)) := bin_of rfl fun w => by
  have h := Nat.or_lt_two_pow hm hs
  have e : (BitVec.ofInt IntKind.u64.bits (m : Int) ||| BitVec.ofInt IntKind.u64.bits (s : Int)).toNat = m ||| s := by
    show (BitVec.ofInt 64 (m : Int) ||| BitVec.ofInt 64 (s : Int)).toNat = m ||| s
    simp [BitVec.toNat_or, Nat.mod_eq_of_lt hm, Nat.mod_eq_of_lt hs]
  simp only [binOp, Op.intBits]
  rw [if_neg (by simp), e]
  have := wrap_u64 (q := ((m ||| s : Nat) : Int)) (by omega) (by omega)
  rw [this]; rfl

theorem shl_or {m b i : Nat} (h : b < 2 ^ i) : (m * 2 ^ i) ||| b = m * 2 ^ i + b := by
  have := Nat.shiftLeft_add_eq_or_of_lt h m
  rw [Nat.shiftLeft_eq] at this
  exact this.symm

theorem bin_shl_nat {t : TypeId} {k k' : IntKind} {m s : Nat} {j : Int} (hj : j = (s : Int)) (hs : s ≤ k.bits) (hw : k.wrap ((m * 2 ^ s : Nat) : Int) = ((m * 2 ^ s : Nat) : Int)) : Bin P .shl t (.int k m) (.int k' j) (.int k ((m * 2 ^ s : Nat) : Int)) := bin_of rfl fun w => by
  subst hj
  have h1 : ¬ ((s : Int) < 0) := by omega
  have h2 : min (s : Int).toNat k.bits = s := by simp; omega
  simp only [binOp, Op.shift, h1, if_false, h2]
  have e : (m : Int) * 2 ^ s = ((m * 2 ^ s : Nat) : Int) := by simp
  rw [e, hw]; rfl

theorem val_lt56 {bs : List UInt8} (h : bs.length < 8) : val bs < 2 ^ 56 := by
  refine Nat.lt_of_lt_of_le (val_lt bs) ?_
  have : 256 ^ bs.length ≤ 256 ^ 7 := Nat.pow_le_pow_right (by omega) (by omega)
  exact this

def widthB (x : Int) : Bool := decide (x = 1) || decide (x = 2) || decide (x = 4) || decide (x = 8)

theorem widthB_le {k : Nat} (h : widthB k = true) : k ≤ 8 := by
  simp [widthB] at h; omega

/-! ## Strings -/

variable {ops : Array Oper} {D : Option (Nat → Prop)} {Q : Exit → Act → World → Prop}
  {a : Act} {n : Nat} {L : List (Nat × Value)} {rest : List (Bool × Oper)} {d : Nat} {ty : TypeId} {pos : String} {aft : Array Edge} {x y z : Operand} {u v r : Value}

def str (bs : List UInt8) : ByteArray := ⟨bs.toArray⟩

@[simp] theorem str_size (bs : List UInt8) : (str bs).size = bs.length := by simp [str, ByteArray.size]
@[simp] theorem str_data (bs : List UInt8) : (str bs).data.toList = bs := by simp [str]
theorem foldl_push_bv : ∀ (bs : List UInt8) (s : ByteArray), ((bs.map fun b => ((b.toNat : Nat) : Int)).foldl (fun r n => r.push (UInt8.ofNat n.toNat)) s) = ⟨s.data ++ bs.toArray⟩
  | [], s => by simp
  | b :: bs, s => by
    simp only [List.map_cons, List.foldl_cons]
    rw [foldl_push_bv bs]
    congr 1
    simp [ByteArray.push]

theorem run_toStr {src dst e c : Nat} {bs : List UInt8} (hs : P.underlying src = some (.slice e)) (he : P.underlying e = some (.int .u8)) (hd : P.underlying dst = some .string) (h : (rd v 1 bs.length c (bv bs)).holds w) :
    (convert src dst v).run P w = .ok (.string (str bs)) w := by
  obtain ⟨hl, ⟨p, rfl, h0, rfl⟩ | ⟨b, o, rfl, h1, h2, h3⟩⟩ := h
  · have : bs = [] := List.eq_nil_of_length_eq_zero h0
    subst this
    rw [run_convert_bytes_string w src dst e _ _ _ hs he hd]
    cases p <;> simp [Conv.bytesToString, str, loadCells, loadCellsFrom] <;> rfl
  · rw [run_convert_bytes_string w src dst e _ _ _ hs he hd, run_bytesToString w _ _ _ (bs.map fun b => ((b.toNat : Nat) : Int)) ?_, foldl_push_bv]
    · simp [str]
    · have := run_loadCells_list (P := P) w ⟨b, o, none⟩ (bv bs) (fun j x hx => by rw [Addr.add_mid]; exact h3 j x hx)
      rw [bv_length] at this
      rw [this]
      congr 2
      simp only [bv, List.map_map]
      rfl

theorem Flo.ent {f : Ent} {s : Sem Next} (hf : f.holds w) (hX : ∀ X, D = some X → ∀ b, b ∈ f.fp ∨ b ∈ f.ro → ¬ X b) (h : ∀ w', f.holds w' → s.run P w' = .ok (.value v) w') : Flo P D s v w :=
  ⟨h w hf, fun X hD w' hs => h w' (f.loc w w' hf fun b hb => by subst hD; exact hs.2 b (f.old w hf b hb) (hX X rfl b hb))⟩

theorem s_toStr {src dst e c : Nat} {bs : List UInt8} (hE : Env a n L) (hx : ev L x = some v) (hs : P.underlying src = some (.slice e)) (he : P.underlying e = some (.int .u8)) (hd : P.underlying dst = some .string) (h : (rd v 1 bs.length c (bv bs)).holds w)
    (hX : ∀ X, D = some X → ∀ b, b ∈ rdB v c → ¬ X b) (hn : Nat.blt d n = true) (k : ∀ a', Env a' n ((d, .string (str bs)) :: L) → wpL P ops D Q rest a' w) :
    wpL P ops D Q ((true, ⟨some d, .convert src dst x, ty, pos, aft, none⟩) :: rest) a w :=
  s_val hE hn (Flo.ent h (fun X hD b hb => hX X hD b (by simpa [rd] using hb)) (fun w' h' => by
    simp only [execOp, hE.eval hx]
    rw [Sem.run_bind, run_toStr hs he hd h']; rfl)) k

theorem Src.str {xt : Nat} (hk : P.underlying xt = some .string) (s : ByteArray) : Src P 1 xt (.string s) s.size (bv s.data.toList) w := Src.ofString w hk s

theorem bins_str {t : TypeId} {s s' : ByteArray} : Bin P .eql t (.string s) (.string s') (.bool (decide (s.data.toList = s'.data.toList))) ∧ Bin P .neq t (.string s) (.string s') (.bool (!decide (s.data.toList = s'.data.toList))) := by
  have h1 := bin_eql_str (P := P) (t := t) (s := s) (s' := s')
  have h2 := bin_neq_str (P := P) (t := t) (s := s) (s' := s')
  rw [Lib.toList_data, Lib.toList_data] at h1 h2
  exact ⟨h1, h2⟩

/-! ## A tape -/

/-- Blocks that are there, and that nobody writes. -/
def shr (bb : List Nat) : Ent where
  fp := []
  ro := bb
  holds w := ∀ x, x ∈ bb → x < w.heap.size
  loc w w' h hb := fun x hx => by
    have h1 := h x hx
    have h2 := hb x (.inr hx)
    rw [Array.getElem?_eq_getElem h1] at h2
    exact (Array.getElem?_eq_some_iff.1 h2).1
  old w h x hx := by
    simp only [List.not_mem_nil, false_or] at hx
    exact h x hx

/-- A tape at block b: what is left of it, and whether it is torn; bb: the block of its bytes. -/
def tap (b : Nat) (bb : List Nat) (bs : List UInt8) (torn : Bool) (T : TypeId) : Ent where
  fp := [b]
  ro := bb
  holds w := b ∉ bb ∧ (shr bb).holds w ∧ ∃ v c, (∀ x, x ∈ rdB v c → x ∈ bb) ∧ (blk b [[v], [.bool true], [.bool torn]] [1, 1, 1] T).holds w ∧ (rd v 1 bs.length c (bv bs)).holds w
  loc w w' h hb := by
    obtain ⟨h0, hs, v, c, h1, h2, h3⟩ := h
    exact ⟨h0, (shr bb).loc w w' hs (fun x hx => hb x (.inr (by simpa [shr] using hx))), v, c, h1, (blk b _ _ T).loc w w' h2 (fun x hx => hb x (.inl (by simpa [blk] using hx))),
      (rd v 1 _ c _).loc w w' h3 (fun x hx => hb x (.inr (h1 x (by simpa [rd] using hx))))⟩
  old w h x hx := by
    obtain ⟨_, hs, v, c, h1, h2, h3⟩ := h
    rcases hx with hx | hx
    · exact (blk b _ _ T).old w h2 x (.inl hx)
    · exact hs x hx

theorem Mem.tapeOpen {b T : Nat} {bb : List Nat} {bs : List UInt8} {torn : Bool} (hM : Mem w0 M w (tap b bb bs torn T :: H)) :
    ∃ v c, (∀ x, x ∈ rdB v c → x ∈ bb) ∧ Mem w0 M w (blk b [[v], [.bool true], [.bool torn]] [1, 1, 1] T :: rd v 1 bs.length c (bv bs) :: shr bb :: H) := by
  obtain ⟨hs, h4, v, c, h1, h2, h3⟩ := hM.holds _ (List.mem_cons_self ..)
  refine ⟨v, c, h1, Mem.act (es := [tap b bb bs torn T]) (es' := [blk b [[v], [.bool true], [.bool torn]] [1, 1, 1] T, rd v 1 bs.length c (bv bs), shr bb]) hM rfl rfl rfl (Nat.le_refl _) (fun _ _ _ => rfl) ?_ ?_ ?_ ?_ ?_⟩
  · intro e he
    simp only [List.mem_cons, List.not_mem_nil, or_false] at he
    rcases he with rfl | rfl | rfl
    · exact h2
    · exact h3
    · exact h4
  · intro e he x hx
    simp only [List.mem_cons, List.not_mem_nil, or_false] at he
    rcases he with rfl | rfl | rfl
    · exact .inl ⟨_, List.mem_cons_self .., hx⟩
    · cases hx
    · cases hx
  · intro e he x hx
    simp only [List.mem_cons, List.not_mem_nil, or_false] at he
    rcases he with rfl | rfl | rfl
    · cases hx
    · exact .inl ⟨_, List.mem_cons_self .., .inr (h1 x hx)⟩
    · exact .inl ⟨_, List.mem_cons_self .., .inr hx⟩
  · intro e he x hx
    simp only [List.mem_cons, List.not_mem_nil, or_false] at he
    rcases he with rfl | rfl | rfl
    · cases hx
    · exact List.not_mem_nil
    · exact List.not_mem_nil
  · refine .cons (fun f hf => ?_) (.cons (fun f hf => ?_) (List.pairwise_singleton ..))
    · simp only [List.mem_cons, List.not_mem_nil, or_false] at hf
      rcases hf with rfl | rfl
      · refine ⟨fun x hx => ⟨List.not_mem_nil, fun hx' => ?_⟩, fun x hx => by cases hx⟩
        simp only [blk, List.mem_singleton] at hx
        subst hx
        exact hs (h1 _ hx')
      · refine ⟨fun x hx => ⟨List.not_mem_nil, fun hx' => ?_⟩, fun x hx => by cases hx⟩
        simp only [blk, List.mem_singleton] at hx
        subst hx
        exact hs hx'
    · rw [List.mem_singleton.1 hf]
      exact ⟨fun x hx => (by cases hx), fun x hx => (by cases hx)⟩

theorem Mem.tapeShut {b T c : Nat} {bb : List Nat} {bs : List UInt8} {torn : Bool} {v : Value} (hM : Mem w0 M w (blk b [[v], [.bool true], [.bool torn]] [1, 1, 1] T :: rd v 1 bs.length c (bv bs) :: shr bb :: H)) (hv : ∀ x, x ∈ rdB v c → x ∈ bb) :
    Mem w0 M w (tap b bb bs torn T :: H) := by
  have h2 := hM.holds _ (List.mem_cons_self ..)
  have h3 := hM.holds _ (List.mem_cons_of_mem _ (List.mem_cons_self ..))
  have h4 := hM.holds _ (List.mem_cons_of_mem _ (List.mem_cons_of_mem _ (List.mem_cons_self ..)))
  have hp := (List.pairwise_cons.1 hM.apart).1 (shr bb) (List.mem_cons_of_mem _ (List.mem_cons_self ..))
  have hb : b ∉ bb := fun hx => (hp.1 b (by simp [blk])).2 hx
  refine Mem.act (es := [blk b [[v], [.bool true], [.bool torn]] [1, 1, 1] T, rd v 1 bs.length c (bv bs), shr bb]) (es' := [tap b bb bs torn T]) hM rfl rfl rfl (Nat.le_refl _) (fun _ _ _ => rfl) ?_ ?_ ?_ ?_ (List.pairwise_singleton ..)
  · intro e he; rw [List.mem_singleton.1 he]; exact ⟨hb, h4, v, c, hv, h2, h3⟩
  · intro e he x hx; rw [List.mem_singleton.1 he] at hx; exact .inl ⟨_, List.mem_cons_self .., hx⟩
  · intro e he x hx; rw [List.mem_singleton.1 he] at hx; exact .inl ⟨_, List.mem_cons_of_mem _ (List.mem_cons_of_mem _ (List.mem_cons_self ..)), .inr hx⟩
  · intro e he x hx hx'; rw [List.mem_singleton.1 he] at hx hx'
    rw [List.mem_singleton.1 hx'] at hx
    exact hb hx

/-- A buffer that is read alone from now on, as what may be shared. -/
theorem Mem.toShr {v : Value} {es m c : Nat} {cs : List Value} (hM : Mem w0 M w (rd v es m c cs :: H)) : Mem w0 M w (rd v es m c cs :: shr (rdB v c) :: H) := by
  refine Mem.act (es := [rd v es m c cs]) (es' := [rd v es m c cs, shr (rdB v c)]) hM rfl rfl rfl (Nat.le_refl _) (fun _ _ _ => rfl) ?_ ?_ ?_ ?_ ?_
  · intro e he
    simp only [List.mem_cons, List.not_mem_nil, or_false] at he
    rcases he with rfl | rfl
    · exact hM.holds _ (List.mem_cons_self ..)
    · exact fun x hx => (rd v es m c cs).old w (hM.holds _ (List.mem_cons_self ..)) x (.inr hx)
  · intro e he x hx
    simp only [List.mem_cons, List.not_mem_nil, or_false] at he
    rcases he with rfl | rfl <;> cases hx
  · intro e he x hx
    simp only [List.mem_cons, List.not_mem_nil, or_false] at he
    rcases he with rfl | rfl <;> exact .inl ⟨_, List.mem_cons_self .., .inr hx⟩
  · intro e he x hx
    simp only [List.mem_cons, List.not_mem_nil, or_false] at he
    rcases he with rfl | rfl <;> exact List.not_mem_nil
  · exact .cons (fun f hf => by rw [List.mem_singleton.1 hf]; exact ⟨fun x hx => (by cases hx), fun x hx => (by cases hx)⟩) (List.pairwise_singleton ..)

theorem Mem.startT {b T : Nat} {bb : List Nat} {bs : List UInt8} {torn : Bool} (h : (tap b bb bs torn T).holds w) : Mem w [b] w [tap b bb bs torn T] :=
  Mem.start w (fun e he => by rw [List.mem_singleton.1 he]; exact h) (fun e he b hb => by rw [List.mem_singleton.1 he] at hb; exact hb)
    (fun e he x hx hx' => by
      rw [List.mem_singleton.1 he] at hx hx'
      rw [List.mem_singleton.1 hx'] at hx
      exact h.1 hx) (List.pairwise_singleton ..)

/-- A part of a slice that is read is read too. -/
theorem Mem.addPart {v v' : Value} {es m c es' m' c' : Nat} {cs cs' : List Value} (hM : Mem w0 M w H) (i : Nat) (hi : H[i]? = some (rd v es m c cs)) (hr : (rd v' es' m' c' cs').holds w) (hvb : ∀ x, x ∈ rdB v' c' → x ∈ rdB v c) : Mem w0 M w (rd v' es' m' c' cs' :: H) := by
  refine hM.addRd hr rfl (fun b hb e he hbe => ?_)
  have hm := List.mem_of_getElem? hi
  have hb' : b ∈ (rd v es m c cs).ro := hvb b hb
  by_cases e' : e = rd v es m c cs
  · subst e'; cases hbe
  · obtain ⟨j, hj⟩ := List.getElem?_of_mem he
    have := apart_of_get hM.apart hj hi (fun hij => e' (by subst hij; rw [hi] at hj; exact (Option.some.inj hj).symm))
    exact (this.1 b hbe).2 hb'

theorem rd_drop {v : Value} {k m c : Nat} {bs : List UInt8} (hm : m = bs.length) (_h : k ≤ bs.length) (hr : (rd v 1 (m - k) c (((bv bs).drop (k * 1)).take ((m - k) * 1))).holds w) : (rd v 1 (bs.drop k).length c (bv (bs.drop k))).holds w := by
  subst hm
  have e : ((bv bs).drop (k * 1)).take ((bs.length - k) * 1) = bv (bs.drop k) := by
    rw [Nat.mul_one, Nat.mul_one, bv_drop, List.take_of_length_le (by simp)]
  rw [e] at hr
  simpa using hr

theorem rd_take {v : Value} {k c : Nat} {bs : List UInt8} (h : k ≤ bs.length) (hr : (rd v 1 (k - 0) c (((bv bs).drop (0 * 1)).take ((k - 0) * 1))).holds w) : (rd v 1 (bs.take k).length c (bv (bs.take k))).holds w := by
  have e : ((bv bs).drop (0 * 1)).take ((k - 0) * 1) = bv (bs.take k) := by simp [bv_take]
  rw [e] at hr
  have : (bs.take k).length = k - 0 := by simp; omega
  rw [this]; exact hr

theorem rd_len {v : Value} {es m c : Nat} {cs : List Value} (h : (rd v es m c cs).holds w) : m ≤ c := by
  rcases h.2 with ⟨p, _, h1, h2⟩ | ⟨b, o, _, h1, _⟩ <;> omega


/-! ## What is taken of a tape -/

def numOk (bs : List UInt8) (torn : Bool) (x : Int) : Bool := widthB x && (!torn && decide (0 ≤ x) && decide (x ≤ (bs.length : Int)))
def bytesOk (bs : List UInt8) (torn : Bool) (x : Int) : Bool := !torn && decide (0 ≤ x) && decide (x ≤ (bs.length : Int))

def tNum (bs : List UInt8) (torn : Bool) (x : Int) : Nat × List UInt8 × Bool := if numOk bs torn x then (val (bs.take x.toNat), bs.drop x.toNat, false) else (0, bs, true)
def tBytes (bs : List UInt8) (torn : Bool) (x : Int) : List UInt8 × List UInt8 × Bool := if bytesOk bs torn x then (bs.take x.toNat, bs.drop x.toNat, false) else ([], bs, true)
theorem tNum_lt {bs : List UInt8} {torn : Bool} {k : Nat} : (tNum bs torn k).1 < 256 ^ k := by
  unfold tNum
  split
  · refine Nat.lt_of_lt_of_le (val_lt _) (Nat.pow_le_pow_right (by omega) (by simp; omega))
  · exact Nat.pow_pos (by omega)

theorem rd_nil (w : World) : (rd (.slice none 0 0) 1 ([] : List UInt8).length 0 (bv [])).holds w := ⟨rfl, .inl ⟨none, rfl, rfl, rfl⟩⟩


/-- A constant text as bytes: the slice that was made for it, marked. -/
theorem s_convSame {t e es m : Nat} {cs : List Value} (hE : Env a n L) (hx : ev L x = some v) (hM : Mem w0 M w (own v es m cs :: H)) (ht : P.underlying t = some (.slice e)) (he : P.underlying e = some (.int .u8)) (hm : 0 < m)
    (hX : ∀ X, D = some X → ∀ b, b ∈ valBlocks v → X b) (hn : Nat.blt d n = true) (k : ∀ a' w', Env a' n ((d, v) :: L) → Mem w0 M w' (own v es m cs :: H) → wpL P ops D Q rest a' w') :
    wpL P ops D Q ((false, ⟨some d, .convert t t x, ty, pos, aft, none⟩) :: rest) a w := by
  obtain ⟨hl, ⟨_, h0⟩ | ⟨b, cap, cur, T, fr, rfl, h1, h2, h3, h4, h5, h6⟩⟩ := hM.holds _ (List.mem_cons_self ..)
  · omega
  · have hb := (Array.getElem?_eq_some_iff.1 h3).1
    obtain ⟨fr', hfr, hw⟩ : ∃ fr', Fz fr' cur.size ∧ w.freeze ⟨b, cur.size, none⟩ 1 = setBlk w b (.cells cur T fr') := by
      obtain ⟨lo, hi⟩ := fr
      refine ⟨if lo == hi then (cur.size, cur.size + 1) else (min lo cur.size, max hi (cur.size + 1)), ?_, ?_⟩
      · rcases h6 with h6 | h6
        · simp only at h6; subst h6; simp [Fz]
        · simp only at h6
          by_cases e : lo = hi
          · simp [e, Fz]
          · have : (lo == hi) = false := by simpa using e
            simp only [this]
            right
            show cur.size ≤ min lo cur.size
            omega
      · obtain ⟨_, hcb⟩ := Array.getElem?_eq_some_iff.1 h3
        simp only [World.freeze, setBlk]
        rw [if_neg (by omega)]
        congr 1
        apply Array.ext_getElem?
        intro k
        rw [Array.getElem?_modify, Array.getElem?_setIfInBounds]
        by_cases hk : b = k
        · subst hk; simp [hb, hcb]
        · simp [hk]
    refine b_val hE hn (v := .slice (some ⟨b, 0, none⟩) m cap) (w' := setBlk w b (.cells cur T fr')) ?_ ?_ (fun a' hE' => k a' _ hE' ?_)
    · have hsh : w.shape? b = some (T, cur.size) := by simp [World.shape?, h3]
      simp [execOp, hE.eval hx, convert, run_underlying ht, run_underlying he, markStringish, hsh, hw]
    · cases D with
      | none => trivial
      | some X => exact ⟨by simp, fun b' _ hx' => setBlk_other fun e => hx' (hX X rfl b' (by simp [valBlocks, e]))⟩
    · refine Mem.act (es := [own (.slice (some ⟨b, 0, none⟩) m cap) es m cs]) (es' := [own (.slice (some ⟨b, 0, none⟩) m cap) es m cs]) hM rfl rfl rfl (by simp) (fun b' _ hne => setBlk_other fun e => hne _ (List.mem_cons_self ..) (by simp [own, valBlocks, e])) ?_ ?_ ?_ ?_ (List.pairwise_singleton ..)
      · intro e he; rw [List.mem_singleton.1 he]; exact ⟨hl, .inr ⟨b, cap, cur, T, fr', rfl, h1, h2, setBlk_same hb, h4, h5, hfr⟩⟩
      · intro e he b' hb'; rw [List.mem_singleton.1 he] at hb'; exact .inl ⟨_, List.mem_cons_self .., hb'⟩
      · intro e he b' hb'; rw [List.mem_singleton.1 he] at hb'; cases hb'
      · intro e he b' hb'; rw [List.mem_singleton.1 he] at hb'; cases hb'

/-! ## What is laid -/

def numFits (x : Int) (m : Nat) : Bool := widthB x && (decide (8 ≤ x) || decide (m / 2 ^ (8 * x.toNat) = 0))
def pNum (bs : List UInt8) (x : Int) (m : Nat) : List UInt8 × Nat := if numFits x m then (bs ++ laid x.toNat m, 0) else ([], 2)
def rowPart (p : List UInt8) : List UInt8 := laid 4 p.length ++ p
def rowBs (dm : UInt8) (ps : List (List UInt8)) (i : Nat) : List UInt8 := [dm, UInt8.ofNat ps.length] ++ (ps.take i).flatMap rowPart
def pRow (dm : UInt8) (ps : List (List UInt8)) : List UInt8 × Nat := if 16 < ps.length then ([], 3) else (rowBs dm ps ps.length, 0)

theorem widthB_nat {x : Int} (h : widthB x = true) : ∃ k : Nat, x = (k : Int) ∧ k ≤ 8 ∧ 1 ≤ k := by
  simp [widthB] at h
  rcases h with ((h | h) | h) | h <;> subst h
  · exact ⟨1, rfl, by omega, by omega⟩
  · exact ⟨2, rfl, by omega, by omega⟩
  · exact ⟨4, rfl, by omega, by omega⟩
  · exact ⟨8, rfl, by omega, by omega⟩

end Go.Kx
