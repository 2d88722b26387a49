/- Own library, part M: what keys out of passphrases are, in plain Lean. -/
import Derived.Test.YtlieojojahhmmaaKxN
set_option linter.unusedSimpArgs false
set_option linter.unusedVariables false
namespace Go.Kx
open Go

def xorW (a b : List UInt8) : List UInt8 := List.zipWith (· ^^^ ·) a b
theorem xorW_length {a b : List UInt8} (h : a.length = b.length) : (xorW a b).length = a.length := by simp [xorW, h]
def uW (pass salt : List UInt8) (i : UInt8) : Nat → List UInt8
  | 0 => hmacW pass (salt ++ [0, 0, 0, i])
  | n + 1 => hmacW pass (uW pass salt i n)
@[simp] theorem uW_length (pass salt : List UInt8) (i : UInt8) (n : Nat) : (uW pass salt i n).length = 32 := by cases n <;> simp [uW]
theorem uW_step {pass salt : List UInt8} {i : UInt8} {n : Nat} (h : 0 < n) : hmacW pass (uW pass salt i (n - 1)) = uW pass salt i n := by
  obtain ⟨k, rfl⟩ : ∃ k, n = k + 1 := ⟨n - 1, by omega⟩
  rfl
def oW (pass salt : List UInt8) (i : UInt8) : Nat → List UInt8
  | 0 => List.replicate 32 0
  | n + 1 => xorW (oW pass salt i n) (uW pass salt i n)
@[simp] theorem oW_length (pass salt : List UInt8) (i : UInt8) : ∀ n, (oW pass salt i n).length = 32
  | 0 => by simp [oW]
  | n + 1 => by rw [oW, xorW_length (by simp [oW_length pass salt i n]), oW_length pass salt i n]

def xorI (o u : List UInt8) (k : Nat) : List UInt8 := xorW (o.take k) (u.take k) ++ o.drop k
theorem xorI_length {o u : List UInt8} (h : o.length = u.length) (k : Nat) : (xorI o u k).length = o.length := by simp [xorI, xorW, h]; omega
theorem xorI_pre {o u : List UInt8} {k : Nat} (h : o.length = u.length) (hk : k ≤ o.length) : (xorW (o.take k) (u.take k)).length = k := by simp [xorW]; omega
theorem xorI_get {o u : List UInt8} {k : Nat} (h : o.length = u.length) (hk : k < o.length) : (xorI o u k).getD k 0 = o.getD k 0 := by
  have e := xorI_pre h (Nat.le_of_lt hk)
  rw [xorI, List.getD, List.getElem?_append_right (by omega), e, List.getElem?_drop]
  simp
theorem xorI_set {o u : List UInt8} {k : Nat} (h : o.length = u.length) (hk : k < o.length) : (xorI o u k).set k (o.getD k 0 ^^^ u.getD k 0) = xorI o u (k + 1) := by
  have e := xorI_pre h (Nat.le_of_lt hk)
  have h2 : o.drop k = o.getD k 0 :: o.drop (k + 1) := by
    rw [List.drop_eq_getElem_cons hk]; simp [hk]
  have h3 : o.take (k + 1) = o.take k ++ [o.getD k 0] := by
    rw [List.take_succ_eq_append_getElem hk]; simp [hk]
  have h4 : u.take (k + 1) = u.take k ++ [u.getD k 0] := by
    rw [List.take_succ_eq_append_getElem (by omega)]; simp [show k < u.length by omega]
  rw [xorI, List.set_append_right _ _ (by omega), e, h2, Nat.sub_self, List.set_cons_zero, xorI, h3, h4, xorW, xorW, List.zipWith_append (by simp; omega)]
  simp
theorem xorI_all {o u : List UInt8} (h : o.length = u.length) : xorI o u o.length = xorW o u := by
  rw [xorI, List.take_length, show u.take o.length = u by rw [h, List.take_length], List.drop_length, List.append_nil]
theorem xorI_zero (o u : List UInt8) : xorI o u 0 = o := by simp [xorI, xorW]

def keyP (pass salt : List UInt8) (r : Nat) : Nat → List UInt8
  | 0 => []
  | j + 1 => keyP pass salt r j ++ oW pass salt (UInt8.ofNat (j + 1)) r
@[simp] theorem keyP_length (pass salt : List UInt8) (r : Nat) : ∀ j, (keyP pass salt r j).length = 32 * j
  | 0 => rfl
  | j + 1 => by simp [keyP, keyP_length pass salt r j]; omega
theorem keyP_take (pass salt : List UInt8) (r : Nat) : ∀ (i j : Nat), i ≤ j → (keyP pass salt r j).take (32 * i) = keyP pass salt r i
  | i, 0, h => by obtain rfl : i = 0 := by omega
                  rfl
  | i, j + 1, h => by
    rcases Nat.lt_or_eq_of_le h with h' | rfl
    · have := keyP_take pass salt r i j (by omega)
      rw [keyP, List.take_append_of_le_length (by simp; omega), this]
    · exact List.take_of_length_le (by simp)
def keyW (pass salt : List UInt8) (r n : Nat) : List UInt8 := (keyP pass salt r ((n + 31) / 32)).take n
@[simp] theorem keyW_length (pass salt : List UInt8) (r n : Nat) : (keyW pass salt r n).length = n := by simp [keyW]; omega
theorem keyW_take {pass salt : List UInt8} {r m n : Nat} (h : m ≤ n) : (keyW pass salt r n).take m = keyW pass salt r m := by
  unfold keyW
  rw [List.take_take, Nat.min_eq_left h, ← keyP_take pass salt r ((m + 31) / 32) ((n + 31) / 32) (by omega), List.take_take, Nat.min_eq_left (by omega)]

theorem keyW_32 (pass salt : List UInt8) (r : Nat) : keyW pass salt r 32 = oW pass salt 1 r := by
  have e : keyP pass salt r ((32 + 31) / 32) = oW pass salt 1 r := by simp [keyP]
  rw [keyW, e, List.take_of_length_le (by simp)]

theorem zero_xor8 (a : UInt8) : 0 ^^^ a = a := UInt8.zero_xor
theorem xorW_get {a b : List UInt8} {i : Nat} (ha : i < a.length) (hb : i < b.length) : (xorW a b).getD i 0 = a.getD i 0 ^^^ b.getD i 0 := by
  have hi : i < (List.zipWith (· ^^^ ·) a b).length := by simp; omega
  simp [xorW, List.getD, List.getElem?_zipWith, ha, hb]

/-- What passphrases' bytes are. -/
def phrW (s : List UInt8) : List UInt8 := UInt8.ofNat s.length :: s

theorem ka_get {pass salt : List UInt8} {i : Nat} (h : i < 32) : (keyW pass salt 1 32).getD i 0 = (uW pass salt 1 0).getD i 0 := by
  rw [keyW_32, oW, xorW_get (by simpa using h) (by simpa using h), oW]
  have : (List.replicate 32 (0 : UInt8)).getD i 0 = 0 := by rw [List.getD, List.getElem?_replicate]; split <;> rfl
  rw [this, zero_xor8]
theorem kb_get {pass salt : List UInt8} {i : Nat} (h : i < 32) : (keyW pass salt 2 32).getD i 0 = (uW pass salt 1 0).getD i 0 ^^^ (uW pass salt 1 1).getD i 0 := by
  have := ka_get (pass := pass) (salt := salt) h
  rw [keyW_32] at this
  rw [keyW_32, oW, xorW_get (by simpa using h) (by simpa using h), this]

theorem tmod128 (z : Int) : ∃ k : Nat, (z.tmod 128 + 128).tmod 128 = (k : Int) ∧ k < 128 := by
  have h1 : 0 ≤ z.tmod 128 + 128 := by
    have := Int.lt_tmod_of_pos z (show (0 : Int) < 128 by decide)
    omega
  refine ⟨((z.tmod 128 + 128).tmod 128).toNat, ?_, ?_⟩
  · have := Int.tmod_nonneg 128 h1
    omega
  · have := Int.tmod_lt_of_pos (z.tmod 128 + 128) (show (0 : Int) < 128 by decide)
    have := Int.tmod_nonneg 128 h1
    omega

/-- What a text is made into. -/
def phrP (s : List UInt8) : List UInt8 := if s.length < 1 ∨ 48 < s.length then [] else phrW s
def errP (s : List UInt8) : Nat := if s.length < 1 ∨ 48 < s.length then 2 else 0
theorem phrP_len (s : List UInt8) : (phrP s).length ≤ 49 := by unfold phrP phrW; split <;> simp; omega

def padZ (b : List UInt8) : List UInt8 := b.take 64 ++ List.replicate (64 - b.length) 0
theorem padZ_length (b : List UInt8) : (padZ b).length = 64 := by simp [padZ]; omega
theorem padZ_set {b : List UInt8} {i : Nat} (h : i < b.length) (h2 : i < 64) : (b.take i ++ List.replicate (64 - i) 0).set i (b.getD i 0) = b.take (i + 1) ++ List.replicate (64 - (i + 1)) 0 := by
  have hl : (b.take i).length = i := by simp; omega
  obtain ⟨k, hk⟩ : ∃ k, 64 - i = k + 1 := ⟨64 - i - 1, by omega⟩
  rw [hk, show 64 - (i + 1) = k by omega, List.replicate_succ, List.set_append_right _ _ (by omega), hl, Nat.sub_self, List.set_cons_zero, List.take_succ_eq_append_getElem h, List.append_assoc]
  congr 1
  simp [List.getD, h]
theorem padZ_end {b : List UInt8} {i : Nat} (h1 : i ≤ b.length) (h2 : i ≤ 64) (h : ¬ (i < b.length ∧ i < 64)) : b.take i ++ List.replicate (64 - i) 0 = padZ b := by
  unfold padZ
  by_cases hb : i = b.length
  · subst hb
    rw [List.take_length, List.take_of_length_le h2]
  · obtain rfl : i = 64 := by omega
    rw [show 64 - b.length = 64 - 64 by omega]

theorem phr_apart {s t : List UInt8} (hs : s.length ≤ 48) (ht : t.length ≤ 48) : padZ (phrW s) = padZ (phrW t) ↔ s = t := by
  constructor
  · intro h
    have hp : ∀ s : List UInt8, s.length ≤ 48 → padZ (phrW s) = UInt8.ofNat s.length :: (s ++ List.replicate (63 - s.length) 0) := by
      intro s hs
      unfold padZ phrW
      rw [List.take_of_length_le (by simp; omega)]
      simp
    rw [hp s hs, hp t ht] at h
    simp only [List.cons.injEq] at h
    have hl : s.length = t.length := by
      have := congrArg UInt8.toNat h.1
      simp at this; omega
    have := h.2
    rw [hl] at this
    exact List.append_cancel_right this
  · rintro rfl; rfl

open Go.ChangeShapes Go.WideShapes Go.ChangeAt Go.RowKit in
theorem arg_string {P : Program} {W : World} {H : Type} {enc : TypeId × Value → H} {t base : Nat} {v : Value} {d : DataW H} {ps : List MemPlace} (hu : P.underlying t = some .string) (hval : Value.okWide P W .any base t v)
    (h : DataW.Trod enc P W 0 (fun _ => true) true t v d ps) (hw : ∀ m, m ∈ d.weights P t → m ≤ reachBytes) : ∃ s : ByteArray, v = .string s ∧ s.size ≤ reachBytes := by
  obtain ⟨s, rfl⟩ := okWide_string hu hval
  obtain ⟨s', hc, hb⟩ := trod_of (dec_string hu) h hw
  simp [Value.cells] at hc
  subst hc
  exact ⟨_, rfl, hb⟩

theorem get_getD {l : List UInt8} {i : Nat} (h : i < l.length) : l[i]? = some (l.getD i 0) := by simp [List.getD, h]
theorem take_snoc {l : List UInt8} {i : Nat} (h : i < l.length) : l.take (i + 1) = l.take i ++ [l.getD i 0] := by
  rw [List.take_succ_eq_append_getElem h]; simp [List.getD, h]

theorem len4v {cs : List Value} (h : cs.length = 4) : ∃ a b c d, cs = [a, b, c, d] := by
  match cs, h with
  | [a, b, c, d], _ => exact ⟨a, b, c, d, rfl⟩

def mapI (B : List UInt8) (x : UInt8) (i : Nat) : List UInt8 := (B.take i).map (· ^^^ x)
theorem mapI_succ {B : List UInt8} {x : UInt8} {i : Nat} (h : i < B.length) : mapI B x (i + 1) = mapI B x i ++ [B.getD i 0 ^^^ x] := by
  rw [mapI, take_snoc h, List.map_append]; rfl
theorem mapI_length {B : List UInt8} {x : UInt8} {i : Nat} (h : i ≤ B.length) : (mapI B x i).length = i := by simp [mapI]; omega
theorem mapI_all (key : List UInt8) (x : UInt8) : mapI (blockW key) x 64 = padW key x := by
  rw [mapI, List.take_of_length_le (Nat.le_of_eq (blockW_length key)), padW]
theorem blockW_end {key K : List UInt8} {j : Nat} (hK : K = if 64 < key.length then shaW key else key) (h : K.length + j = 64) : K ++ List.replicate j 0 = blockW key := by
  unfold blockW; rw [← hK]; show _ = K ++ List.replicate (64 - K.length) 0; rw [show 64 - K.length = j by omega]
theorem rep_snoc (K : List UInt8) (j : Nat) : K ++ List.replicate (j + 1) 0 = (K ++ List.replicate j 0) ++ [0] := by rw [List.append_assoc, List.replicate_succ']

theorem clip_flat {k n : Nat} {ps : List (List UInt8)} {i : Nat} (hi : i ≤ n) : (clip k ps i).flatten.length ≤ n * k := by
  have key : ∀ l : List (List UInt8), (l.map (·.take k)).flatten.length ≤ l.length * k := by
    intro l
    induction l with
    | nil => simp
    | cons a r ih =>
      simp only [List.map_cons, List.flatten_cons, List.length_append, List.length_take, List.length_cons, Nat.add_mul]
      omega
  refine Nat.le_trans (key _) (Nat.mul_le_mul_right _ ?_)
  simp; omega

end Go.Kx
