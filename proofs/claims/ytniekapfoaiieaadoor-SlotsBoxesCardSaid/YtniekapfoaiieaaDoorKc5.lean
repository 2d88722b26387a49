/- Own library: parts KxHn, KxK, KxK2, KxK3, KxSl, KxSo, KxSr. -/
import Derived.Test.YtniekapfoaiieaaDoorKc4
set_option linter.unusedSimpArgs false
set_option linter.unusedVariables false
/- Own library, part Hn: a header that comes in as an argument. -/
set_option linter.unusedSimpArgs false
namespace Go.Kx
open Go
open Go.ChangeShapes Go.WideShapes Go.ChangeAt Go.RowKit
variable {P : Program} {W : World}
theorem split_at {cs : List Value} (n : Nat) : cs = cs.take n ++ cs.drop n := (List.take_append_drop n cs).symm
theorem seg2 {cs : List Value} {a b : Nat} (h : cs.length = a + b) : cs = (cs.drop 0).take a ++ (cs.drop a).take b := by
  conv => lhs; rw [split_at (cs := cs) a]
  rw [List.drop_zero, List.take_of_length_le (l := cs.drop a) (by simp; omega)]
theorem seg3 {cs : List Value} {a b c : Nat} (h : cs.length = a + b + c) : cs = (cs.drop 0).take a ++ ((cs.drop a).take b ++ (cs.drop (a + b)).take c) := by
  conv => lhs; rw [split_at (cs := cs) a, split_at (cs := cs.drop a) b]
  rw [List.drop_zero, List.drop_drop, List.take_of_length_le (l := cs.drop (a + b)) (by simp; omega)]
theorem seg4 {cs : List Value} {a b c d : Nat} (h : cs.length = a + b + c + d) : cs = (cs.drop 0).take a ++ ((cs.drop a).take b ++ ((cs.drop (a + b)).take c ++ (cs.drop (a + b + c)).take d)) := by
  conv => lhs; rw [split_at (cs := cs) a, split_at (cs := cs.drop a) b, split_at (cs := (cs.drop a).drop b) c]
  rw [List.drop_zero, List.drop_drop, List.drop_drop, List.take_of_length_le (l := cs.drop (a + b + c)) (by simp; omega)]
/-- The fields of a struct of 2, 3, 4 fields. -/
def fieldsL (P : Program) (fs : Array Field) : List (Nat × Nat × Nat) := fs.toList.map (fun f => (f.type, f.offset, P.cellsOf f.type))
theorem dec_f2 {t s t0 t1 n0 n1 : Nat} {fs : Array Field} {R0 R1 : List Value → Prop} (hu : P.underlying t = some (.struct fs)) (hs : P.cellsOf t = s) (hl : fieldsL P fs = [(t0, 0, n0), (t1, n0, n1)]) (hn : s = n0 + n1)
    (h0 : Dec P W t0 R0) (h1 : Dec P W t1 R1) : Dec P W t (fun cs => ∃ a b, cs = a ++ b ∧ R0 a ∧ R1 b) :=
  (dec_structL [(t0, 0, n0, R0), (t1, n0, n1, R1)] hu hs hl (by
    intro p hp; simp only [List.mem_cons, List.not_mem_nil, or_false] at hp
    rcases hp with rfl | rfl
    · exact h0
    · exact h1)).mono fun cs h => ⟨_, _, seg2 (h.1.trans hn), h.2 _ (.head _), h.2 _ (.tail _ (.head _))⟩
theorem dec_f3 {t s t0 t1 t2 n0 n1 n2 o2 : Nat} {fs : Array Field} {R0 R1 R2 : List Value → Prop} (hu : P.underlying t = some (.struct fs)) (hs : P.cellsOf t = s) (hl : fieldsL P fs = [(t0, 0, n0), (t1, n0, n1), (t2, o2, n2)]) (ho : o2 = n0 + n1) (hn : s = n0 + n1 + n2)
    (h0 : Dec P W t0 R0) (h1 : Dec P W t1 R1) (h2 : Dec P W t2 R2) : Dec P W t (fun cs => ∃ a b c, cs = a ++ (b ++ c) ∧ R0 a ∧ R1 b ∧ R2 c) :=
  (dec_structL [(t0, 0, n0, R0), (t1, n0, n1, R1), (t2, o2, n2, R2)] hu hs hl (by
    intro p hp; simp only [List.mem_cons, List.not_mem_nil, or_false] at hp
    rcases hp with rfl | rfl | rfl
    · exact h0
    · exact h1
    · exact h2)).mono fun cs h => ⟨_, _, _, seg3 (h.1.trans hn), h.2 _ (.head _), h.2 _ (.tail _ (.head _)), ho ▸ h.2 _ (.tail _ (.tail _ (.head _)))⟩
theorem dec_f4 {t s t0 t1 t2 t3 n0 n1 n2 n3 o2 o3 : Nat} {fs : Array Field} {R0 R1 R2 R3 : List Value → Prop} (hu : P.underlying t = some (.struct fs)) (hs : P.cellsOf t = s) (hl : fieldsL P fs = [(t0, 0, n0), (t1, n0, n1), (t2, o2, n2), (t3, o3, n3)]) (ho : o2 = n0 + n1) (ho3 : o3 = n0 + n1 + n2) (hn : s = n0 + n1 + n2 + n3)
    (h0 : Dec P W t0 R0) (h1 : Dec P W t1 R1) (h2 : Dec P W t2 R2) (h3 : Dec P W t3 R3) : Dec P W t (fun cs => ∃ a b c d, cs = a ++ (b ++ (c ++ d)) ∧ R0 a ∧ R1 b ∧ R2 c ∧ R3 d) :=
  (dec_structL [(t0, 0, n0, R0), (t1, n0, n1, R1), (t2, o2, n2, R2), (t3, o3, n3, R3)] hu hs hl (by
    intro p hp; simp only [List.mem_cons, List.not_mem_nil, or_false] at hp
    rcases hp with rfl | rfl | rfl | rfl
    · exact h0
    · exact h1
    · exact h2
    · exact h3)).mono fun cs h => ⟨_, _, _, _, seg4 (h.1.trans hn), h.2 _ (.head _), h.2 _ (.tail _ (.head _)), ho ▸ h.2 _ (.tail _ (.tail _ (.head _))), ho3 ▸ h.2 _ (.tail _ (.tail _ (.tail _ (.head _))))⟩
theorem dec_a2 {t e es : Nat} {R : List Value → Prop} (hu : P.underlying t = some (.array 2 e)) (hes : P.cellsOf e = es) (hts : P.cellsOf t = 2 * es) (he : Dec P W e R) : Dec P W t (fun cs => ∃ a b, cs = a ++ b ∧ R a ∧ R b) :=
  (dec_array hu hes hts he).mono fun cs h => ⟨_, _, seg2 (a := es) (b := es) (by omega), by have := h.2 0 (by omega); rwa [Nat.zero_mul] at this, by have := h.2 1 (by omega); rwa [Nat.one_mul] at this⟩
theorem dec_a4 {t e es : Nat} {R : List Value → Prop} (hu : P.underlying t = some (.array 4 e)) (hes : P.cellsOf e = es) (hts : P.cellsOf t = 4 * es) (he : Dec P W e R) : Dec P W t (fun cs => ∃ a b c d, cs = a ++ (b ++ (c ++ d)) ∧ R a ∧ R b ∧ R c ∧ R d) :=
  (dec_array hu hes hts he).mono fun cs h => ⟨_, _, _, _, seg4 (a := es) (b := es) (c := es) (d := es) (by omega), by have := h.2 0 (by omega); rwa [Nat.zero_mul] at this, by have := h.2 1 (by omega); rwa [Nat.one_mul] at this,
    by have := h.2 2 (by omega); rwa [show 2 * es = es + es by omega] at this, by have := h.2 3 (by omega); rwa [show 3 * es = es + es + es by omega] at this⟩
/-- The cells of boxes, volumes, slots, headers. -/
def boxC (d t : List UInt8) : List Value := bv d ++ bv t
def volC (v : Vo) : List Value := [.bool v.1] ++ ([.int .u64 (v.2.1 : Int)] ++ boxC v.2.2.1 v.2.2.2)
def slotC (s : So) : List Value := [.bool s.1] ++ ([.int .i64 s.2.1] ++ (bv s.2.2.1 ++ boxC s.2.2.2.1 s.2.2.2.2))
def hdC (h : Hd) : List Value := ([.int .i64 h.m] ++ [.int .i64 h.r]) ++ ((volC h.v0 ++ volC h.v1) ++ (slotC h.s0 ++ (slotC h.s1 ++ (slotC h.s2 ++ slotC h.s3))))
/-- The types' numbers. -/
structure HdT (P : Program) where
  (th tg tvs tv tss ts tx tk tt ta ti tb tn te : Nat)
  (fh fg fv fs fx : Array Field)
  uh : P.underlying th = some (.struct fh)
  ug : P.underlying tg = some (.struct fg)
  uvs : P.underlying tvs = some (.array 2 tv)
  uv : P.underlying tv = some (.struct fv)
  uss : P.underlying tss = some (.array 4 ts)
  us : P.underlying ts = some (.struct fs)
  ux : P.underlying tx = some (.struct fx)
  uk : P.underlying tk = some (.array 32 te)
  ut : P.underlying tt = some (.array 32 te)
  ua : P.underlying ta = some (.array 16 te)
  ui : P.underlying ti = some (.int .i64)
  ub : P.underlying tb = some .bool
  un : P.underlying tn = some (.int .u64)
  ue : P.underlying te = some (.int .u8)
  ch : P.cellsOf th = 462
  cg : P.cellsOf tg = 2
  cvs : P.cellsOf tvs = 2 * 66
  cv : P.cellsOf tv = 66
  css : P.cellsOf tss = 4 * 82
  cs : P.cellsOf ts = 82
  cx : P.cellsOf tx = 64
  ck : P.cellsOf tk = 32 * 1
  ct : P.cellsOf tt = 32 * 1
  ca : P.cellsOf ta = 16 * 1
  ce : P.cellsOf te = 1
  lh : fieldsL P fh = [(tg, 0, 2), (tvs, 2, 132), (tss, 134, 328)]
  lg : fieldsL P fg = [(ti, 0, 1), (ti, 1, 1)]
  lv : fieldsL P fv = [(tb, 0, 1), (tn, 1, 1), (tx, 2, 64)]
  ls : fieldsL P fs = [(tb, 0, 1), (ti, 1, 1), (ta, 2, 16), (tx, 18, 64)]
  lx : fieldsL P fx = [(tk, 0, 32), (tt, 32, 32)]
theorem dec_box (T : HdT P) : Dec P W T.tx (fun cs => ∃ d t, cs = boxC d t ∧ d.length = 32 ∧ t.length = 32) :=
  (dec_f2 T.ux T.cx T.lx rfl (dec_arr8 T.uk T.ue T.ce T.ck) (dec_arr8 T.ut T.ue T.ce T.ct)).mono fun cs h => by
    obtain ⟨a, b, rfl, ⟨d, rfl, hd⟩, ⟨t, rfl, ht⟩⟩ := h
    exact ⟨d, t, rfl, hd, ht⟩
theorem dec_vol (T : HdT P) : Dec P W T.tv (fun cs => ∃ v : Vo, cs = volC v ∧ OkV v) :=
  (dec_f3 T.uv T.cv T.lv rfl rfl (dec_bool T.ub) (dec_int T.un) (dec_box T)).mono fun cs h => by
    obtain ⟨a, b, c, rfl, ⟨u, rfl⟩, ⟨i, rfl, h1, h2⟩, ⟨d, t, rfl, hd, ht⟩⟩ := h
    obtain ⟨m, rfl⟩ := Int.eq_ofNat_of_zero_le (show 0 ≤ i from h1)
    have h2' : (m : Int) ≤ 18446744073709551615 := h2
    exact ⟨(u, m, d, t), rfl, by simp only; omega, hd, ht⟩
theorem dec_slot (T : HdT P) : Dec P W T.ts (fun cs => ∃ s : So, cs = slotC s ∧ OkS s) :=
  (dec_f4 T.us T.cs T.ls rfl rfl rfl (dec_bool T.ub) (dec_int T.ui) (dec_arr8 T.ua T.ue T.ce T.ca) (dec_box T)).mono fun cs h => by
    obtain ⟨a, b, c, d, rfl, ⟨u, rfl⟩, ⟨i, rfl, h1, h2⟩, ⟨s, rfl, hs⟩, ⟨x, t, rfl, hx, ht⟩⟩ := h
    exact ⟨(u, i, s, x, t), rfl, ⟨h1, h2⟩, hs, hx, ht⟩
theorem dec_hd (T : HdT P) : Dec P W T.th (fun cs => ∃ h : Hd, cs = hdC h ∧ OkHd h) :=
  (dec_f3 T.uh T.ch T.lh rfl rfl (dec_f2 T.ug T.cg T.lg rfl (dec_int T.ui) (dec_int T.ui)) (dec_a2 T.uvs T.cv T.cvs (dec_vol T)) (dec_a4 T.uss T.cs T.css (dec_slot T))).mono fun cs h => by
    obtain ⟨a, b, c, rfl, ⟨_, _, rfl, ⟨m, rfl, m1, m2⟩, ⟨r, rfl, r1, r2⟩⟩, ⟨_, _, rfl, ⟨v0, rfl, hv0⟩, ⟨v1, rfl, hv1⟩⟩, ⟨_, _, _, _, rfl, ⟨s0, rfl, hs0⟩, ⟨s1, rfl, hs1⟩, ⟨s2, rfl, hs2⟩, ⟨s3, rfl, hs3⟩⟩⟩ := h
    exact ⟨⟨m, r, v0, v1, s0, s1, s2, s3⟩, rfl, ⟨⟨m1, m2⟩, ⟨r1, r2⟩, hv0, hv1, hs0, hs1, hs2, hs3⟩⟩
theorem arg_hd {K : Type} {enc : TypeId × Value → K} (T : HdT P) {v : Value} {d : DataW K} {base : Nat} {qs : List MemPlace} (hval : Value.okWide P W .any base T.th v) (h : DataW.Trod enc P W 0 (fun _ => true) true T.th v d qs) (hw : ∀ m, m ∈ d.weights P T.th → m ≤ reachBytes) : ∃ x : Hd, v = .agg (hdC x).toArray ∧ OkHd x := by
  obtain ⟨cs, rfl, hcs⟩ := okWide_struct T.uh hval
  obtain ⟨x, hx, ok⟩ := trod_of (dec_hd T) h hw
  exact ⟨x, congrArg Value.agg (agg_of hx), ok⟩
theorem str_of (s : ByteArray) : ∃ l, s = str l := ⟨s.data.toList, by cases s; rfl⟩
end Go.Kx
/- Own library, part K: what the document's SHA-256 computes is what the given one computes; append of new memory. -/
namespace Go.Kx
open Go
variable {P : Program} {ops : Array Oper} {D : Option (Nat → Prop)} {Q : Exit → Act → World → Prop} {w0 w w' : World} {M : List Nat} {H H' : List Ent}
  {a : Act} {n : Nat} {L : List (Nat × Value)} {rest : List (Bool × Oper)} {d : Nat} {ty : TypeId} {pos : String} {aft : Array Edge} {x y z : Operand} {u v r : Value}

/-! ## Words, more -/

/-! ## The reference's numbers go round -/

/-- The first k sums. -/
def sumT (was n : List UInt32) : Nat → List UInt32
  | 0 => []
  | k + 1 => sumT was n k ++ [n.getD k 0 + was.getD k 0]
@[simp] theorem sumT_length (was n : List UInt32) : ∀ k, (sumT was n k).length = k
  | 0 => rfl
  | k + 1 => by simp [sumT, sumT_length was n k]
/-! ## Bytes of numbers -/

/-! ## append(s, make([]byte, n)...) -/

end Go.Kx
/- Own library, part K2: numbers of 64 bits; the reference's primes and roots, in plain Lean. -/
namespace Go.Kx
open Go
variable {P : Program} {ops : Array Oper} {D : Option (Nat → Prop)} {Q : Exit → Act → World → Prop} {w0 w w' : World} {M : List Nat} {H H' : List Ent}
  {a : Act} {n : Nat} {L : List (Nat × Value)} {rest : List (Bool × Oper)} {d : Nat} {ty : TypeId} {pos : String} {aft : Array Edge} {x y z : Operand} {u v r : Value}

def vV (x : UInt64) : Value := .int .u64 (x.toNat : Int)
def vd (l : List UInt64) : List Value := l.map vV
@[simp] theorem vd_length (l : List UInt64) : (vd l).length = l.length := by simp [vd]
def bl (l : List Bool) : List Value := l.map .bool
@[simp] theorem bl_length (l : List Bool) : (bl l).length = l.length := by simp [bl]
def markB (n : Nat) : Nat → List Bool → List Bool
  | 0, l => l
  | k + 1, l => (markB n k l).set (n + k * n) true
@[simp] theorem markB_length (n : Nat) (l : List Bool) : ∀ k, (markB n k l).length = l.length
  | 0 => rfl
  | k + 1 => by simp [markB, markB_length n l k]

end Go.Kx
/- Own library, part K3: the salts and seeds are roots of primes. -/
namespace Go.Kx
open Go
end Go.Kx
/- Own library, part Sl: passphrases' slots, in plain Lean. -/
set_option linter.unusedSimpArgs false
namespace Go.Kx
open Go
variable {P : Program} {ops : Array Oper} {D : Option (Nat → Prop)} {Q : Exit → Act → World → Prop} {w0 w w' : World} {M : List Nat} {H H' : List Ent}
  {a : Act} {n : Nat} {L : List (Nat × Value)} {rest : List (Bool × Oper)} {d : Nat} {ty : TypeId} {pos : String} {aft : Array Edge} {x y z : Operand} {u v r : Value}
def slotT : List UInt8 := [115, 108, 111, 116]
def okp (p : List UInt8) : Bool := decide (1 ≤ p.length) && decide (p.length ≤ 48)
def okr (z : Int) : Bool := decide (1 ≤ z) && decide (z ≤ 4096)
def phrZ (p : List UInt8) : List UInt8 := if okp p then phrW p else []
def passE (p : List UInt8) : Nat := if okp p then 0 else 2
def keyZ (b a : List UInt8) (z : Int) : List UInt8 := if okr z then keyW b a z.toNat 32 else []
def roundE (z : Int) : Nat := if okr z then 0 else 2
theorem phrZ_len (p : List UInt8) : (phrZ p).length ≤ 49 := by
  unfold phrZ; split
  · rename_i h; simp [okp] at h; simp [phrW]; omega
  · simp
def kK (p a : List UInt8) (z : Int) : List UInt8 := if okp p && okr z then keyW (phrW p) a z.toNat 32 else List.replicate 32 0
def kE (p : List UInt8) (z : Int) : Nat := if okp p && okr z then 0 else 2
theorem kK_len (p a : List UInt8) (z : Int) : (kK p a z).length = 32 := by unfold kK; split <;> simp
def keyS (p : List UInt8) (s : So) : List UInt8 := kK p s.2.2.1 s.2.1
def opS (p : List UInt8) (s : So) : Bool := s.1 && unwB (keyS p s) slotT 0 s.2.2.2.1 s.2.2.2.2
def arS (p : List UInt8) (s : So) : List UInt8 := wrapD (keyS p s) slotT 0 s.2.2.2.1
theorem arS_len {p : List UInt8} {s : So} (h : OkS s) : (arS p s).length = 32 := wrapD_len h.2.2.1
def mayS (h : Hd) (p : List UInt8) : Bool := okp p && decide (checkH h = 0)
def unl (h : Hd) (p : List UInt8) : List UInt8 × Nat × Nat :=
  if !mayS h p then (List.replicate 32 0, 0, 2) else if opS p h.s0 then (arS p h.s0, 0, 0) else if opS p h.s1 then (arS p h.s1, 1, 0) else if opS p h.s2 then (arS p h.s2, 2, 0) else if opS p h.s3 then (arS p h.s3, 3, 0) else (List.replicate 32 0, 0, 12)
theorem unl_len {h : Hd} (k : OkHd h) (p : List UInt8) : (unl h p).1.length = 32 := by
  unfold unl
  split
  · simp
  split
  · exact arS_len k.s0
  split
  · exact arS_len k.s1
  split
  · exact arS_len k.s2
  split
  · exact arS_len k.s3
  · simp
def usedL (h : Hd) : List Nat := (((if h.s0.1 then [0] else []) ++ (if h.s1.1 then [1] else [])) ++ (if h.s2.1 then [2] else [])) ++ (if h.s3.1 then [3] else [])
theorem usedL_lt {h : Hd} : ∀ i, i ∈ usedL h → i < 4 := by
  intro i hi
  unfold usedL at hi
  simp only [List.mem_append] at hi
  rcases hi with ((hi | hi) | hi) | hi <;> (split at hi <;> simp at hi <;> omega)
theorem usedL_len {h : Hd} : (usedL h).length ≤ 4 := by
  unfold usedL
  cases h.s0.1 <;> cases h.s1.1 <;> cases h.s2.1 <;> cases h.s3.1 <;> simp
def freeS (h : Hd) : Int := if !h.s0.1 then 0 else if !h.s1.1 then 1 else if !h.s2.1 then 2 else if !h.s3.1 then 3 else -1
def getS (h : Hd) : Nat → So
  | 0 => h.s0
  | 1 => h.s1
  | 2 => h.s2
  | _ => h.s3
def setS (h : Hd) : Nat → So → Hd
  | 0, s => { h with s0 := s }
  | 1, s => { h with s1 := s }
  | 2, s => { h with s2 := s }
  | _, s => { h with s3 := s }
theorem setS_ok {h : Hd} {s : So} (k : OkHd h) (ks : OkS s) : ∀ i, OkHd (setS h i s)
  | 0 => ⟨k.m, k.r, k.v0, k.v1, ks, k.s1, k.s2, k.s3⟩
  | 1 => ⟨k.m, k.r, k.v0, k.v1, k.s0, ks, k.s2, k.s3⟩
  | 2 => ⟨k.m, k.r, k.v0, k.v1, k.s0, k.s1, ks, k.s3⟩
  | _ + 3 => ⟨k.m, k.r, k.v0, k.v1, k.s0, k.s1, k.s2, ks⟩
theorem getS_ok {h : Hd} (k : OkHd h) : ∀ i, OkS (getS h i)
  | 0 => k.s0
  | 1 => k.s1
  | 2 => k.s2
  | _ + 3 => k.s3
def saltS (h : Hd) (b : List UInt8) : Bool := ((h.s0.1 && decide (h.s0.2.2.1 = b) || h.s1.1 && decide (h.s1.2.2.1 = b)) || h.s2.1 && decide (h.s2.2.2.1 = b)) || h.s3.1 && decide (h.s3.2.2.1 = b)
def thereS (h : Hd) (p b : List UInt8) : Bool := saltS h b || decide ((unl h p).2.2 = 0)
/-- Is a used slot of the first so many in the list of that salt? -/
def saltI (h : Hd) (b : List UInt8) (i : Nat) : Prop := ∀ j, j < i → ¬ (getS h ((usedL h).getD j 0)).2.2.1 = b
theorem saltS_no {h : Hd} {b : List UInt8} (k : saltI h b (usedL h).length) : saltS h b = false := by
  have key : ∀ i, i ∈ usedL h → ¬ (getS h i).2.2.1 = b := by
    intro i hi
    obtain ⟨j, hj, rfl⟩ := List.mem_iff_getElem.1 hi
    have := k j hj
    simpa [List.getD, hj] using this
  have k0 : h.s0.1 = true → ¬ h.s0.2.2.1 = b := fun e => key 0 (by simp [usedL, e])
  have k1 : h.s1.1 = true → ¬ h.s1.2.2.1 = b := fun e => key 1 (by simp [usedL, e])
  have k2 : h.s2.1 = true → ¬ h.s2.2.2.1 = b := fun e => key 2 (by simp [usedL, e])
  have k3 : h.s3.1 = true → ¬ h.s3.2.2.1 = b := fun e => key 3 (by simp [usedL, e])
  simp only [saltS, Bool.or_eq_false_iff, Bool.and_eq_false_imp, decide_eq_false_iff_not]
  exact ⟨⟨⟨k0, k1⟩, k2⟩, k3⟩
theorem usedL_getS {h : Hd} {i : Nat} (hi : i ∈ usedL h) : (getS h i).1 = true := by
  unfold usedL at hi
  simp only [List.mem_append] at hi
  rcases hi with ((hi | hi) | hi) | hi
  · by_cases e : h.s0.1 = true
    · simp [e] at hi; subst hi; exact e
    · simp [e] at hi
  · by_cases e : h.s1.1 = true
    · simp [e] at hi; subst hi; exact e
    · simp [e] at hi
  · by_cases e : h.s2.1 = true
    · simp [e] at hi; subst hi; exact e
    · simp [e] at hi
  · by_cases e : h.s3.1 = true
    · simp [e] at hi; subst hi; exact e
    · simp [e] at hi
theorem saltS_yes {h : Hd} {b : List UInt8} {i : Nat} (hi : i ∈ usedL h) (e : (getS h i).2.2.1 = b) : saltS h b = true := by
  have hu := usedL_getS hi
  have hl := usedL_lt i hi
  match i, hl with
  | 0, _ => simp only [getS] at hu e; simp [saltS, hu, e]
  | 1, _ => simp only [getS] at hu e; simp [saltS, hu, e]
  | 2, _ => simp only [getS] at hu e; simp [saltS, hu, e]
  | 3, _ => simp only [getS] at hu e; simp [saltS, hu, e]
def newS (p b : List UInt8) (z : Int) (x : List UInt8) : So := (true, z, b, wrapD (kK p b z) slotT 0 x, tagB (kK p b z) slotT 0 (wrapD (kK p b z) slotT 0 x))
theorem newS_ok {p b x : List UInt8} {z : Int} (hz : In64 z) (hb : b.length = 16) (hx : x.length = 32) : OkS (newS p b z x) := ⟨hz, hb, wrapD_len hx, tagB_len ..⟩
def addS (h : Hd) (x p b : List UInt8) (z : Int) : Hd × Int × Nat :=
  if !mayS h p then (zH, 0, 2) else if !decide (kE p z = 0) then (zH, 0, 2) else if thereS h p b then (zH, 0, 6) else if freeS h < 0 then (zH, 0, 7) else (setS h (freeS h).toNat (newS p b z x), freeS h, 0)
theorem passE_zero {p : List UInt8} : passE p = 0 ↔ okp p = true := by unfold passE; split <;> simp_all
theorem roundE_zero {z : Int} : roundE z = 0 ↔ okr z = true := by unfold roundE; split <;> simp_all
theorem passE_no {p : List UInt8} (h : ¬ passE p = 0) : okp p = false := by cases e : okp p <;> simp_all [passE_zero]
theorem roundE_no {z : Int} (h : ¬ roundE z = 0) : okr z = false := by cases e : okr z <;> simp_all [roundE_zero]
theorem kE_two {p : List UInt8} {z : Int} (h : ¬ kE p z = 0) : kE p z = 2 := by
  unfold kE at *
  split at h <;> simp_all
theorem op_unused {p : List UInt8} {s : So} (h : s.1 = false) : opS p s = false := by simp [opS, h]
theorem op_no {p : List UInt8} {s : So} (h : ¬ unwE (kK p s.2.2.1 s.2.1) slotT 0 s.2.2.2.1 s.2.2.2.2 = 0) : opS p s = false := by
  have : unwB (keyS p s) slotT 0 s.2.2.2.1 s.2.2.2.2 = false := by
    unfold unwE at h
    cases e : unwB (kK p s.2.2.1 s.2.1) slotT 0 s.2.2.2.1 s.2.2.2.2
    · exact e
    · rw [e] at h; exact absurd rfl h
  simp [opS, this]
theorem op_yes {p : List UInt8} {s : So} (hu : s.1 = true) (h : unwE (kK p s.2.2.1 s.2.1) slotT 0 s.2.2.2.1 s.2.2.2.2 = 0) : opS p s = true ∧ unwK (kK p s.2.2.1 s.2.1) slotT 0 s.2.2.2.1 s.2.2.2.2 = arS p s := by
  have e : unwB (kK p s.2.2.1 s.2.1) slotT 0 s.2.2.2.1 s.2.2.2.2 = true := by
    unfold unwE at h
    cases e : unwB (kK p s.2.2.1 s.2.1) slotT 0 s.2.2.2.1 s.2.2.2.2
    · rw [e] at h; cases h
    · rfl
  refine ⟨by simp only [opS, keyS, hu, e, Bool.and_self], ?_⟩
  rw [unwK, e]; rfl
theorem saltI_zero {h : Hd} {b : List UInt8} : saltI h b 0 := fun _ hj => absurd hj (Nat.not_lt_zero _)
theorem saltI_succ {h : Hd} {b : List UInt8} {i : Nat} (k : saltI h b i) (e : ¬ (getS h ((usedL h).getD i 0)).2.2.1 = b) : saltI h b (i + 1) := fun j hj => by
  by_cases hji : j = i
  · subst hji; exact e
  · exact k j (by omega)
theorem usedL_four {h : Hd} {i : Nat} (hi : i < (usedL h).length) : (usedL h).getD i 0 = 0 ∨ (usedL h).getD i 0 = 1 ∨ (usedL h).getD i 0 = 2 ∨ (usedL h).getD i 0 = 3 := by
  have hm : (usedL h).getD i 0 ∈ usedL h := by simp [List.getD, hi]
  have := usedL_lt _ hm
  omega
theorem usedL_mem {h : Hd} {i : Nat} (hi : i < (usedL h).length) : (usedL h).getD i 0 ∈ usedL h := by simp [List.getD, hi]
theorem there_salt {h : Hd} {p b : List UInt8} {i j : Nat} (hi : i < (usedL h).length) (hc : (usedL h).getD i 0 = j) (e : (getS h j).2.2.1 = b) : thereS h p b = true := by
  have hs : saltS h b = true := saltS_yes (usedL_mem hi) (by rw [hc]; exact e)
  simp [thereS, hs]
theorem freeS_five (h : Hd) : freeS h = -1 ∨ freeS h = 0 ∨ freeS h = 1 ∨ freeS h = 2 ∨ freeS h = 3 := by
  unfold freeS
  split
  · simp
  split
  · simp
  split
  · simp
  split <;> simp
theorem chk_slot {h : Hd} (hc : checkH h = 0) (j : Nat) (hj : j < 4) (hu : (getS h j).1 = true) : okr (getS h j).2.1 = true := by
  obtain ⟨hs, hl⟩ := check_ok hc
  simp only [shapedB, Bool.and_eq_true] at hs
  obtain ⟨⟨⟨⟨⟨⟨_, _⟩, h0⟩, h1⟩, h2⟩, h3⟩, _⟩ := hs
  simp only [longB, Bool.or_eq_false_iff, decide_eq_false_iff_not] at hl
  obtain ⟨⟨⟨l0, l1⟩, l2⟩, l3⟩ := hl
  match j, hj with
  | 0, _ => simp only [getS] at hu ⊢; simp only [slotB, hu, if_true, decide_eq_true_eq] at h0; simp [okr]; omega
  | 1, _ => simp only [getS] at hu ⊢; simp only [slotB, hu, if_true, decide_eq_true_eq] at h1; simp [okr]; omega
  | 2, _ => simp only [getS] at hu ⊢; simp only [slotB, hu, if_true, decide_eq_true_eq] at h2; simp [okr]; omega
  | 3, _ => simp only [getS] at hu ⊢; simp only [slotB, hu, if_true, decide_eq_true_eq] at h3; simp [okr]; omega
def intC (i : Nat) : List Value := [.int .i64 (i : Int)]
theorem intCs_one (ls : List Nat) : One (ls.flatMap intC) := fun v hv => by
  obtain ⟨c, _, h⟩ := List.mem_flatMap.1 hv
  simp [intC] at h; subst h; rfl
/-! ## The chapter's header -/
def emptyH : Hd := ⟨4, 1, zV, zV, zS, zS, zS, zS⟩
def k7 : List UInt8 := 7 :: List.replicate 31 0
def sa1 : List UInt8 := 1 :: List.replicate 15 0
def sa2 : List UInt8 := 2 :: List.replicate 15 0
def n1T : So := newS [97, 98] sa1 2 k7
def h1T : Hd := setS emptyH 0 n1T
def n2T : So := newS [99, 100] sa2 1 k7
def h2T : Hd := setS h1T 1 n2T
theorem emptyH_ok : OkHd emptyH := ⟨by unfold In64; decide, by unfold In64; decide, zH_ok.v0, zH_ok.v1, zH_ok.s0, zH_ok.s1, zH_ok.s2, zH_ok.s3⟩
theorem h1T_ok : OkHd h1T := setS_ok emptyH_ok (newS_ok (by unfold In64; decide) (by decide) (by decide)) 0
theorem h2T_ok : OkHd h2T := setS_ok h1T_ok (newS_ok (by unfold In64; decide) (by decide) (by decide)) 1
theorem tagB0 (k d : List UInt8) : tagB k slotT 0 d = hmacW (subW k [115, 108, 111, 116, 32, 115, 101, 97, 108, 32, 48]) (plT 66 d) := by rw [seal_slot]; rfl
theorem wrapD0 (k x : List UInt8) : wrapD k slotT 0 x = xorW x (subW k [115, 108, 111, 116, 32, 112, 97, 100, 32, 48]) := by rw [mask_slot]; rfl
/-- The other passphrase does not open the first slot. -/
theorem other_no : unwB (kK [99, 100] sa1 2) slotT 0 n1T.2.2.2.1 n1T.2.2.2.2 = false := by
  have e1 : n1T.2.2.2.1 = wrapD (kK [97, 98] sa1 2) slotT 0 k7 := rfl
  have e2 : n1T.2.2.2.2 = tagB (kK [97, 98] sa1 2) slotT 0 (wrapD (kK [97, 98] sa1 2) slotT 0 k7) := rfl
  rw [e1, e2, unwB, tagB0, tagB0, wrapD0]
  decide +kernel
theorem op_new {p b x : List UInt8} {z : Int} (hx : x.length = 32) : opS p (newS p b z x) = true ∧ arS p (newS p b z x) = x := by
  have h := unw_ok (k := kK p b z) (l := slotT) (n := 0) hx
  refine ⟨?_, wrap_back hx⟩
  show (true && unwB (kK p b z) slotT 0 (wrapD (kK p b z) slotT 0 x) (tagB (kK p b z) slotT 0 (wrapD (kK p b z) slotT 0 x))) = true
  simp [unwB]
theorem op_zS (p : List UInt8) : opS p zS = false := op_unused rfl
theorem may_e : mayS emptyH [97, 98] = true := by decide +kernel
theorem may_1 : mayS h1T [99, 100] = true := by decide +kernel
theorem may_2a : mayS h2T [97, 98] = true := by decide +kernel
theorem may_2b : mayS h2T [99, 100] = true := by decide +kernel
theorem add1T : addS emptyH k7 [97, 98] sa1 2 = (h1T, 0, 0) := by
  have h1 : kE [97, 98] 2 = 0 := by decide
  have h2 : thereS emptyH [97, 98] sa1 = false := by
    have e : (unl emptyH [97, 98]).2.2 = 12 := by
      have h0 : opS [97, 98] emptyH.s0 = false := op_zS _
      have h1 : opS [97, 98] emptyH.s1 = false := op_zS _
      have h2 : opS [97, 98] emptyH.s2 = false := op_zS _
      have h3 : opS [97, 98] emptyH.s3 = false := op_zS _
      simp [unl, may_e, h0, h1, h2, h3]
    have hs : saltS emptyH sa1 = false := by decide +kernel
    simp [thereS, hs, e]
  simp only [addS, may_e, h1, h2]
  rfl
theorem op_other : opS [99, 100] h1T.s0 = false := by
  show (true && unwB (kK [99, 100] sa1 2) slotT 0 n1T.2.2.2.1 n1T.2.2.2.2) = false
  rw [other_no]; rfl
theorem add2T : addS h1T k7 [99, 100] sa2 1 = (h2T, 1, 0) := by
  have h1 : kE [99, 100] 1 = 0 := by decide
  have h2 : thereS h1T [99, 100] sa2 = false := by
    have e : (unl h1T [99, 100]).2.2 = 12 := by
      have h0 : opS [99, 100] h1T.s1 = false := op_zS _
      have h0' : opS [99, 100] h1T.s2 = false := op_zS _
      have h0'' : opS [99, 100] h1T.s3 = false := op_zS _
      simp [unl, may_1, op_other, h0, h0', h0'']
    have hs : saltS h1T sa2 = false := by decide +kernel
    simp [thereS, hs, e]
  simp only [addS, may_1, h1, h2]
  rfl
theorem unl1T : unl h2T [97, 98] = (k7, 0, 0) := by
  have h := op_new (p := [97, 98]) (b := sa1) (x := k7) (z := 2) (by decide)
  have h0 : opS [97, 98] h2T.s0 = true := h.1
  have h1 : arS [97, 98] h2T.s0 = k7 := h.2
  simp [unl, may_2a, h0, h1]
theorem unl2T : unl h2T [99, 100] = (k7, 1, 0) := by
  have h := op_new (p := [99, 100]) (b := sa2) (x := k7) (z := 1) (by decide)
  have h0 : opS [99, 100] h2T.s0 = false := op_other
  have h1 : opS [99, 100] h2T.s1 = true := h.1
  have h2 : arS [99, 100] h2T.s1 = k7 := h.2
  simp [unl, may_2b, h0, h1, h2]
def opensB (h : Hd) (p : List UInt8) (j : Nat) : Bool := decide ((unl h p).1 = k7) && (decide ((unl h p).2.1 = j) && decide ((unl h p).2.2 = 0))
theorem opens1T : opensB h2T [97, 98] 0 = true := by rw [opensB, unl1T]; rfl
theorem opens2T : opensB h2T [99, 100] 1 = true := by rw [opensB, unl2T]; rfl
def largeS (h : Hd) (s : So) : Bool := s.1 && (decide (60 < s.2.1) && decide (checkH h = 0))
def largeB (h : Hd) (p : List UInt8) (z : Int) : Bool := ((largeS h h.s0 || largeS h h.s1) || (largeS h h.s2 || largeS h h.s3)) || (decide (1000 < p.length) || (decide (60 < z) && decide (z ≤ 4096)))
/-- A slice as a pointer to an array. -/
theorem s_toArrV {t e es N m : Nat} {v : Value} {bs : List UInt8} (hE : Env a n L) (hx : ev L x = some v) (hr : (ownW v es m (bv bs)).holds w) (h1 : es = 1) (hm : m = N) (h0 : 0 < N) (ht : P.underlying t = some (.array N e)) (hn : Nat.blt d n = true)
    (k : ∀ a' p, Env a' n ((d, p) :: L) → (cellsAt p (bv bs)).holds w → wpL P ops D Q rest a' w) : wpL P ops D Q ((true, ⟨some d, .sliceToArrayPointer t x, ty, pos, aft, none⟩) :: rest) a w := by
  subst h1 hm
  obtain ⟨hl, ⟨rfl, rfl⟩ | ⟨b, cap, cur, T, fr, rfl, g1, g3, g4, g5, g6⟩⟩ := hr
  · omega
  refine s_toArrP hE hx ht (Nat.le_refl _) hn (fun a' hE' => k a' _ hE' ⟨b, 0, rfl, (Array.getElem?_eq_some_iff.1 g3).1, fun i x hx => ?_⟩)
  rw [Nat.zero_add, cell_of_row w b i _ T fr g3]
  rw [← g5, List.getElem?_take] at hx
  split at hx
  · simpa using hx
  · cases hx
end Go.Kx
/- Own library, part So: what a slot's coming and going changes. -/
set_option linter.unusedSimpArgs false
namespace Go.Kx
open Go
theorem four_cases {i : Nat} (h : i < 4) : i = 0 ∨ i = 1 ∨ i = 2 ∨ i = 3 := by omega
theorem unl_hit {h : Hd} {p : List UInt8} {j : Nat} (hm : mayS h p = true) (hj : j < 4) (ho : opS p (getS h j) = true) (hb : ∀ i, i < j → opS p (getS h i) = false) : unl h p = (arS p (getS h j), j, 0) := by
  rcases four_cases hj with rfl | rfl | rfl | rfl
  · simp only [getS] at ho ⊢
    simp [unl, hm, ho]
  · have h0 := hb 0 (by decide)
    simp only [getS] at ho h0 ⊢
    simp [unl, hm, ho, h0]
  · have h0 := hb 0 (by decide)
    have h1 := hb 1 (by decide)
    simp only [getS] at ho h0 h1 ⊢
    simp [unl, hm, ho, h0, h1]
  · have h0 := hb 0 (by decide)
    have h1 := hb 1 (by decide)
    have h2 := hb 2 (by decide)
    simp only [getS] at ho h0 h1 h2 ⊢
    simp [unl, hm, ho, h0, h1, h2]
theorem unl_none {h : Hd} {p : List UInt8} (hm : mayS h p = true) (hn : ∀ i, i < 4 → opS p (getS h i) = false) : unl h p = (List.replicate 32 0, 0, 12) := by
  have h0 := hn 0 (by decide)
  have h1 := hn 1 (by decide)
  have h2 := hn 2 (by decide)
  have h3 := hn 3 (by decide)
  simp only [getS] at h0 h1 h2 h3
  simp [unl, hm, h0, h1, h2, h3]
theorem unl_two {h : Hd} {p : List UInt8} (e : (unl h p).2.2 = 2) : (unl h p).1 = List.replicate 32 0 := by
  unfold unl at *
  split at e
  · rename_i h1; rw [if_pos h1]
  split at e
  · cases e
  split at e
  · cases e
  split at e
  · cases e
  split at e
  · cases e
  · cases e
theorem unl_may {h : Hd} {p : List UInt8} (e : ¬ (unl h p).2.2 = 2) : mayS h p = true := by
  cases hm : mayS h p with
  | true => rfl
  | false => exact absurd (by simp [unl, hm]) e
theorem unl_five {h : Hd} {p : List UInt8} (hm : mayS h p = true) : (∃ j, j < 4 ∧ opS p (getS h j) = true ∧ (∀ i, i < j → opS p (getS h i) = false) ∧ unl h p = (arS p (getS h j), j, 0)) ∨ ((∀ i, i < 4 → opS p (getS h i) = false) ∧ unl h p = (List.replicate 32 0, 0, 12)) := by
  by_cases h0 : opS p (getS h 0) = true
  · have hb : ∀ i, i < 0 → opS p (getS h i) = false := fun i hi => absurd hi (Nat.not_lt_zero _)
    exact .inl ⟨0, by decide, h0, hb, unl_hit hm (by decide) h0 hb⟩
  have n0 : opS p (getS h 0) = false := by simpa using h0
  by_cases h1 : opS p (getS h 1) = true
  · have hb : ∀ i, i < 1 → opS p (getS h i) = false := fun i hi => by obtain rfl : i = 0 := by omega
                                                                      exact n0
    exact .inl ⟨1, by decide, h1, hb, unl_hit hm (by decide) h1 hb⟩
  have n1 : opS p (getS h 1) = false := by simpa using h1
  by_cases h2 : opS p (getS h 2) = true
  · have hb : ∀ i, i < 2 → opS p (getS h i) = false := fun i hi => by
      rcases (show i = 0 ∨ i = 1 by omega) with rfl | rfl <;> assumption
    exact .inl ⟨2, by decide, h2, hb, unl_hit hm (by decide) h2 hb⟩
  have n2 : opS p (getS h 2) = false := by simpa using h2
  by_cases h3 : opS p (getS h 3) = true
  · have hb : ∀ i, i < 3 → opS p (getS h i) = false := fun i hi => by
      rcases (show i = 0 ∨ i = 1 ∨ i = 2 by omega) with rfl | rfl | rfl <;> assumption
    exact .inl ⟨3, by decide, h3, hb, unl_hit hm (by decide) h3 hb⟩
  have n3 : opS p (getS h 3) = false := by simpa using h3
  have hn : ∀ i, i < 4 → opS p (getS h i) = false := fun i hi => by
    rcases four_cases hi with rfl | rfl | rfl | rfl <;> assumption
  exact .inr ⟨hn, unl_none hm hn⟩
end Go.Kx
/- Own library, part Sr: which slot opens. -/
namespace Go.Kx
open Go
theorem op_unw {p : List UInt8} {s : So} (h : opS p s = true) : unwE (kK p s.2.2.1 s.2.1) slotT 0 s.2.2.2.1 s.2.2.2.2 = 0 ∧ unwK (kK p s.2.2.1 s.2.1) slotT 0 s.2.2.2.1 s.2.2.2.2 = arS p s := by
  simp only [opS, Bool.and_eq_true] at h
  have h2 : unwB (kK p s.2.2.1 s.2.1) slotT 0 s.2.2.2.1 s.2.2.2.2 = true := h.2
  exact ⟨by rw [unwE, if_pos h2], by rw [unwK, if_pos h2]; rfl⟩
theorem op_ne {p : List UInt8} {s : So} (hu : s.1 = true) (h : opS p s = false) : ¬ unwE (kK p s.2.2.1 s.2.1) slotT 0 s.2.2.2.1 s.2.2.2.2 = 0 := fun e => by
  have := (op_yes hu e).1
  rw [h] at this; cases this
section
variable {P : Program} {ops : Array Oper} {D : Option (Nat → Prop)} {Q : Exit → Act → World → Prop} {w w' : World}
  {a : Act} {n : Nat} {L : List (Nat × Value)} {rest : List (Bool × Oper)} {d : Nat} {ty : TypeId} {pos : String} {aft : Array Edge} {x : Operand}
/-- A slice as a pointer to an array, of which the block is told. -/
theorem s_toArrW {t e es N m : Nat} {v : Value} {bs : List UInt8} (hE : Env a n L) (hx : ev L x = some v) (hr : (ownW v es m (bv bs)).holds w) (h1 : es = 1) (hm : m = N) (h0 : 0 < N) (ht : P.underlying t = some (.array N e)) (hn : Nat.blt d n = true)
    (k : ∀ a' p, Env a' n ((d, p) :: L) → (cellsAt p (bv bs)).holds w → (∀ b, b ∈ valBlocks p → b ∈ valBlocks v) → wpL P ops D Q rest a' w) : wpL P ops D Q ((true, ⟨some d, .sliceToArrayPointer t x, ty, pos, aft, none⟩) :: rest) a w := by
  subst h1 hm
  obtain ⟨hl, ⟨rfl, rfl⟩ | ⟨b, cap, cur, T, fr, rfl, g1, g3, g4, g5, g6⟩⟩ := hr
  · omega
  refine s_toArrP hE hx ht (Nat.le_refl _) hn (fun a' hE' => k a' _ hE' ⟨b, 0, rfl, (Array.getElem?_eq_some_iff.1 g3).1, fun i x hx => ?_⟩ (fun y hy => by simpa [valBlocks] using hy))
  rw [Nat.zero_add, cell_of_row w b i _ T fr g3]
  rw [← g5, List.getElem?_take] at hx
  split at hx
  · simpa using hx
  · cases hx
end
end Go.Kx
