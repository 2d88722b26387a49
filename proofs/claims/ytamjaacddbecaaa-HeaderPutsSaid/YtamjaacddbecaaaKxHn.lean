/- Own library, part Hn: a header that comes in as an argument. -/
import Derived.Test.YtamjaacddbecaaaKxHm
import Derived.Test.YtamjaacddbecaaaKxWx
import Derived.Test.YtamjaacddbecaaaKxR
set_option linter.unusedSimpArgs false
set_option linter.unusedVariables false
set_option linter.unusedSimpArgs false
namespace Go.Kx
open Go
open Go.ChangeShapes Go.WideShapes Go.ChangeAt Go.RowKit
variable {P : Program} {W : World}
theorem split_at {cs : List Value} (n : Nat) : cs = cs.take n ++ cs.drop n := (List.take_append_drop n cs).symm
theorem seg2 {cs : List Value} {a b : Nat} (h : cs.length = a + b) : cs = (cs.drop 0).take a ++ (cs.drop a).take b := by
  conv => lhs; rw [split_at (cs := cs) a]
  rw [List.drop_zero, List.take_of_length_le (l := cs.drop a) (by simp; omega)]
theorem seg3 {cs : List Value} {a b c : Nat} (h : cs.length = a + b + c) : cs = (cs.drop 0).take a ++ ((cs.drop a).take b ++ (cs.drop (a + b)).take c) := by
  conv => lhs; rw [split_at (cs := cs) a, split_at (cs := cs.drop a) b]
  rw [List.drop_zero, List.drop_drop, List.take_of_length_le (l := cs.drop (a + b)) (by simp; omega)]
theorem seg4 {cs : List Value} {a b c d : Nat} (h : cs.length = a + b + c + d) : cs = (cs.drop 0).take a ++ ((cs.drop a).take b ++ ((cs.drop (a + b)).take c ++ (cs.drop (a + b + c)).take d)) := by
  conv => lhs; rw [split_at (cs := cs) a, split_at (cs := cs.drop a) b, split_at (cs := (cs.drop a).drop b) c]
  rw [List.drop_zero, List.drop_drop, List.drop_drop, List.take_of_length_le (l := cs.drop (a + b + c)) (by simp; omega)]
/-- The fields of a struct of 2, 3, 4 fields. -/
def fieldsL (P : Program) (fs : Array Field) : List (Nat × Nat × Nat) := fs.toList.map (fun f => (f.type, f.offset, P.cellsOf f.type))
theorem dec_f2 {t s t0 t1 n0 n1 : Nat} {fs : Array Field} {R0 R1 : List Value → Prop} (hu : P.underlying t = some (.struct fs)) (hs : P.cellsOf t = s) (hl : fieldsL P fs = [(t0, 0, n0), (t1, n0, n1)]) (hn : s = n0 + n1)
    (h0 : Dec P W t0 R0) (h1 : Dec P W t1 R1) : Dec P W t (fun cs => ∃ a b, cs = a ++ b ∧ R0 a ∧ R1 b) :=
  (dec_structL [(t0, 0, n0, R0), (t1, n0, n1, R1)] hu hs hl (by
    intro p hp; simp only [List.mem_cons, List.not_mem_nil, or_false] at hp
    rcases hp with rfl | rfl
    · exact h0
    · exact h1)).mono fun cs h => ⟨_, _, seg2 (h.1.trans hn), h.2 _ (.head _), h.2 _ (.tail _ (.head _))⟩
theorem dec_f3 {t s t0 t1 t2 n0 n1 n2 o2 : Nat} {fs : Array Field} {R0 R1 R2 : List Value → Prop} (hu : P.underlying t = some (.struct fs)) (hs : P.cellsOf t = s) (hl : fieldsL P fs = [(t0, 0, n0), (t1, n0, n1), (t2, o2, n2)]) (ho : o2 = n0 + n1) (hn : s = n0 + n1 + n2)
    (h0 : Dec P W t0 R0) (h1 : Dec P W t1 R1) (h2 : Dec P W t2 R2) : Dec P W t (fun cs => ∃ a b c, cs = a ++ (b ++ c) ∧ R0 a ∧ R1 b ∧ R2 c) :=
  (dec_structL [(t0, 0, n0, R0), (t1, n0, n1, R1), (t2, o2, n2, R2)] hu hs hl (by
    intro p hp; simp only [List.mem_cons, List.not_mem_nil, or_false] at hp
    rcases hp with rfl | rfl | rfl
    · exact h0
    · exact h1
    · exact h2)).mono fun cs h => ⟨_, _, _, seg3 (h.1.trans hn), h.2 _ (.head _), h.2 _ (.tail _ (.head _)), ho ▸ h.2 _ (.tail _ (.tail _ (.head _)))⟩
theorem dec_f4 {t s t0 t1 t2 t3 n0 n1 n2 n3 o2 o3 : Nat} {fs : Array Field} {R0 R1 R2 R3 : List Value → Prop} (hu : P.underlying t = some (.struct fs)) (hs : P.cellsOf t = s) (hl : fieldsL P fs = [(t0, 0, n0), (t1, n0, n1), (t2, o2, n2), (t3, o3, n3)]) (ho : o2 = n0 + n1) (ho3 : o3 = n0 + n1 + n2) (hn : s = n0 + n1 + n2 + n3)
    (h0 : Dec P W t0 R0) (h1 : Dec P W t1 R1) (h2 : Dec P W t2 R2) (h3 : Dec P W t3 R3) : Dec P W t (fun cs => ∃ a b c d, cs = a ++ (b ++ (c ++ d)) ∧ R0 a ∧ R1 b ∧ R2 c ∧ R3 d) :=
  (dec_structL [(t0, 0, n0, R0), (t1, n0, n1, R1), (t2, o2, n2, R2), (t3, o3, n3, R3)] hu hs hl (by
    intro p hp; simp only [List.mem_cons, List.not_mem_nil, or_false] at hp
    rcases hp with rfl | rfl | rfl | rfl
    · exact h0
    · exact h1
    · exact h2
    · exact h3)).mono fun cs h => ⟨_, _, _, _, seg4 (h.1.trans hn), h.2 _ (.head _), h.2 _ (.tail _ (.head _)), ho ▸ h.2 _ (.tail _ (.tail _ (.head _))), ho3 ▸ h.2 _ (.tail _ (.tail _ (.tail _ (.head _))))⟩
theorem dec_a2 {t e es : Nat} {R : List Value → Prop} (hu : P.underlying t = some (.array 2 e)) (hes : P.cellsOf e = es) (hts : P.cellsOf t = 2 * es) (he : Dec P W e R) : Dec P W t (fun cs => ∃ a b, cs = a ++ b ∧ R a ∧ R b) :=
  (dec_array hu hes hts he).mono fun cs h => ⟨_, _, seg2 (a := es) (b := es) (by omega), by have := h.2 0 (by omega); rwa [Nat.zero_mul] at this, by have := h.2 1 (by omega); rwa [Nat.one_mul] at this⟩
theorem dec_a4 {t e es : Nat} {R : List Value → Prop} (hu : P.underlying t = some (.array 4 e)) (hes : P.cellsOf e = es) (hts : P.cellsOf t = 4 * es) (he : Dec P W e R) : Dec P W t (fun cs => ∃ a b c d, cs = a ++ (b ++ (c ++ d)) ∧ R a ∧ R b ∧ R c ∧ R d) :=
  (dec_array hu hes hts he).mono fun cs h => ⟨_, _, _, _, seg4 (a := es) (b := es) (c := es) (d := es) (by omega), by have := h.2 0 (by omega); rwa [Nat.zero_mul] at this, by have := h.2 1 (by omega); rwa [Nat.one_mul] at this,
    by have := h.2 2 (by omega); rwa [show 2 * es = es + es by omega] at this, by have := h.2 3 (by omega); rwa [show 3 * es = es + es + es by omega] at this⟩
/-- The cells of boxes, volumes, slots, headers. -/
def boxC (d t : List UInt8) : List Value := bv d ++ bv t
def volC (v : Vo) : List Value := [.bool v.1] ++ ([.int .u64 (v.2.1 : Int)] ++ boxC v.2.2.1 v.2.2.2)
def slotC (s : So) : List Value := [.bool s.1] ++ ([.int .i64 s.2.1] ++ (bv s.2.2.1 ++ boxC s.2.2.2.1 s.2.2.2.2))
def hdC (h : Hd) : List Value := ([.int .i64 h.m] ++ [.int .i64 h.r]) ++ ((volC h.v0 ++ volC h.v1) ++ (slotC h.s0 ++ (slotC h.s1 ++ (slotC h.s2 ++ slotC h.s3))))
/-- The types' numbers. -/
structure HdT (P : Program) where
  (th tg tvs tv tss ts tx tk tt ta ti tb tn te : Nat)
  (fh fg fv fs fx : Array Field)
  uh : P.underlying th = some (.struct fh)
  ug : P.underlying tg = some (.struct fg)
  uvs : P.underlying tvs = some (.array 2 tv)
  uv : P.underlying tv = some (.struct fv)
  uss : P.underlying tss = some (.array 4 ts)
  us : P.underlying ts = some (.struct fs)
  ux : P.underlying tx = some (.struct fx)
  uk : P.underlying tk = some (.array 32 te)
  ut : P.underlying tt = some (.array 32 te)
  ua : P.underlying ta = some (.array 16 te)
  ui : P.underlying ti = some (.int .i64)
  ub : P.underlying tb = some .bool
  un : P.underlying tn = some (.int .u64)
  ue : P.underlying te = some (.int .u8)
  ch : P.cellsOf th = 462
  cg : P.cellsOf tg = 2
  cvs : P.cellsOf tvs = 2 * 66
  cv : P.cellsOf tv = 66
  css : P.cellsOf tss = 4 * 82
  cs : P.cellsOf ts = 82
  cx : P.cellsOf tx = 64
  ck : P.cellsOf tk = 32 * 1
  ct : P.cellsOf tt = 32 * 1
  ca : P.cellsOf ta = 16 * 1
  ce : P.cellsOf te = 1
  lh : fieldsL P fh = [(tg, 0, 2), (tvs, 2, 132), (tss, 134, 328)]
  lg : fieldsL P fg = [(ti, 0, 1), (ti, 1, 1)]
  lv : fieldsL P fv = [(tb, 0, 1), (tn, 1, 1), (tx, 2, 64)]
  ls : fieldsL P fs = [(tb, 0, 1), (ti, 1, 1), (ta, 2, 16), (tx, 18, 64)]
  lx : fieldsL P fx = [(tk, 0, 32), (tt, 32, 32)]
theorem dec_box (T : HdT P) : Dec P W T.tx (fun cs => ∃ d t, cs = boxC d t ∧ d.length = 32 ∧ t.length = 32) :=
  (dec_f2 T.ux T.cx T.lx rfl (dec_arr8 T.uk T.ue T.ce T.ck) (dec_arr8 T.ut T.ue T.ce T.ct)).mono fun cs h => by
    obtain ⟨a, b, rfl, ⟨d, rfl, hd⟩, ⟨t, rfl, ht⟩⟩ := h
    exact ⟨d, t, rfl, hd, ht⟩
theorem dec_vol (T : HdT P) : Dec P W T.tv (fun cs => ∃ v : Vo, cs = volC v ∧ OkV v) :=
  (dec_f3 T.uv T.cv T.lv rfl rfl (dec_bool T.ub) (dec_int T.un) (dec_box T)).mono fun cs h => by
    obtain ⟨a, b, c, rfl, ⟨u, rfl⟩, ⟨i, rfl, h1, h2⟩, ⟨d, t, rfl, hd, ht⟩⟩ := h
    obtain ⟨m, rfl⟩ := Int.eq_ofNat_of_zero_le (show 0 ≤ i from h1)
    have h2' : (m : Int) ≤ 18446744073709551615 := h2
    exact ⟨(u, m, d, t), rfl, by simp only; omega, hd, ht⟩
theorem dec_slot (T : HdT P) : Dec P W T.ts (fun cs => ∃ s : So, cs = slotC s ∧ OkS s) :=
  (dec_f4 T.us T.cs T.ls rfl rfl rfl (dec_bool T.ub) (dec_int T.ui) (dec_arr8 T.ua T.ue T.ce T.ca) (dec_box T)).mono fun cs h => by
    obtain ⟨a, b, c, d, rfl, ⟨u, rfl⟩, ⟨i, rfl, h1, h2⟩, ⟨s, rfl, hs⟩, ⟨x, t, rfl, hx, ht⟩⟩ := h
    exact ⟨(u, i, s, x, t), rfl, ⟨h1, h2⟩, hs, hx, ht⟩
theorem dec_hd (T : HdT P) : Dec P W T.th (fun cs => ∃ h : Hd, cs = hdC h ∧ OkHd h) :=
  (dec_f3 T.uh T.ch T.lh rfl rfl (dec_f2 T.ug T.cg T.lg rfl (dec_int T.ui) (dec_int T.ui)) (dec_a2 T.uvs T.cv T.cvs (dec_vol T)) (dec_a4 T.uss T.cs T.css (dec_slot T))).mono fun cs h => by
    obtain ⟨a, b, c, rfl, ⟨_, _, rfl, ⟨m, rfl, m1, m2⟩, ⟨r, rfl, r1, r2⟩⟩, ⟨_, _, rfl, ⟨v0, rfl, hv0⟩, ⟨v1, rfl, hv1⟩⟩, ⟨_, _, _, _, rfl, ⟨s0, rfl, hs0⟩, ⟨s1, rfl, hs1⟩, ⟨s2, rfl, hs2⟩, ⟨s3, rfl, hs3⟩⟩⟩ := h
    exact ⟨⟨m, r, v0, v1, s0, s1, s2, s3⟩, rfl, ⟨⟨m1, m2⟩, ⟨r1, r2⟩, hv0, hv1, hs0, hs1, hs2, hs3⟩⟩
theorem arg_hd {K : Type} {enc : TypeId × Value → K} (T : HdT P) {v : Value} {d : DataW K} {base : Nat} {qs : List MemPlace} (hval : Value.okWide P W .any base T.th v) (h : DataW.Trod enc P W 0 (fun _ => true) true T.th v d qs) (hw : ∀ m, m ∈ d.weights P T.th → m ≤ reachBytes) : ∃ x : Hd, v = .agg (hdC x).toArray ∧ OkHd x := by
  obtain ⟨cs, rfl, hcs⟩ := okWide_struct T.uh hval
  obtain ⟨x, hx, ok⟩ := trod_of (dec_hd T) h hw
  exact ⟨x, congrArg Value.agg (agg_of hx), ok⟩
end Go.Kx
