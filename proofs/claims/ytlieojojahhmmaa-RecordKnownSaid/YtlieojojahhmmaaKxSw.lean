/- Own library, part Sw: what the second walk printer cites: entries of bytes in another text. -/
import Derived.Test.YtlieojojahhmmaaKxTa
import Derived.Test.YtlieojojahhmmaaKxB3
import Derived.Test.YtlieojojahhmmaaKxM
import Derived.Test.YtlieojojahhmmaaKxO
import Derived.Test.YtlieojojahhmmaaKxW
import Derived.Test.YtlieojojahhmmaaKxU
set_option linter.unusedSimpArgs false
set_option linter.unusedVariables false
namespace Go.Kx
open Go
variable {P : Program} {ops : Array Oper} {D : Option (Nat → Prop)} {Q : Exit → Act → World → Prop} {w0 w w' : World} {M : List Nat} {H H' : List Ent}
  {a : Act} {n : Nat} {L : List (Nat × Value)} {rest : List (Bool × Oper)} {d : Nat} {ty : TypeId} {pos : String} {aft : Array Edge} {x y z : Operand} {u v r : Value}

theorem Mem.ownB {p q : List UInt8} (hM : Mem w0 M w (own v 1 p.length (bv p) :: H)) (h : p = q) : Mem w0 M w (own v 1 q.length (bv q) :: H) := h ▸ hM
theorem Mem.ownApp {p q : List UInt8} {m : Nat} (hM : Mem w0 M w (own v 1 (p.length + m) (bv p ++ bv q) :: H)) (hm : m = q.length) : Mem w0 M w (own v 1 (p ++ q).length (bv (p ++ q)) :: H) :=
  hM.ownEq (by rw [List.length_append, hm]) (bv_append p q).symm
theorem Mem.ownNil {p q : List UInt8} {m : Nat} (hM : Mem w0 M w (own v 1 (p.length + m) (bv p ++ bv q) :: H)) (hp : p = []) (hm : m = q.length) : Mem w0 M w (own v 1 q.length (bv q) :: H) := by
  subst hp
  exact hM.ownEq (by simp [hm]) rfl
theorem Mem.blkB {b T k : Nat} {p q : List UInt8} (hM : Mem w0 M w (blk b [bv p] [k] T :: H)) (h : p = q) : Mem w0 M w (blk b [bv q] [k] T :: H) := h ▸ hM
theorem zipXor0 : ∀ (l : List UInt8), List.zipWith (· ^^^ ·) (List.replicate l.length 0) l = l
  | [] => rfl
  | x :: l => by
    show (0 ^^^ x) :: List.zipWith (· ^^^ ·) (List.replicate l.length 0) l = _
    rw [zipXor0 l, UInt8.zero_xor]
theorem uW_zero (p s : List UInt8) (i : UInt8) : hmacW p (s ++ [0, 0, 0, i]) = uW p s i 0 := rfl
theorem oW_one (p s : List UInt8) (i : UInt8) : oW p s i 1 = uW p s i 0 := by
  have h : (uW p s i 0).length = 32 := by simp
  have := zipXor0 (uW p s i 0)
  rw [h] at this
  exact this
theorem Mem.ownSet {p : List UInt8} {j : Nat} {b : UInt8} (hM : Mem w0 M w (own v 1 p.length (wr (j * 1) [bV b] (bv p)) :: H)) (hj : j < p.length) : Mem w0 M w (own v 1 (p.set j b).length (bv (p.set j b)) :: H) :=
  hM.ownEq (by simp) (bv_set hj)

theorem wp_treeM {id : Nat} {ops : Array Oper} (hM : Mem w0 M w H) (hm : P.follows .mixedOrders = true) (X1 X2 : Nat → Prop) (pl : Pl) (c : List (Nat × Bool)) (T : List (Nat × List (Nat × Nat))) (hc : treeOk ops pl c T = true)
    (h : ∀ w', Mem w0 M w' H → w'.heap = w.heap → obl P ops X2 Q pl X1 c a w') : (Code.region id ops true).wp P Q a w :=
  wp_tree hm X1 X2 pl c T hc (h _ hM.drew rfl)

/-! ## A slice that is written to and not appended to: what lies behind it in its block is whatever -/

def ownW (v : Value) (es n : Nat) (cs : List Value) : Ent where
  fp := valBlocks v
  ro := []
  holds w := cs.length = n * es ∧ ((v = .slice none 0 0 ∧ n = 0) ∨
    ∃ b c cur T fr, v = .slice (some ⟨b, 0, none⟩) n c ∧ n ≤ c ∧ w.heap[b]? = some (.cells cur T fr) ∧ n * es ≤ cur.size ∧ cur.toList.take (n * es) = cs ∧ Fz fr cur.size)
  loc w w' h hb := by
    refine ⟨h.1, ?_⟩
    rcases h.2 with h | ⟨b, c, cur, T, fr, rfl, h1, h3, h4⟩
    · exact .inl h
    · exact .inr ⟨b, c, cur, T, fr, rfl, h1, (hb b (.inl (by simp [valBlocks]))).trans h3, h4⟩
  old w h b hb := by
    simp only [List.not_mem_nil, or_false] at hb
    rcases h.2 with ⟨rfl, _⟩ | ⟨b', c, cur, T, fr, rfl, h1, h3, h4⟩
    · simp [valBlocks] at hb
    · simp [valBlocks] at hb; subst hb; exact (Array.getElem?_eq_some_iff.1 h3).1

/-- A slice's first elements, and no room behind them. -/
def cutV : Value → Nat → Value
  | .slice p _ _, l => .slice p l l
  | v, _ => v
@[simp] theorem cutV_blocks (v : Value) (l : Nat) : valBlocks (cutV v l) = valBlocks v := by cases v with
  | slice p m c => cases p <;> rfl
  | _ => rfl
theorem own_cutW {es m l : Nat} {cs : List Value} (h : (own v es m cs).holds w) (hl : l ≤ m) : (ownW (cutV v l) es l (cs.take (l * es))).holds w := by
  have hle : l * es ≤ m * es := Nat.mul_le_mul_right _ hl
  obtain ⟨h0, ⟨rfl, rfl⟩ | ⟨b, cap, cur, T, fr, rfl, h1, h2, h3, h4, h5, h6⟩⟩ := h
  · obtain rfl : l = 0 := by omega
    exact ⟨by simp, .inl ⟨rfl, rfl⟩⟩
  · have hcap : m * es ≤ cap * es := Nat.mul_le_mul_right _ h1
    refine ⟨by rw [List.length_take]; omega, .inr ⟨b, l, cur, T, fr, rfl, Nat.le_refl _, h3, by omega, ?_, h6⟩⟩
    rw [← h5, List.take_take, Nat.min_eq_left hle]
theorem Mem.entTo {e f : Ent} (hM : Mem w0 M w (e :: H)) (hf : f.holds w) (hfp : ∀ b, b ∈ f.fp → b ∈ e.fp) (hro : ∀ b, b ∈ f.ro → b ∈ e.ro) (hs : ∀ b, b ∈ f.ro → b ∉ f.fp) : Mem w0 M w (f :: H) := by
  refine Mem.act (es := [e]) (es' := [f]) hM rfl rfl rfl (Nat.le_refl _) (fun _ _ _ => rfl) ?_ ?_ ?_ ?_ (List.pairwise_singleton ..)
  · intro g hg; rw [List.mem_singleton.1 hg]; exact hf
  · intro g hg b hb; rw [List.mem_singleton.1 hg] at hb; exact .inl ⟨_, List.mem_cons_self .., hfp b hb⟩
  · intro g hg b hb; rw [List.mem_singleton.1 hg] at hb; exact .inl ⟨_, List.mem_cons_self .., .inr (hro b hb)⟩
  · intro g hg; rw [List.mem_singleton.1 hg]; exact hs
theorem Mem.cutOwn {es m l : Nat} {cs : List Value} (hM : Mem w0 M w (own v es m cs :: H)) (hl : l ≤ m) : Mem w0 M w (ownW (cutV v l) es l (cs.take (l * es)) :: H) :=
  hM.entTo (own_cutW (hM.holds _ (List.mem_cons_self ..)) hl) (fun b hb => by simpa [ownW, own] using hb) (fun b hb => by cases hb) (fun b hb => by cases hb)
theorem own_ownW {es m : Nat} {cs : List Value} (h : (own v es m cs).holds w) : (ownW v es m cs).holds w := by
  obtain ⟨h0, ⟨rfl, rfl⟩ | ⟨b, cap, cur, T, fr, rfl, h1, h2, h3, h4, h5, h6⟩⟩ := h
  · exact ⟨h0, .inl ⟨rfl, rfl⟩⟩
  · have hcap : m * es ≤ cap * es := Nat.mul_le_mul_right _ h1
    exact ⟨h0, .inr ⟨b, cap, cur, T, fr, rfl, h1, h3, by omega, h5, h6⟩⟩
theorem Mem.toW {es m : Nat} {cs : List Value} (hM : Mem w0 M w (own v es m cs :: H)) : Mem w0 M w (ownW v es m cs :: H) :=
  hM.entTo (own_ownW (hM.holds _ (List.mem_cons_self ..))) (fun b hb => hb) (fun b hb => by cases hb) (fun b hb => by cases hb)
theorem ownW_rd {es m : Nat} {cs : List Value} (h : (ownW v es m cs).holds w) : ∃ c, (rd v es m c cs).holds w := by
  obtain ⟨hl, h | ⟨b, c, cur, T, fr, rfl, h1, h3, h4, h5, h6⟩⟩ := h
  · exact ⟨0, hl, .inl ⟨none, h.1, h.2, rfl⟩⟩
  · refine ⟨c, hl, .inr ⟨b, 0, rfl, h1, (Array.getElem?_eq_some_iff.1 h3).1, fun i x hx => ?_⟩⟩
    rw [Nat.zero_add, cell_of_row w b i cur T _ h3]
    rw [← h5, List.getElem?_take] at hx
    split at hx
    · simpa using hx
    · cases hx
theorem ownW_slice {es m : Nat} {cs : List Value} (h : (ownW v es m cs).holds w) : ∃ p c, v = .slice p m c := by
  obtain ⟨c, h⟩ := ownW_rd h; exact rd_slice h
theorem ownW_one {es m : Nat} {cs : List Value} (h : (ownW v es m cs).holds w) : v.cells = #[v] ∧ v.oneCell' = true := by obtain ⟨p, c, h⟩ := ownW_slice h; exact sl_one h
theorem ownW_cellsAt {es m j : Nat} {cs : List Value} (h : (ownW v es m cs).holds w) (hj : j < m) : (cellsAt (elemP v (j * es)) ((cs.drop (j * es)).take es)).holds w := by
  obtain ⟨h0, ⟨rfl, rfl⟩ | ⟨b, cap, cur, T, fr, rfl, h1, h3, h4, h5, h6⟩⟩ := h
  · omega
  · refine ⟨b, 0 + j * es, by simp [elemP, Addr.add_mid], (Array.getElem?_eq_some_iff.1 h3).1, fun i x hx => ?_⟩
    rw [List.getElem?_take] at hx
    split at hx
    · rw [List.getElem?_drop, ← h5, List.getElem?_take] at hx
      split at hx
      · rw [cell_of_row w b _ cur T _ h3, Nat.zero_add]
        simpa using hx
      · cases hx
    · cases hx
theorem s_indexW {t es j m : Nat} {i : Int} {k' : IntKind} {cs : List Value} (hE : Env a n L) (hx : ev L x = some v) (hr : (ownW v es m cs).holds w) (hy : ev L y = some (.int k' i)) (ht : slT P t = some es)
    (hi : i = (j : Int)) (hj : j < m) (hn : Nat.blt d n = true)
    (k : ∀ a', Env a' n ((d, elemP v (j * es)) :: L) → (cellsAt (elemP v (j * es)) ((cs.drop (j * es)).take es)).holds w → wpL P ops D Q rest a' w) : wpL P ops D Q ((true, ⟨some d, .indexAddr t x y, ty, pos, aft, none⟩) :: rest) a w := by
  obtain ⟨e, hu, hs⟩ := slT_spec ht
  subst hi
  have hc := ownW_cellsAt hr hj
  obtain ⟨h0, ⟨rfl, rfl⟩ | ⟨b, cap, cur, T, fr, rfl, h1, h3⟩⟩ := hr
  · omega
  · refine s_val hE hn (v := elemP (.slice (some ⟨b, 0, none⟩) m cap) (j * es)) (Flo.of_all (fun w => ?_) w) (fun a' hE' => k a' hE' hc)
    have h1 : (0 : Int) ≤ j ∧ (j : Int) < m := ⟨by omega, by omega⟩
    simp [execOp, hE.eval hx, hE.eval hy, Instr.indexAt, asIntOf, run_underlying hu, h1, run_sizeOf hs, Addr.add_mid, elemP]
    intro h; omega
theorem s_storeW {t es m o s : Nat} {cs vs : List Value} (hE : Env a n L) (hx : ev L x = some (elemP v o)) (hy : ev L y = some u) (hM : Mem w0 M w (ownW v es m cs :: H))
    (hv : u.cells = vs.toArray) (ht : (P.info? t).map (·.size) = some s) (hl : vs.length = s) (h1 : One vs) (hj : o + vs.length ≤ m * es) (hs0 : 0 < m)
    (hX : ∀ X, D = some X → ∀ b, b ∈ valBlocks v → X b) (kk : ∀ w', Mem w0 M w' (ownW v es m (wr o vs cs) :: H) → wpL P ops D Q rest a w') : wpL P ops D Q ((false, ⟨none, .store t x y, ty, pos, aft, none⟩) :: rest) a w := by
  obtain ⟨h0, ⟨rfl, rfl⟩ | ⟨b, cap, cur, T, fr, rfl, g1, g3, g4, g5, g6⟩⟩ := hM.holds _ (List.mem_cons_self ..)
  · omega
  · have hb := (Array.getElem?_eq_some_iff.1 g3).1
    have hst := run_storeVar_blk (P := P) (o := o) ht hv hl h1 g3 g6 (by omega)
    have hwl : (wr o vs cur.toList).length = cur.size := by rw [wr_length (by simp; omega)]; simp
    refine b_val0 (w' := setBlk w b (.cells (wr o vs cur.toList).toArray T fr)) ?_ (sta_of_setBlk (fun X hD => hX X hD b (by simp [valBlocks]))) (kk _ ?_)
    · simp only [elemP, Addr.add_mid, Nat.zero_add] at hx
      simp only [execOp, hE.eval hx, hE.eval hy, Instr.storeAt, Instr.sureAddr, Sem.run_bind, Sem.run_pure, Result.andThen_ok, hst, wr, hl]
    · refine Mem.act (es := [ownW (.slice (some ⟨b, 0, none⟩) m cap) es m cs]) (es' := [ownW (.slice (some ⟨b, 0, none⟩) m cap) es m (wr o vs cs)]) hM rfl rfl rfl (by simp) (fun b' hb' hne => setBlk_other fun e => hne _ (List.mem_cons_self ..) (by simp [ownW, valBlocks, e])) ?_ ?_ ?_ ?_ (List.pairwise_singleton ..)
      · intro e he; rw [List.mem_singleton.1 he]
        refine ⟨by rw [wr_length (by omega)]; exact h0, .inr ⟨b, cap, (wr o vs cur.toList).toArray, T, fr, rfl, g1, setBlk_same hb, ?_, ?_, ?_⟩⟩
        · simpa [hwl] using g4
        · rw [← g5]
          have e1 : cur.toList = cur.toList.take (m * es) ++ cur.toList.drop (m * es) := (List.take_append_drop _ _).symm
          have hlt : (cur.toList.take (m * es)).length = m * es := by simp; omega
          show List.take (m * es) (wr o vs cur.toList) = _
          conv => lhs; rw [e1]
          rw [wr_append_left (by omega)]
          rw [List.take_left' (by rw [wr_length (by omega)]; exact hlt)]
        · simpa [hwl] using g6
      · intro e he b' hb'; rw [List.mem_singleton.1 he] at hb'; exact .inl ⟨_, List.mem_cons_self .., hb'⟩
      · intro e he b' hb'; rw [List.mem_singleton.1 he] at hb'; cases hb'
      · intro e he b' hb'; rw [List.mem_singleton.1 he] at hb'; cases hb'
/-- v[:l:l] -/
theorem s_slice3 {t es m l : Nat} {hi mx : Operand} {k1 k2 : IntKind} {cs : List Value} (hE : Env a n L) (hx : ev L x = some v) (hr : (own v es m cs).holds w) (ht : slT P t = some es)
    (hh : ev L hi = some (.int k1 (l : Int))) (hm : ev L mx = some (.int k2 (l : Int))) (h2 : l ≤ m) (hn : Nat.blt d n = true) (k : ∀ a', Env a' n ((d, cutV v l) :: L) → wpL P ops D Q rest a' w) :
    wpL P ops D Q ((true, ⟨some d, .slice t x none (some hi) (some mx), ty, pos, aft, none⟩) :: rest) a w := by
  obtain ⟨e, hu, hs⟩ := slT_spec ht
  have hrun : ∀ (p : Option Addr) (c : Nat) (w : World), (p.map (·.add (0 * es))) = p → m ≤ c → v = .slice p m c → (execOp a.eval ⟨some d, .slice t x none (some hi) (some mx), ty, pos, aft, none⟩).run P w = .ok (.value (cutV v l)) w := by
    intro p c w hp hc hv
    subst hv
    have hb := sliceBounds_ok (P := P) (lo := none) (hi := some hi) (mx := some mx) (l := 0) (h := l) (m := l) (len := m) (cap := c) (b := true) hE rfl ⟨_, hh⟩ ⟨_, hm⟩ (by simp) (by omega) (by omega) (by omega)
    simp only [Option.map_none, Option.map_some] at hb
    simp only [execOp, Instr.sliceAt, Instr.slice, hE.eval hx, Sem.run_bind, run_underlying hu, Result.andThen_ok, Option.map_none, Option.map_some, hb, run_sizeOf hs, Sem.run_pure, hp, ite_self, Nat.sub_zero, cutV]
  obtain ⟨h0, ⟨rfl, rfl⟩ | ⟨b, cap, cur, T, fr, rfl, h1, h3⟩⟩ := hr
  · exact s_val hE hn (Flo.of_all (fun w => hrun none 0 w rfl (Nat.le_refl _) rfl) w) k
  · exact s_val hE hn (Flo.of_all (fun w => hrun _ cap w (by simp [Addr.add_mid]) h1 rfl) w) k
theorem Mem.ownWB {p q : List UInt8} (hM : Mem w0 M w (ownW v 1 p.length (bv p) :: H)) (h : p = q) : Mem w0 M w (ownW v 1 q.length (bv q) :: H) := h ▸ hM
theorem Mem.ownWEq {es m m' : Nat} {cs cs' : List Value} (hM : Mem w0 M w (ownW v es m cs :: H)) (h1 : m = m') (h2 : cs = cs') : Mem w0 M w (ownW v es m' cs' :: H) := by subst h1 h2; exact hM
theorem Mem.ownWSet {p : List UInt8} {j : Nat} {b : UInt8} (hM : Mem w0 M w (ownW v 1 p.length (wr (j * 1) [bV b] (bv p)) :: H)) (hj : j < p.length) : Mem w0 M w (ownW v 1 (p.set j b).length (bv (p.set j b)) :: H) :=
  hM.ownWEq (by simp) (bv_set hj)
end Go.Kx
