/- Own library, part Q: slices that are written to: parts of an owned slice, stores to its elements, append to a full one, make. -/
import Derived.Test.YtamjaacddbecaaaKxP
set_option linter.unusedSimpArgs false
set_option linter.unusedVariables false
namespace Go.Kx
open Go
variable {P : Program} {Q : Exit → Act → World → Prop} {D : Option (Nat → Prop)} {ops : Array Oper} {rest : List (Bool × Oper)} {a : Act} {w w0 w' : World} {n d : Nat} {L : List (Nat × Value)} {x y : Operand} {v u : Value} {M : List Nat} {H : List Ent} {ty : TypeId} {pos : String} {aft : Array Edge}

/-- The first elements of a slice. -/
def subV : Value → Nat → Value
  | .slice p _ c, l => .slice p l c
  | v, _ => v

@[simp] theorem subV_blocks (v : Value) (l : Nat) : valBlocks (subV v l) = valBlocks v := by cases v with
  | slice p m c => cases p <;> rfl
  | _ => rfl

theorem own_sub {es m l : Nat} {cs : List Value} (h : (own v es m cs).holds w) (hl : l ≤ m) : (own (subV v l) es l (cs.take (l * es))).holds w := by
  have hle : l * es ≤ m * es := Nat.mul_le_mul_right _ hl
  obtain ⟨h0, ⟨rfl, rfl⟩ | ⟨b, cap, cur, T, fr, rfl, h1, h2, h3, h4, h5, h6⟩⟩ := h
  · obtain rfl : l = 0 := by omega
    exact ⟨by simp, .inl ⟨rfl, rfl⟩⟩
  · refine ⟨by rw [List.length_take]; omega, .inr ⟨b, cap, cur, T, fr, rfl, by omega, h2, h3, h4, ?_, h6⟩⟩
    rw [← h5, List.take_take, Nat.min_eq_left hle]

theorem own_subB {bs : List UInt8} {m l : Nat} (h : (own v 1 m (bv bs)).holds w) (hl : l ≤ m) : (own (subV v l) 1 l (bv (bs.take l))).holds w := by
  have := own_sub h hl
  rwa [Nat.mul_one, bv_take] at this

theorem s_sliceTo {t es m l : Nat} {hi : Option Operand} {cs : List Value} (hE : Env a n L) (hx : ev L x = some v) (hr : (own v es m cs).holds w) (ht : slT P t = some es)
    (hh : SArg L hi m l) (h2 : l ≤ m) (hn : Nat.blt d n = true) (k : ∀ a', Env a' n ((d, subV v l) :: L) → wpL P ops D Q rest a' w) :
    wpL P ops D Q ((true, ⟨some d, .slice t x none hi none, ty, pos, aft, none⟩) :: rest) a w := by
  obtain ⟨e, hu, hs⟩ := slT_spec ht
  have hrun : ∀ (p : Option Addr) (c : Nat) (w : World), (p.map (·.add (0 * es))) = p → m ≤ c → v = .slice p m c → (execOp a.eval ⟨some d, .slice t x none hi none, ty, pos, aft, none⟩).run P w = .ok (.value (subV v l)) w := by
    intro p c w hp hc hv
    subst hv
    have hb := sliceBounds_ok (P := P) (lo := none) (hi := hi) (mx := none) (l := 0) (h := l) (m := c) (len := m) (cap := c) (b := true) hE rfl hh rfl (by simp) (by omega) (by omega) (by omega)
    simp only [Option.map_none] at hb
    simp only [execOp, Instr.sliceAt, Instr.slice, hE.eval hx, Sem.run_bind, run_underlying hu, Result.andThen_ok, Option.map_none, hb, run_sizeOf hs, Sem.run_pure, hp, ite_self, Nat.sub_zero, subV]
  obtain ⟨h0, ⟨rfl, rfl⟩ | ⟨b, cap, cur, T, fr, rfl, h1, h3⟩⟩ := hr
  · exact s_val hE hn (Flo.of_all (fun w => hrun none 0 w rfl (Nat.le_refl _) rfl) w) k
  · exact s_val hE hn (Flo.of_all (fun w => hrun _ cap w (by simp [Addr.add_mid]) h1 rfl) w) k

/-- Where the k-th cell behind a slice's first one lies. -/
def elemP : Value → Nat → Value
  | .slice (some a) _ _, k => .pointer (some (a.add k))
  | _, _ => .pointer none

theorem own_cellsAt {es m j : Nat} {cs : List Value} (h : (own v es m cs).holds w) (hj : j < m) : (cellsAt (elemP v (j * es)) ((cs.drop (j * es)).take es)).holds w := by
  obtain ⟨h0, ⟨rfl, rfl⟩ | ⟨b, cap, cur, T, fr, rfl, h1, h2, h3, h4, h5, h6⟩⟩ := h
  · omega
  · refine ⟨b, 0 + j * es, by simp [elemP, Addr.add_mid], (Array.getElem?_eq_some_iff.1 h3).1, fun i x hx => ?_⟩
    rw [List.getElem?_take] at hx
    split at hx
    · rw [List.getElem?_drop, ← h5, List.getElem?_take] at hx
      split at hx
      · rw [cell_of_row w b _ cur T _ h3, Nat.zero_add]
        simpa using hx
      · cases hx
    · cases hx

theorem s_indexOwn {t es j m : Nat} {i : Int} {k' : IntKind} {cs : List Value} (hE : Env a n L) (hx : ev L x = some v) (hr : (own v es m cs).holds w) (hy : ev L y = some (.int k' i)) (ht : slT P t = some es)
    (hi : i = (j : Int)) (hj : j < m) (hn : Nat.blt d n = true)
    (k : ∀ a', Env a' n ((d, elemP v (j * es)) :: L) → (cellsAt (elemP v (j * es)) ((cs.drop (j * es)).take es)).holds w → wpL P ops D Q rest a' w) : wpL P ops D Q ((true, ⟨some d, .indexAddr t x y, ty, pos, aft, none⟩) :: rest) a w := by
  obtain ⟨e, hu, hs⟩ := slT_spec ht
  subst hi
  have hc := own_cellsAt hr hj
  obtain ⟨h0, ⟨rfl, rfl⟩ | ⟨b, cap, cur, T, fr, rfl, h1, h2, h3⟩⟩ := hr
  · omega
  · refine s_val hE hn (v := elemP (.slice (some ⟨b, 0, none⟩) m cap) (j * es)) (Flo.of_all (fun w => ?_) w) (fun a' hE' => k a' hE' hc)
    have h1 : (0 : Int) ≤ j ∧ (j : Int) < m := ⟨by omega, by omega⟩
    simp [execOp, hE.eval hx, hE.eval hy, Instr.indexAt, asIntOf, run_underlying hu, h1, run_sizeOf hs, Addr.add_mid, elemP]
    intro h; omega

/-- A store into an owned slice. -/
theorem s_storeOwn {t es m o s : Nat} {cs vs : List Value} (hE : Env a n L) (hx : ev L x = some (elemP v o)) (hy : ev L y = some u) (hM : Mem w0 M w (own v es m cs :: H))
    (hv : u.cells = vs.toArray) (ht : (P.info? t).map (·.size) = some s) (hl : vs.length = s) (h1 : One vs) (hj : o + vs.length ≤ m * es) (hs0 : 0 < m)
    (hX : ∀ X, D = some X → ∀ b, b ∈ valBlocks v → X b) (kk : ∀ w', Mem w0 M w' (own v es m (wr o vs cs) :: H) → wpL P ops D Q rest a w') : wpL P ops D Q ((false, ⟨none, .store t x y, ty, pos, aft, none⟩) :: rest) a w := by
  obtain ⟨h0, ⟨rfl, rfl⟩ | ⟨b, cap, cur, T, fr, rfl, g1, g2, g3, g4, g5, g6⟩⟩ := hM.holds _ (List.mem_cons_self ..)
  · omega
  · have hb := (Array.getElem?_eq_some_iff.1 g3).1
    have hcap : m * es ≤ cap * es := Nat.mul_le_mul_right _ g1
    have hst := run_storeVar_blk (P := P) (o := o) ht hv hl h1 g3 g6 (by omega)
    have hwl : (wr o vs cur.toList).length = cur.size := by rw [wr_length (by simp; omega)]; simp
    refine b_val0 (w' := setBlk w b (.cells (wr o vs cur.toList).toArray T fr)) ?_ (sta_of_setBlk (fun X hD => hX X hD b (by simp [valBlocks]))) (kk _ ?_)
    · simp only [elemP, Addr.add_mid, Nat.zero_add] at hx
      simp only [execOp, hE.eval hx, hE.eval hy, Instr.storeAt, Instr.sureAddr, Sem.run_bind, Sem.run_pure, Result.andThen_ok, hst, wr, hl]
    · refine Mem.act (es := [own (.slice (some ⟨b, 0, none⟩) m cap) es m cs]) (es' := [own (.slice (some ⟨b, 0, none⟩) m cap) es m (wr o vs cs)]) hM rfl rfl rfl (by simp) (fun b' hb' hne => setBlk_other fun e => hne _ (List.mem_cons_self ..) (by simp [own, valBlocks, e])) ?_ ?_ ?_ ?_ (List.pairwise_singleton ..)
      · intro e he; rw [List.mem_singleton.1 he]
        refine ⟨by rw [wr_length (by omega)]; exact h0, .inr ⟨b, cap, (wr o vs cur.toList).toArray, T, fr, rfl, g1, g2, setBlk_same hb, ?_, ?_, ?_⟩⟩
        · simpa [hwl] using g4
        · rw [← g5]
          have e1 : cur.toList = cur.toList.take (m * es) ++ cur.toList.drop (m * es) := (List.take_append_drop _ _).symm
          have hlt : (cur.toList.take (m * es)).length = m * es := by simp; omega
          show List.take (m * es) (wr o vs cur.toList) = _
          conv => lhs; rw [e1]
          rw [wr_append_left (by omega)]
          rw [List.take_left' (by rw [wr_length (by omega)]; exact hlt)]
        · simpa [hwl] using g6
      · intro e he b' hb'; rw [List.mem_singleton.1 he] at hb'; exact .inl ⟨_, List.mem_cons_self .., hb'⟩
      · intro e he b' hb'; rw [List.mem_singleton.1 he] at hb'; cases hb'
      · intro e he b' hb'; rw [List.mem_singleton.1 he] at hb'; cases hb'

theorem wr_set {o : Nat} {u : Value} {cs : List Value} (h : o < cs.length) : wr o [u] cs = cs.set o u := by
  unfold wr
  rw [List.set_eq_take_append_cons_drop, if_pos h]
  simp

theorem Mem.ownEq {es m m' : Nat} {cs cs' : List Value} (hM : Mem w0 M w (own v es m cs :: H)) (h1 : m = m') (h2 : cs = cs') : Mem w0 M w (own v es m' cs' :: H) := by subst h1 h2; exact hM

theorem bin_inc_u8 {t : TypeId} {b : UInt8} : Bin P .add t (.int .u8 (b.toNat : Int)) (.int .u8 1) (.int .u8 ((b + 1).toNat : Int)) :=
  bin_add (by
    have h := wrap_u8_ofNat (b.toNat + 1)
    have e : UInt8.ofNat (b.toNat + 1) = b + 1 := by
      apply UInt8.toNat_inj.1
      rw [UInt8.toNat_add]
      simp
    rw [e] at h
    exact_mod_cast h)

theorem rep_flatten_get {zc : List Value} {es : Nat} (hzl : zc.length = es) (hes : 0 < es) : ∀ (m q : Nat), q < m * es → (List.replicate m zc).flatten[q]? = zc[q % es]?
  | 0, q, hq => by omega
  | m + 1, q, hq => by
    rw [List.replicate_succ, List.flatten_cons]
    by_cases h : q < es
    · rw [List.getElem?_append_left (by omega), Nat.mod_eq_of_lt h]
    · rw [List.getElem?_append_right (by omega), hzl, rep_flatten_get hzl hes m (q - es) (by rw [Nat.add_mul] at hq; omega), ← Nat.mod_eq_sub_mod (by omega)]

/-- make: a slice of zeroes of one cell each (m elements of es cells; the zero is z). -/
theorem s_makeSlice {t e es bytes m : Nat} {i j : Int} {k1 k2 : IntKind} {zc : List Value} (hE : Env a n L) (hx : ev L x = some (.int k1 i)) (hy : ev L y = some (.int k2 j)) (hM : Mem w0 M w H) (ht : SlT P t e es bytes)
    (hz : ∃ z, (P.info? e).bind (·.zero) = some z ∧ z.cells = zc.toArray) (hi : i = (m : Int)) (hj : j = (m : Int)) (hb : m * bytes ≤ 16777216) (hm : m ≤ 16777216) (hes : 0 < es) (hn : Nat.blt d n = true)
    (k : ∀ a' v' w', Env a' n ((d, v') :: L) → Mem w0 M w' (own v' es m (List.replicate m zc).flatten :: H) → wpL P ops D Q rest a' w') :
    wpL P ops D Q ((false, ⟨some d, .makeSlice t x y, ty, pos, aft, none⟩) :: rest) a w := by
  subst hi hj
  obtain ⟨hu, hs, hb', z', hz', hzs⟩ := ht
  obtain ⟨z, hz1, hz2⟩ := hz
  obtain rfl : z' = z := by rw [hz'] at hz1; exact Option.some.inj hz1
  obtain ⟨ie, hie⟩ : ∃ ie, P.info? e = some ie := by cases h : P.info? e with | none => simp [h] at hs | some i => exact ⟨i, rfl⟩
  have hz0 : ∀ w, (zeroValue e).run P w = .ok z' w := fun w => by
    simp [hie] at hz1; simp [zeroValue, typeInfo, hie, hz1]
  have hzl : zc.length = es := by rw [hz2] at hzs; simpa using hzs
  have hib : ie.bytes = bytes := by simpa [hie] using hb'
  have wl : IntKind.i64.wrap (m : Int) = m := wrap_i64 (by omega) (by omega)
  have hcells : ((Array.range (m * es)).map (z'.cells[· % z'.cells.size]!)) = (List.replicate m zc).flatten.toArray := by
    apply Array.ext_getElem?
    intro q
    rw [hz2]
    by_cases hq : q < m * es
    · have hr : q % es < zc.length := by rw [hzl]; exact Nat.mod_lt _ hes
      have hfl := rep_flatten_get hzl hes m q hq
      rw [List.getElem?_toArray (xs := (List.replicate m zc).flatten), hfl, List.getElem?_eq_getElem hr, Array.getElem?_map, Array.getElem?_range, if_pos hq]
      simp [hzl, List.getElem?_eq_getElem hr]
    · have : (List.replicate m zc).flatten.length = m * es := by simp [hzl]
      rw [Array.getElem?_eq_none (by simp; omega), Array.getElem?_eq_none (by simp [hzl]; omega)]
  have hcl : (List.replicate m zc).flatten.length = m * es := by simp [hzl]
  refine b_val hE hn (v := .slice (some ⟨w.heap.size, 0, none⟩) m m) (w' := w.alloc (.cells (List.replicate m zc).flatten.toArray e)) ?_ (Sta.alloc D w _) (fun a' hE' => k a' _ _ hE' (hM.newSlice hcl (by rw [maxLen_eq]; omega)))
  have hti : ∀ w, (typeInfo e).run P w = .ok ie w := fun w => by simp [typeInfo, hie]
  have h1 : ¬ ((m : Int) < 0) := by omega
  have h2 : ¬ ((bytes : Int) * (m : Int) > 2 ^ 48) := by
    have : ((m * bytes : Nat) : Int) ≤ 16777216 := Int.ofNat_le.2 hb
    rw [Int.natCast_mul, Int.mul_comm] at this
    have h3 : (2 : Int) ^ 48 = 281474976710656 := rfl
    omega
  have h4 : ¬ (m * bytes > roomBytes) := by show ¬ (m * bytes > 140737488355328); omega
  have hask : ∀ w, (askRoom (m * bytes)).run P w = .ok () w := fun w => by rw [askRoom, if_neg h4]; rfl
  have hrun : ∀ w, (Instr.makeSlice t (.int k1 m) (.int k2 m)).run P w = .ok (.slice (some ⟨w.heap.size, 0, none⟩) m m) (w.alloc (.cells (List.replicate m zc).flatten.toArray e)) := by
    intro w
    simp only [Instr.makeSlice, asInt, asIntOf, Sem.run_bind, run_underlying hu, Sem.run_pure, Result.andThen_ok, hti, hib, wl, h1, h2, decide_false, Bool.or_self, Bool.false_or, Bool.or_false, gt_iff_lt, Int.lt_irrefl, Int.toNat_natCast, hask, run_sizeOf hs, Bool.false_eq_true, if_false]
    by_cases h0 : m * es = 0
    · have hnil : (List.replicate m zc).flatten.toArray = #[] := by
        have : (List.replicate m zc).flatten = [] := List.eq_nil_of_length_eq_zero (by omega)
        rw [this]
      have h5 : Array.range 0 = #[] := rfl
      simp [h0, hnil, newRow, h5]
    · simp only [h0, if_false, Sem.run_bind, hz0, Result.andThen_ok, Sem.run_pure, hcells, newRow]
      rfl
  simp only [execOp, hE.eval hx, hE.eval hy, Sem.run_bind, hrun, Result.andThen_ok]
  rfl

end Go.Kx
