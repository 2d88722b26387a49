/- Own library: parts KxL, KxQ, KxS, KxR, KxT, KxU, KxV, KxW, KxX, KxH, KxI, KxJ, KxJ2. -/
import Derived.Test.YtacebdngbalkmaaDoorKc2
import Derived.ProofKit
import Derived.OpenShut
import Derived.ShutString
import Derived.ChangeOld
import Derived.SizedLaws
import Derived.DeepKeys
set_option linter.unusedSimpArgs false
set_option linter.unusedVariables false
/- Own library, part L: what a law's arguments read as; from the walk of a law to its row. -/
namespace Go.Kx
open Go
open Go.ChangeShapes Go.WideShapes Go.ChangeAt Go.RowKit
variable {P : Program} {W : World}

/-- What cells of type t that read as data are. -/
def Dec (P : Program) (W : World) (t : TypeId) (R : List Value → Prop) : Prop :=
  ∀ (H : Type) (enc : TypeId × Value → H) (fuel : Nat) (cs : List Value) (x : DataW H × List MemPlace),
    DataW.trod enc P W 0 (fun _ => true) true fuel t cs = some x → (∀ m, m ∈ x.1.weights P t → m ≤ reachBytes) → R cs

theorem Dec.mono {t : TypeId} {R R' : List Value → Prop} (h : Dec P W t R) (hr : ∀ cs, R cs → R' cs) : Dec P W t R' := fun H enc fuel cs x hx hw => hr _ (h H enc fuel cs x hx hw)

theorem dec_int {t : TypeId} {k : IntKind} (hu : P.underlying t = some (.int k)) : Dec P W t (fun cs => ∃ i, cs = [.int k i] ∧ k.min ≤ i ∧ i ≤ k.max) := fun H enc fuel cs x hx _ => by
  obtain ⟨i, rfl, _, hw⟩ := DataW.trod_int hu hx
  simp [Lit.wf] at hw
  exact ⟨i, rfl, hw⟩

theorem weightsAll_mem {H : Type} {e : TypeId} : ∀ {ds : List (DataW H)} {d : DataW H} {m : Nat}, d ∈ ds → m ∈ d.weights P e → m ∈ DataW.weightsAll P e ds
  | d' :: ds, d, m, hd, hm => by
    simp only [DataW.weightsAll, List.mem_append]
    rcases List.mem_cons.1 hd with rfl | hd
    · exact .inl hm
    · exact .inr (weightsAll_mem hd hm)

theorem dec_array {t e n es : Nat} {R : List Value → Prop} (hu : P.underlying t = some (.array n e)) (hes : P.cellsOf e = es) (hts : P.cellsOf t = n * es) (he : Dec P W e R) :
    Dec P W t (fun cs => cs.length = n * es ∧ ∀ i, i < n → R ((cs.drop (i * es)).take es)) := fun H enc fuel cs x hx hw => by
  obtain ⟨xs, m, rfl, rfl, hl, hxl, hel⟩ := DataW.trod_array hu hx
  refine ⟨hl.trans hts, fun i hi => ?_⟩
  have h := hel i hi
  rw [hes] at h
  have hlt : i < xs.length := by omega
  rw [List.getElem?_eq_getElem hlt] at h
  refine he H enc m _ _ h fun y hy => hw y ?_
  simp only [DataW.weights, hu]
  exact weightsAll_mem (List.mem_map_of_mem (f := (·.1)) (List.getElem_mem hlt)) hy

theorem dec_struct {t s : Nat} {fs : Array Field} {R : Nat → List Value → Prop} (hu : P.underlying t = some (.struct fs)) (hs : P.cellsOf t = s) (he : ∀ i f, fs[i]? = some f → Dec P W f.type (R i)) :
    Dec P W t (fun cs => cs.length = s ∧ ∀ i f, fs[i]? = some f → R i ((cs.drop f.offset).take (P.cellsOf f.type))) := fun H enc fuel cs x hx hw => by
  obtain ⟨xs, m, rfl, rfl, hl, hxl, hel⟩ := DataW.trod_struct hu hx
  refine ⟨hl.trans hs, fun i f hf => ?_⟩
  have h := hel i f hf
  have hlt : i < xs.length := by rw [hxl]; exact (Array.getElem?_eq_some_iff.1 hf).1
  rw [List.getElem?_eq_getElem hlt] at h
  refine he i f hf H enc m _ _ h fun y hy => hw y ?_
  simp only [DataW.weights, hu]
  refine DataW.weights_mem_each (j := i) (t := f.type) (d := (xs[i]).1) ?_ ?_ y hy
  · rw [List.getElem?_map, Array.getElem?_toList, hf]; rfl
  · rw [List.getElem?_map, List.getElem?_eq_getElem hlt]; rfl

theorem cells?_spec {base : Nat} {a : Addr} {n : Nat} {l : List Value} (h : W.cells? base a n = some l) : l.length = n ∧ ∀ i, i < n → W.cell? (a.add i) = l[i]? := by
  unfold World.cells? at h
  split at h
  · have key : ∀ (l : List Nat) (r : List Value), l.mapM (fun i => W.cell? (a.add i)) = some r → r.length = l.length ∧ ∀ (j k : Nat), l[j]? = some k → W.cell? (a.add k) = r[j]? := by
      intro l
      induction l with
      | nil => intro r hr; simp at hr; subst hr; simp
      | cons k l ih =>
        intro r hr
        rw [List.mapM_cons] at hr
        cases hk : W.cell? (a.add k) with
        | none => rw [hk] at hr; cases hr
        | some v =>
          rw [hk] at hr
          cases hm : l.mapM (fun i => W.cell? (a.add i)) with
          | none => rw [hm] at hr; cases hr
          | some r' =>
            rw [hm] at hr
            simp at hr
            subst hr
            obtain ⟨h1, h2⟩ := ih r' hm
            refine ⟨by simp [h1], fun j k' hj => ?_⟩
            cases j with
            | zero => simp at hj; subst hj; simpa using hk
            | succ j => simp at hj; simpa using h2 j k' hj
    obtain ⟨h1, h2⟩ := key _ _ h
    refine ⟨by simpa using h1, fun i hi => h2 i i (by simp [hi])⟩
  · cases h

/-- Cells that read as a slice. -/
theorem dec_slice {t e es by_ : Nat} {R : List Value → Prop} (hu : P.underlying t = some (.slice e)) (hes : P.cellsOf e = es) (hby : P.bytesOf e = by_) (h0 : 0 < es) (he : Dec P W e R) :
    Dec P W t (fun cs => ∃ v n c l, cs = [v] ∧ (rd v es n c l).holds W ∧ (∀ i, i < n → R ((l.drop (i * es)).take es)) ∧ n * by_ ≤ reachBytes) := fun H enc fuel cs x hx hw => by
  rcases DataW.trod_slice hu hx with ⟨rfl, _⟩ | ⟨a, len, cap, elems, rst, m, rfl, rfl, rfl, hb, hlc, hcm, rfl, hel, hrest, _⟩
  · exact ⟨_, 0, 0, [], rfl, ⟨by simp, .inl ⟨_, rfl, rfl, rfl⟩⟩, fun i hi => by omega, by simp⟩
  · have hcell : ∀ i, i < elems.length → ∃ ci, W.cells? 0 (a.add (i * es)) es = some ci ∧ R ci := by
      intro i hi
      have h := hel i hi
      rw [hes] at h
      rw [List.getElem?_eq_getElem hi] at h
      cases hc : W.cells? 0 (a.add (i * es)) es with
      | none => rw [hc] at h; cases h
      | some ci =>
        rw [hc] at h
        refine ⟨ci, rfl, he H enc m _ _ h fun y hy => hw y ?_⟩
        simp only [DataW.weights, hu, List.mem_cons, List.mem_append]
        exact .inr (.inl (weightsAll_mem (List.mem_map_of_mem (f := (·.1)) (List.getElem_mem hi)) hy))
    have hsize : elems.length * by_ ≤ reachBytes := by
      have := hw ((elems.length + rst.length) * by_) (by simp [DataW.weights, hu, hby])
      exact Nat.le_trans (Nat.mul_le_mul_right _ (by omega)) this
    by_cases hcap : cap = 0
    · subst hcap
      have hl0 : elems.length = 0 := by omega
      refine ⟨_, 0, 0, [], by rw [hl0], ⟨by simp, .inl ⟨_, rfl, rfl, rfl⟩⟩, fun i hi => by omega, by simp⟩
    · -- the first cell is there
      have hfirst : ∃ u, W.cell? a = some u := by
        by_cases hl0 : elems.length = 0
        · obtain ⟨hr1, hr2⟩ := hrest rfl
          have h := hr2 0 (by omega)
          rw [hes] at h
          rw [List.getElem?_eq_getElem (by omega)] at h
          cases hc : W.cells? 0 (a.add ((elems.length + 0) * es)) es with
          | none => rw [hc] at h; cases h
          | some ci =>
            obtain ⟨c1, c2⟩ := cells?_spec hc
            have := c2 0 h0
            rw [hl0] at this
            simp [Addr.add] at this
            rw [List.getElem?_eq_getElem (by omega)] at this
            exact ⟨_, this⟩
        · obtain ⟨ci, hc, _⟩ := hcell 0 (by omega)
          obtain ⟨c1, c2⟩ := cells?_spec hc
          have := c2 0 h0
          simp [Addr.add] at this
          rw [List.getElem?_eq_getElem (by omega)] at this
          exact ⟨_, this⟩
      obtain ⟨u, hu0⟩ := hfirst
      obtain ⟨b, o, sp⟩ := a
      obtain rfl : sp = none := by simpa using World.cell?_spot hu0
      have hlt := World.block_lt_of_cell? W _ hu0
      have hat : ∀ i r, i < elems.length → r < es → ∀ ci, W.cells? 0 ((⟨b, o, none⟩ : Addr).add (i * es)) es = some ci → W.cell? ⟨b, o + (i * es + r), none⟩ = ci[r]? := by
        intro i r hi hr ci hc
        have := (cells?_spec hc).2 r hr
        rw [Addr.add_mid, Addr.add_mid] at this
        rwa [Nat.add_assoc] at this
      have hall : ∀ j, j < elems.length * es → ∃ v, W.cell? ⟨b, o + j, none⟩ = some v := by
        intro j hj
        have hi : j / es < elems.length := Nat.div_lt_of_lt_mul (by rwa [Nat.mul_comm])
        have hr : j % es < es := Nat.mod_lt _ h0
        obtain ⟨ci, hc, _⟩ := hcell (j / es) hi
        have := hat (j / es) (j % es) hi hr ci hc
        rw [show j / es * es + j % es = j from by rw [Nat.mul_comm]; exact Nat.div_add_mod j es] at this
        rw [List.getElem?_eq_getElem (by rw [(cells?_spec hc).1]; exact hr)] at this
        exact ⟨_, this⟩
      let l : List Value := (List.range (elems.length * es)).map fun j => (W.cell? ⟨b, o + j, none⟩).getD undef
      have hl : ∀ j, j < elems.length * es → W.cell? ⟨b, o + j, none⟩ = l[j]? := by
        intro j hj
        obtain ⟨v, hv⟩ := hall j hj
        simp [l, hj, hv]
      refine ⟨_, elems.length, cap, l, rfl, ⟨by simp [l], .inr ⟨b, o, rfl, hlc, hlt, fun i x hx => ?_⟩⟩, fun i hi => ?_, hsize⟩
      · have hi : i < elems.length * es := by have := (List.getElem?_eq_some_iff.1 hx).1; simpa [l] using this
        rw [hl i hi]; exact hx
      · obtain ⟨ci, hc, hR⟩ := hcell i hi
        have e : (l.drop (i * es)).take es = ci := by
          apply List.ext_getElem?
          intro r
          by_cases hr : r < es
          · rw [List.getElem?_take, if_pos hr, List.getElem?_drop, ← hat i r hi hr ci hc, hl]
            have : (i + 1) * es ≤ elems.length * es := Nat.mul_le_mul_right _ hi
            rw [Nat.add_mul] at this; omega
          · rw [List.getElem?_eq_none (by simp; omega), List.getElem?_eq_none (by rw [(cells?_spec hc).1]; omega)]
        rw [e]; exact hR

/-! ## From the walk to the row -/

theorem trod_of {H : Type} {enc : TypeId × Value → H} {t : TypeId} {v : Value} {d : DataW H} {ps : List MemPlace} {R : List Value → Prop} (hd : Dec P W t R) (h : DataW.Trod enc P W 0 (fun _ => true) true t v d ps) (hw : ∀ m, m ∈ d.weights P t → m ≤ reachBytes) : R v.cells.toList := by
  obtain ⟨fuel, hf⟩ := h
  exact hd H enc fuel _ _ hf hw

theorem Mem.below {w w' : World} {Hs : List Ent} (h : Mem w [] w' Hs) : Below w.heap.size w w' :=
  ⟨h.os, h.tape, h.output, h.size, fun k hk => h.frame k hk (by simp)⟩

theorem trodAll_below {H : Type} {enc : TypeId × Value → H} (hl : laidOutB P = true) {W W' : World} (hb : Below W.heap.size W W') : ∀ (ts : List TypeId), (∀ t, t ∈ ts → P.readableRec t = true ∧ t < P.types.size) → ∀ (vs : List Value) (ds : List (DataW H)) (ps : List MemPlace),
    DataW.TrodAll enc P W 0 (fun _ => true) true ts vs ds ps → DataW.TrodAll enc P W' 0 (fun b => decide (b < W.heap.size)) true ts vs ds ps
  | [], _, vs, ds, ps, h => by
    obtain ⟨rfl, rfl, rfl⟩ := trodAll_nil h
    exact rfl
  | t :: ts, ht, vs, ds, ps, h => by
    obtain ⟨v, vs', d, ds', p, q, rfl, rfl, rfl, h1, h2⟩ := trodAll_cons h
    have h1' := h1
    obtain ⟨m, hm⟩ := h1'
    exact trodAll_cons_mk (Below.trod hl (ht t (List.mem_cons_self ..)).1 (ht t (List.mem_cons_self ..)).2 h1 hb (fun x hx => DataW.trod_lt m _ _ _ hm x hx))
      (trodAll_below hl hb ts (fun t' ht' => ht t' (List.mem_cons_of_mem _ ht')) vs' ds' q h2)

theorem trodAll_len {H : Type} {enc : TypeId × Value → H} {W : World} : ∀ {ts : List TypeId} {vs : List Value} {ds : List (DataW H)} {ps : List MemPlace}, DataW.TrodAll enc P W 0 (fun _ => true) true ts vs ds ps → ds.length = ts.length
  | [], vs, ds, ps, h => by obtain ⟨rfl, rfl, rfl⟩ := trodAll_nil h; rfl
  | t :: ts, vs, ds, ps, h => by
    obtain ⟨v, vs', d, ds', p, q, rfl, rfl, rfl, h1, h2⟩ := trodAll_cons h
    simp [trodAll_len h2]

end Go.Kx
/- Own library, part Q: slices that are written to: parts of an owned slice, stores to its elements, append to a full one, make. -/
namespace Go.Kx
open Go
variable {P : Program} {Q : Exit → Act → World → Prop} {D : Option (Nat → Prop)} {ops : Array Oper} {rest : List (Bool × Oper)} {a : Act} {w w0 w' : World} {n d : Nat} {L : List (Nat × Value)} {x y : Operand} {v u : Value} {M : List Nat} {H : List Ent} {ty : TypeId} {pos : String} {aft : Array Edge}

/-- The first elements of a slice. -/
def subV : Value → Nat → Value
  | .slice p _ c, l => .slice p l c
  | v, _ => v

@[simp] theorem subV_blocks (v : Value) (l : Nat) : valBlocks (subV v l) = valBlocks v := by cases v with
  | slice p m c => cases p <;> rfl
  | _ => rfl

/-- Where the k-th cell behind a slice's first one lies. -/
def elemP : Value → Nat → Value
  | .slice (some a) _ _, k => .pointer (some (a.add k))
  | _, _ => .pointer none

theorem own_cellsAt {es m j : Nat} {cs : List Value} (h : (own v es m cs).holds w) (hj : j < m) : (cellsAt (elemP v (j * es)) ((cs.drop (j * es)).take es)).holds w := by
  obtain ⟨h0, ⟨rfl, rfl⟩ | ⟨b, cap, cur, T, fr, rfl, h1, h2, h3, h4, h5, h6⟩⟩ := h
  · omega
  · refine ⟨b, 0 + j * es, by simp [elemP, Addr.add_mid], (Array.getElem?_eq_some_iff.1 h3).1, fun i x hx => ?_⟩
    rw [List.getElem?_take] at hx
    split at hx
    · rw [List.getElem?_drop, ← h5, List.getElem?_take] at hx
      split at hx
      · rw [cell_of_row w b _ cur T _ h3, Nat.zero_add]
        simpa using hx
      · cases hx
    · cases hx

theorem s_indexOwn {t es j m : Nat} {i : Int} {k' : IntKind} {cs : List Value} (hE : Env a n L) (hx : ev L x = some v) (hr : (own v es m cs).holds w) (hy : ev L y = some (.int k' i)) (ht : slT P t = some es)
    (hi : i = (j : Int)) (hj : j < m) (hn : Nat.blt d n = true)
    (k : ∀ a', Env a' n ((d, elemP v (j * es)) :: L) → (cellsAt (elemP v (j * es)) ((cs.drop (j * es)).take es)).holds w → wpL P ops D Q rest a' w) : wpL P ops D Q ((true, ⟨some d, .indexAddr t x y, ty, pos, aft, none⟩) :: rest) a w := by
  obtain ⟨e, hu, hs⟩ := slT_spec ht
  subst hi
  have hc := own_cellsAt hr hj
  obtain ⟨h0, ⟨rfl, rfl⟩ | ⟨b, cap, cur, T, fr, rfl, h1, h2, h3⟩⟩ := hr
  · omega
  · refine s_val hE hn (v := elemP (.slice (some ⟨b, 0, none⟩) m cap) (j * es)) (Flo.of_all (fun w => ?_) w) (fun a' hE' => k a' hE' hc)
    have h1 : (0 : Int) ≤ j ∧ (j : Int) < m := ⟨by omega, by omega⟩
    simp [execOp, hE.eval hx, hE.eval hy, Instr.indexAt, asIntOf, run_underlying hu, h1, run_sizeOf hs, Addr.add_mid, elemP]
    intro h; omega

/-- A store into an owned slice. -/
theorem s_storeOwn {t es m o s : Nat} {cs vs : List Value} (hE : Env a n L) (hx : ev L x = some (elemP v o)) (hy : ev L y = some u) (hM : Mem w0 M w (own v es m cs :: H))
    (hv : u.cells = vs.toArray) (ht : (P.info? t).map (·.size) = some s) (hl : vs.length = s) (h1 : One vs) (hj : o + vs.length ≤ m * es) (hs0 : 0 < m)
    (hX : ∀ X, D = some X → ∀ b, b ∈ valBlocks v → X b) (kk : ∀ w', Mem w0 M w' (own v es m (wr o vs cs) :: H) → wpL P ops D Q rest a w') : wpL P ops D Q ((false, ⟨none, .store t x y, ty, pos, aft, none⟩) :: rest) a w := by
  obtain ⟨h0, ⟨rfl, rfl⟩ | ⟨b, cap, cur, T, fr, rfl, g1, g2, g3, g4, g5, g6⟩⟩ := hM.holds _ (List.mem_cons_self ..)
  · omega
  · have hb := (Array.getElem?_eq_some_iff.1 g3).1
    have hcap : m * es ≤ cap * es := Nat.mul_le_mul_right _ g1
    have hst := run_storeVar_blk (P := P) (o := o) ht hv hl h1 g3 g6 (by omega)
    have hwl : (wr o vs cur.toList).length = cur.size := by rw [wr_length (by simp; omega)]; simp
    refine b_val0 (w' := setBlk w b (.cells (wr o vs cur.toList).toArray T fr)) ?_ (sta_of_setBlk (fun X hD => hX X hD b (by simp [valBlocks]))) (kk _ ?_)
    · simp only [elemP, Addr.add_mid, Nat.zero_add] at hx
      simp only [execOp, hE.eval hx, hE.eval hy, Instr.storeAt, Instr.sureAddr, Sem.run_bind, Sem.run_pure, Result.andThen_ok, hst, wr, hl]
    · refine Mem.act (es := [own (.slice (some ⟨b, 0, none⟩) m cap) es m cs]) (es' := [own (.slice (some ⟨b, 0, none⟩) m cap) es m (wr o vs cs)]) hM rfl rfl rfl (by simp) (fun b' hb' hne => setBlk_other fun e => hne _ (List.mem_cons_self ..) (by simp [own, valBlocks, e])) ?_ ?_ ?_ ?_ (List.pairwise_singleton ..)
      · intro e he; rw [List.mem_singleton.1 he]
        refine ⟨by rw [wr_length (by omega)]; exact h0, .inr ⟨b, cap, (wr o vs cur.toList).toArray, T, fr, rfl, g1, g2, setBlk_same hb, ?_, ?_, ?_⟩⟩
        · simpa [hwl] using g4
        · rw [← g5]
          have e1 : cur.toList = cur.toList.take (m * es) ++ cur.toList.drop (m * es) := (List.take_append_drop _ _).symm
          have hlt : (cur.toList.take (m * es)).length = m * es := by simp; omega
          show List.take (m * es) (wr o vs cur.toList) = _
          conv => lhs; rw [e1]
          rw [wr_append_left (by omega)]
          rw [List.take_left' (by rw [wr_length (by omega)]; exact hlt)]
        · simpa [hwl] using g6
      · intro e he b' hb'; rw [List.mem_singleton.1 he] at hb'; exact .inl ⟨_, List.mem_cons_self .., hb'⟩
      · intro e he b' hb'; rw [List.mem_singleton.1 he] at hb'; cases hb'
      · intro e he b' hb'; rw [List.mem_singleton.1 he] at hb'; cases hb'

theorem wr_set {o : Nat} {u : Value} {cs : List Value} (h : o < cs.length) : wr o [u] cs = cs.set o u := by
  unfold wr
  rw [List.set_eq_take_append_cons_drop, if_pos h]
  simp

theorem Mem.ownEq {es m m' : Nat} {cs cs' : List Value} (hM : Mem w0 M w (own v es m cs :: H)) (h1 : m = m') (h2 : cs = cs') : Mem w0 M w (own v es m' cs' :: H) := by subst h1 h2; exact hM

theorem rep_flatten_get {zc : List Value} {es : Nat} (hzl : zc.length = es) (hes : 0 < es) : ∀ (m q : Nat), q < m * es → (List.replicate m zc).flatten[q]? = zc[q % es]?
  | 0, q, hq => by omega
  | m + 1, q, hq => by
    rw [List.replicate_succ, List.flatten_cons]
    by_cases h : q < es
    · rw [List.getElem?_append_left (by omega), Nat.mod_eq_of_lt h]
    · rw [List.getElem?_append_right (by omega), hzl, rep_flatten_get hzl hes m (q - es) (by rw [Nat.add_mul] at hq; omega), ← Nat.mod_eq_sub_mod (by omega)]

/-- make: a slice of zeroes of one cell each (m elements of es cells; the zero is z). -/
theorem s_makeSlice {t e es bytes m : Nat} {i j : Int} {k1 k2 : IntKind} {zc : List Value} (hE : Env a n L) (hx : ev L x = some (.int k1 i)) (hy : ev L y = some (.int k2 j)) (hM : Mem w0 M w H) (ht : SlT P t e es bytes)
    (hz : ∃ z, (P.info? e).bind (·.zero) = some z ∧ z.cells = zc.toArray) (hi : i = (m : Int)) (hj : j = (m : Int)) (hb : m * bytes ≤ 16777216) (hm : m ≤ 16777216) (hes : 0 < es) (hn : Nat.blt d n = true)
    (k : ∀ a' v' w', Env a' n ((d, v') :: L) → Mem w0 M w' (own v' es m (List.replicate m zc).flatten :: H) → wpL P ops D Q rest a' w') :
    wpL P ops D Q ((false, ⟨some d, .makeSlice t x y, ty, pos, aft, none⟩) :: rest) a w := by
  subst hi hj
  obtain ⟨hu, hs, hb', z', hz', hzs⟩ := ht
  obtain ⟨z, hz1, hz2⟩ := hz
  obtain rfl : z' = z := by rw [hz'] at hz1; exact Option.some.inj hz1
  obtain ⟨ie, hie⟩ : ∃ ie, P.info? e = some ie := by cases h : P.info? e with | none => simp [h] at hs | some i => exact ⟨i, rfl⟩
  have hz0 : ∀ w, (zeroValue e).run P w = .ok z' w := fun w => by
    simp [hie] at hz1; simp [zeroValue, typeInfo, hie, hz1]
  have hzl : zc.length = es := by rw [hz2] at hzs; simpa using hzs
  have hib : ie.bytes = bytes := by simpa [hie] using hb'
  have wl : IntKind.i64.wrap (m : Int) = m := wrap_i64 (by omega) (by omega)
  have hcells : ((Array.range (m * es)).map (z'.cells[· % z'.cells.size]!)) = (List.replicate m zc).flatten.toArray := by
    apply Array.ext_getElem?
    intro q
    rw [hz2]
    by_cases hq : q < m * es
    · have hr : q % es < zc.length := by rw [hzl]; exact Nat.mod_lt _ hes
      have hfl := rep_flatten_get hzl hes m q hq
      rw [List.getElem?_toArray (xs := (List.replicate m zc).flatten), hfl, List.getElem?_eq_getElem hr, Array.getElem?_map, Array.getElem?_range, if_pos hq]
      simp [hzl, List.getElem?_eq_getElem hr]
    · have : (List.replicate m zc).flatten.length = m * es := by simp [hzl]
      rw [Array.getElem?_eq_none (by simp; omega), Array.getElem?_eq_none (by simp [hzl]; omega)]
  have hcl : (List.replicate m zc).flatten.length = m * es := by simp [hzl]
  refine b_val hE hn (v := .slice (some ⟨w.heap.size, 0, none⟩) m m) (w' := w.alloc (.cells (List.replicate m zc).flatten.toArray e)) ?_ (Sta.alloc D w _) (fun a' hE' => k a' _ _ hE' (hM.newSlice hcl (by rw [maxLen_eq]; omega)))
  have hti : ∀ w, (typeInfo e).run P w = .ok ie w := fun w => by simp [typeInfo, hie]
  have h1 : ¬ ((m : Int) < 0) := by omega
  have h2 : ¬ ((bytes : Int) * (m : Int) > 2 ^ 48) := by
    have : ((m * bytes : Nat) : Int) ≤ 16777216 := Int.ofNat_le.2 hb
    rw [Int.natCast_mul, Int.mul_comm] at this
    have h3 : (2 : Int) ^ 48 = 281474976710656 := rfl
    omega
  have h4 : ¬ (m * bytes > roomBytes) := by show ¬ (m * bytes > 140737488355328); omega
  have hask : ∀ w, (askRoom (m * bytes)).run P w = .ok () w := fun w => by rw [askRoom, if_neg h4]; rfl
  have hrun : ∀ w, (Instr.makeSlice t (.int k1 m) (.int k2 m)).run P w = .ok (.slice (some ⟨w.heap.size, 0, none⟩) m m) (w.alloc (.cells (List.replicate m zc).flatten.toArray e)) := by
    intro w
    simp only [Instr.makeSlice, asInt, asIntOf, Sem.run_bind, run_underlying hu, Sem.run_pure, Result.andThen_ok, hti, hib, wl, h1, h2, decide_false, Bool.or_self, Bool.false_or, Bool.or_false, gt_iff_lt, Int.lt_irrefl, Int.toNat_natCast, hask, run_sizeOf hs, Bool.false_eq_true, if_false]
    by_cases h0 : m * es = 0
    · have hnil : (List.replicate m zc).flatten.toArray = #[] := by
        have : (List.replicate m zc).flatten = [] := List.eq_nil_of_length_eq_zero (by omega)
        rw [this]
      have h5 : Array.range 0 = #[] := rfl
      simp [h0, hnil, newRow, h5]
    · simp only [h0, if_false, Sem.run_bind, hz0, Result.andThen_ok, Sem.run_pure, hcells, newRow]
      rfl
  simp only [execOp, hE.eval hx, hE.eval hy, Sem.run_bind, hrun, Result.andThen_ok]
  rfl

end Go.Kx
/- Own library, part S: plain laws of numbers and texts as bytes. -/
namespace Go.Kx
open Go
variable {P : Program}

theorem two8 (i : Nat) : 2 ^ (8 * i) = 256 ^ i := by rw [Nat.pow_mul]

theorem bin_rem_nat {t : TypeId} {k : IntKind} {m s : Nat} (hs : s ≠ 0) : Bin P .rem t (.int k m) (.int k s) (.int k ((m % s : Nat) : Int)) := bin_rem (by omega) rfl

theorem bin_quo_nat {t : TypeId} {k : IntKind} {m s : Nat} (hs : s ≠ 0) (hw : k.wrap ((m / s : Nat) : Int) = ((m / s : Nat) : Int)) : Bin P .quo t (.int k m) (.int k s) (.int k ((m / s : Nat) : Int)) := bin_quo (by omega) (by
  rw [show ((m : Int).tdiv s) = ((m / s : Nat) : Int) from rfl]; exact hw)

theorem ofNat_mod (m : Nat) : UInt8.ofNat (m % 256) = UInt8.ofNat m := by
  apply UInt8.toNat_inj.1
  simp

end Go.Kx
/- Own library, part R: what comes in as an argument of a law. -/
namespace Go.Kx
open Go
open Go.ChangeShapes Go.WideShapes Go.ChangeAt Go.RowKit
variable {P : Program} {W : World} {H : Type} {enc : TypeId × Value → H}

theorem bytes_of {l : List Value} {n : Nat} (hl : l.length = n * 1) (h : ∀ i, i < n → ∃ z, (l.drop (i * 1)).take 1 = [.int .u8 z] ∧ IntKind.u8.min ≤ z ∧ z ≤ IntKind.u8.max) : ∃ bs : List UInt8, l = bv bs ∧ bs.length = n := by
  refine ⟨l.map fun v => (match v with | .int _ z => UInt8.ofNat z.toNat | _ => 0), ?_, by simp [hl]⟩
  apply List.ext_getElem?
  intro i
  by_cases hi : i < n
  · obtain ⟨z, hz, h1, h2⟩ := h i hi
    have hg : l[i]? = some (.int .u8 z) := by
      have : ((l.drop (i * 1)).take 1)[0]? = some (.int .u8 z) := by rw [hz]; rfl
      simpa using this
    have h1' : (0 : Int) ≤ z := h1
    have h2' : z ≤ 255 := h2
    simp only [bv, List.map_map, List.getElem?_map, hg, Option.map_some, Function.comp_apply, bV]
    congr 2
    simp
    omega
  · rw [List.getElem?_eq_none (by omega), List.getElem?_eq_none (by simp; omega)]

theorem dec_structL {t s : Nat} {fs : Array Field} (l : List (Nat × Nat × Nat × (List Value → Prop))) (hu : P.underlying t = some (.struct fs)) (hs : P.cellsOf t = s)
    (hl : fs.toList.map (fun f => (f.type, f.offset, P.cellsOf f.type)) = l.map (fun p => (p.1, p.2.1, p.2.2.1))) (hd : ∀ p, p ∈ l → Dec P W p.1 p.2.2.2) :
    Dec P W t (fun cs => cs.length = s ∧ ∀ p, p ∈ l → p.2.2.2 ((cs.drop p.2.1).take p.2.2.1)) := by
  have hget : ∀ (i : Nat) (f : Field), fs[i]? = some f → ∃ p, l[i]? = some p ∧ f.type = p.1 ∧ f.offset = p.2.1 ∧ P.cellsOf f.type = p.2.2.1 := by
    intro i f hf
    have h1 : (fs.toList.map (fun f => (f.type, f.offset, P.cellsOf f.type)))[i]? = some (f.type, f.offset, P.cellsOf f.type) := by
      rw [List.getElem?_map, Array.getElem?_toList, hf]; rfl
    rw [hl, List.getElem?_map] at h1
    cases hp : l[i]? with
    | none => rw [hp] at h1; cases h1
    | some p =>
      rw [hp] at h1
      simp at h1
      exact ⟨p, rfl, h1.1.symm, h1.2.1.symm, h1.2.2.symm⟩
  refine (dec_struct (R := fun i cs => ∀ p, l[i]? = some p → p.2.2.2 cs) hu hs ?_).mono fun cs h => ⟨h.1, fun p hp => ?_⟩
  · intro i f hf
    obtain ⟨p, hp, h1, h2, h3⟩ := hget i f hf
    rw [h1]
    refine (hd p (List.mem_of_getElem? hp)).mono fun cs hR q hq => ?_
    rw [hp] at hq; cases hq; exact hR
  · obtain ⟨i, hi, rfl⟩ := List.mem_iff_getElem.1 hp
    have hlen : fs.toList.length = l.length := by have := congrArg List.length hl; simpa using this
    obtain ⟨f, hf⟩ : ∃ f, fs[i]? = some f := by
      have : i < fs.size := by simpa using (show i < fs.toList.length by omega)
      exact ⟨fs[i], Array.getElem?_eq_getElem this⟩
    obtain ⟨p, hp', h1, h2, h3⟩ := hget i f hf
    have e : l[i] = p := by rw [List.getElem?_eq_getElem hi] at hp'; exact Option.some.inj hp'
    have := h.2 i f hf p hp'
    rw [h2, h3] at this
    rw [e]; exact this

theorem agg_of {cs : Array Value} {l : List Value} (h : (Value.agg cs).cells.toList = l) : cs = l.toArray := by subst h; simp [Value.cells]

end Go.Kx
/- Own library, part T: plain laws of rows of parts; lists of parts that grow or come in. -/
namespace Go.Kx
open Go
open Go.ChangeShapes Go.WideShapes Go.ChangeAt Go.RowKit
variable {P : Program} {w0 w : World} {M : List Nat} {H : List Ent}

theorem Mem.notX {e f : Ent} (hM : Mem w0 M w H) (i j : Nat) (hi : H[i]? = some e) (hj : H[j]? = some f) (hne : i ≠ j) : ∀ b, b ∈ e.fp → b ∉ f.ro := fun b hb => ((apart_of_get hM.apart hi hj hne).1 b hb).2

variable {W : World} {K : Type} {enc : TypeId × Value → K}

end Go.Kx
/- Own library, part U: plain laws: rows are read back, and are laid as they were read. -/
namespace Go.Kx
open Go
variable {P : Program} {w0 w w' : World} {M : List Nat} {H : List Ent}

end Go.Kx
/- Own library, part V: a block beside a slice that it does not hold; fields of elements. -/
namespace Go.Kx
open Go
variable {P : Program} {Q : Exit → Act → World → Prop} {D : Option (Nat → Prop)} {ops : Array Oper} {rest : List (Bool × Oper)} {a : Act} {w w0 w' : World} {n d : Nat} {L : List (Nat × Value)} {x y : Operand} {v u : Value} {M : List Nat} {H : List Ent} {ty : TypeId} {pos : String} {aft : Array Edge}

theorem Sta.mono {X Y : Nat → Prop} (h : Sta (some X) w w') (hXY : ∀ b, X b → Y b) : Sta (some Y) w w' := ⟨h.1, fun b hb hy => h.2 b hb (fun hx => hy (hXY b hx))⟩

/-- The cells of numbers, two an element. -/
def two (ls : List (Int × Int)) : List Value := ls.flatMap fun p => [.int .i64 p.1, .int .i64 p.2]
variable {W : World} {K : Type} {enc : TypeId × Value → K}
open Go.ChangeShapes Go.WideShapes Go.ChangeAt Go.RowKit

end Go.Kx
/- Own library, part W: lists of widths, numbers and texts: laid one behind the other, and taken back. -/
namespace Go.Kx
open Go
variable {P : Program} {w0 w : World} {M : List Nat} {H : List Ent}

/-- A block's parts are named anew. -/
theorem Mem.resplit {b T : Nat} {ss ss' : List (List Value)} {ns ns' : List Nat} (hM : Mem w0 M w (blk b ss ns T :: H)) (hf : ss'.flatten = ss.flatten) (hn : ss'.map List.length = ns') : Mem w0 M w (blk b ss' ns' T :: H) := by
  refine Mem.act (es := [blk b ss ns T]) (es' := [blk b ss' ns' T]) hM rfl rfl rfl (Nat.le_refl _) (fun _ _ _ => rfl) ?_ ?_ ?_ ?_ (List.pairwise_singleton ..)
  · intro e he; rw [List.mem_singleton.1 he]
    obtain ⟨_, fr, h1, h2⟩ := hM.get 0 rfl
    exact ⟨hn, fr, by rw [hf]; exact h1, by rw [hf]; exact h2⟩
  · intro e he b' hb; rw [List.mem_singleton.1 he] at hb; exact .inl ⟨_, .head _, hb⟩
  · intro e he b' hb; rw [List.mem_singleton.1 he] at hb; cases hb
  · intro e he b' hb; rw [List.mem_singleton.1 he] at hb; cases hb

abbrev Trio := Int × Nat × ByteArray
def it (k : Trio) : List Value := [.int .i64 k.1, .int .u64 (k.2.1 : Int), .string k.2.2]
def its (ls : List Trio) : List Value := ls.flatMap it
def encI (k : Trio) : List UInt8 := laid k.1.toNat k.2.1 ++ (laid 2 k.2.2.size ++ k.2.2.data.toList)
def enc (ks : List Trio) : List UInt8 := ks.flatMap encI

variable {W : World} {K : Type} {enc' : TypeId × Value → K}
open Go.ChangeShapes Go.WideShapes Go.ChangeAt Go.RowKit

end Go.Kx
/- Own library, part X: arrays of bytes and structs are compared. -/
namespace Go.Kx
open Go
variable {P : Program} {w : World}

theorem part_u8 {e : Nat} {a : List UInt8} {i : Nat} (he : P.underlying e = some (.int .u8)) (hi : i < a.length) : (part e (bv a).toArray i).run P w = .ok (bV (a.getD i 0)) w := by
  simp [part, isAgg, run_underlying he, bv, hi, List.getD]

theorem eqItems_u8 {e : Nat} (he : P.underlying e = some (.int .u8)) (d : Nat) (a b : List UInt8) : ∀ is : List Nat, (∀ i, i ∈ is → i < a.length ∧ i < b.length) →
    (Op.eqItems (d + 1) e 1 (bv a).toArray (bv b).toArray is).run P w = .ok (is.all fun i => decide (a.getD i 0 = b.getD i 0)) w
  | [], _ => by simp [Op.eqItems]
  | i :: is, h => by
    obtain ⟨h1, h2⟩ := h i (.head _)
    have ih := eqItems_u8 he d a b is (fun j hj => h j (.tail _ hj))
    have hv : ∀ x y : UInt8, (Op.equalIn (d + 1) e (bV x) (bV y)).run P w = .ok (decide (x = y)) w := fun x y => by
      have : ((x.toNat : Int) == (y.toNat : Int)) = decide (x = y) := by
        rw [Bool.eq_iff_iff]
        simp only [beq_iff_eq, decide_eq_true_eq]
        rw [← UInt8.toNat_inj]
        omega
      simp [Op.equalIn, run_underlying he, bV, this]
    simp only [Op.eqItems, Nat.mul_one, Sem.run_bind, part_u8 he h1, part_u8 he h2, hv, Result.andThen_ok, List.all_cons]
    by_cases hxy : a.getD i 0 = b.getD i 0
    · simp only [hxy, decide_true, Bool.not_true, Bool.false_eq_true, if_false, Bool.true_and]
      exact ih
    · simp only [hxy, decide_false, Bool.not_false, if_true, Bool.false_and, Sem.run_pure]

theorem all_eq {a b : List UInt8} (h : a.length = b.length) : ((List.range a.length).all fun i => decide (a.getD i 0 = b.getD i 0)) = decide (a = b) := by
  rw [Bool.eq_iff_iff]
  simp only [List.all_eq_true, List.mem_range, decide_eq_true_eq]
  constructor
  · intro hh
    apply List.ext_getElem h
    intro i h1 h2
    have := hh i h1
    simpa [List.getD, h1, h2] using this
  · rintro rfl i _; rfl

/-- Two arrays of bytes. -/
theorem equal_u8s {t e n : Nat} {ie : TypeInfo} {a b : List UInt8} (ht : P.underlying t = some (.array n e)) (hie : P.info? e = some ie) (he : P.underlying e = some (.int .u8)) (hc : P.cellsOf e = 1) (ha : a.length = n) (hb : b.length = n) (d : Nat) :
    (Op.equalIn (d + 2) t (.agg (bv a).toArray) (.agg (bv b).toArray)).run P w = .ok (decide (a = b)) w := by
  rw [run_equalIn_array w (d + 1) _ _ ht hie, hc, ← ha, eqItems_u8 he d a b _ (fun i hi => by have := List.mem_range.1 hi; omega), all_eq (by omega)]

end Go.Kx
/- Own library, part H: words of 32 bits, arrays that are indexed by what is not known, closures' cells, drawn regions in two phases over memory. -/
namespace Go.Kx
open Go
variable {P : Program} {Q : Exit → Act → World → Prop} {D : Option (Nat → Prop)} {ops : Array Oper} {rest : List (Bool × Oper)} {a : Act} {w w0 w' : World} {n d : Nat} {L : List (Nat × Value)} {x y : Operand} {v u : Value} {M : List Nat} {H : List Ent} {ty : TypeId} {pos : String} {aft : Array Edge}

theorem wp_drawnM2 {id : Nat} {ops : Array Oper} (hM : Mem w0 M w H) (hm : P.follows .mixedOrders = true) (X1 X2 : Nat → Prop) (c1 c2 : List (Nat × Bool)) (T : List (Nat × List (Nat × Nat)))
    (hc : canonOk ops (c1 ++ c2) T = true) (hx : crossOk ops c1 c2 T = true) {l1 l2 : List (Bool × Oper)} (hl1 : theOps ops c1 = l1) (hl2 : theOps ops c2 = l2)
    (h : ∀ w', Mem w0 M w' H → w'.heap = w.heap → wpL P ops (some X1) (ph P ops (some X2) Q l2) l1 a w') : (Code.region id ops true).wp P Q a w :=
  wp_drawn2 hm X1 X2 c1 c2 T hc hx hl1 hl2 (h _ hM.drew rfl)

theorem wp_forkM {id : Nat} {ops : Array Oper} (hM : Mem w0 M w H) (hm : P.follows .mixedOrders = true) (X1 X2 : Nat → Prop) (pre : List (Nat × Bool)) (x y : Nat × Bool) (post c2 : List (Nat × Bool)) (T : List (Nat × List (Nat × Nat)))
    (hc : forkOk ops pre x y post c2 T = true) (hx : crossOk ops (pre ++ x :: y :: post) c2 T = true) {l1 l1' l2 : List (Bool × Oper)} (hl1 : theOps ops (pre ++ x :: y :: post) = l1) (hl1' : theOps ops (pre ++ y :: x :: post) = l1') (hl2 : theOps ops c2 = l2)
    (h : ∀ w', Mem w0 M w' H → w'.heap = w.heap → wpL P ops (some X1) (ph P ops (some X2) Q l2) l1 a w') (h' : ∀ w', Mem w0 M w' H → w'.heap = w.heap → wpL P ops (some X1) (ph P ops (some X2) Q l2) l1' a w') :
    (Code.region id ops true).wp P Q a w :=
  wp_fork hm X1 X2 pre x y post c2 T hc hx hl1 hl1' hl2 (h _ hM.drew rfl) (h' _ hM.drew rfl)

theorem q_ph {l : List (Bool × Oper)} (h : wpL P ops D Q l a w) : ph P ops D Q l .normal a w := h

/-! ## Words -/

def wV (x : UInt32) : Value := .int .u32 (x.toNat : Int)
def wd (l : List UInt32) : List Value := l.map wV
@[simp] theorem wd_length (l : List UInt32) : (wd l).length = l.length := by simp [wd]
theorem wd_append (a b : List UInt32) : wd (a ++ b) = wd a ++ wd b := by simp [wd]
theorem wd_one (l : List UInt32) : One (wd l) := fun v hv => by
  obtain ⟨x, _, rfl⟩ := List.mem_map.1 hv; rfl
theorem wd_get {l : List UInt32} {j : Nat} (h : j < l.length) : (wd l)[j]? = some (wV (l.getD j 0)) := by simp [wd, h]
theorem wd_set {l : List UInt32} {j : Nat} {x : UInt32} : (wd l).set j (wV x) = wd (l.set j x) := by simp [wd, List.map_set]
theorem bv_get {l : List UInt8} {j : Nat} (h : j < l.length) : (bv l)[j]? = some (bV (l.getD j 0)) := by simp [bv, h]
theorem bv_set' {l : List UInt8} {j : Nat} {x : UInt8} : (bv l).set j (bV x) = bv (l.set j x) := by simp [bv, List.map_set]

theorem bv_setI {l : List UInt8} {j : Nat} {x : UInt8} : (bv l).set j (.int .u8 (x.toNat : Int)) = bv (l.set j x) := bv_set'

theorem wrap_u32_ofNat (m : Nat) : IntKind.u32.wrap (m : Int) = ((UInt32.ofNat m).toNat : Int) := by
  rw [IntKind.wrap_u32]; simp

theorem bin_add32 {t : TypeId} {x y : UInt32} : Bin P .add t (wV x) (wV y) (wV (x + y)) :=
  bin_add (by
    have := wrap_u32_ofNat (x.toNat + y.toNat)
    rw [Int.natCast_add] at this
    rw [this, UInt32.ofNat_add]; simp)
theorem bin_mul32 {t : TypeId} {x y : UInt32} : Bin P .mul t (wV x) (wV y) (wV (x * y)) :=
  bin_mul (by
    have := wrap_u32_ofNat (x.toNat * y.toNat)
    rw [Int.natCast_mul] at this
    rw [this, UInt32.ofNat_mul]; simp)

theorem wrap_u32_lt {m : Nat} (h : m < 2 ^ 32) : IntKind.u32.wrap (m : Int) = (m : Int) := by
  rw [wrap_u32_ofNat, UInt32.toNat_ofNat_of_lt' h]

theorem bin_xor32 {t : TypeId} {x y : UInt32} : Bin P .xor t (wV x) (wV y) (wV (x ^^^ y)) := bin_of rfl fun w => by
  have e : (BitVec.ofInt IntKind.u32.bits (x.toNat : Int) ^^^ BitVec.ofInt IntKind.u32.bits (y.toNat : Int)).toNat = (x ^^^ y).toNat := by
    show (BitVec.ofInt 32 (x.toNat : Int) ^^^ BitVec.ofInt 32 (y.toNat : Int)).toNat = _
    simp [BitVec.toNat_xor]
  simp only [wV, binOp, Op.intBits]
  rw [if_neg (by simp), e, wrap_u32_lt (UInt32.toNat_lt _)]; rfl
theorem bin_and32 {t : TypeId} {x y : UInt32} : Bin P .and t (wV x) (wV y) (wV (x &&& y)) := bin_of rfl fun w => by
  have e : (BitVec.ofInt IntKind.u32.bits (x.toNat : Int) &&& BitVec.ofInt IntKind.u32.bits (y.toNat : Int)).toNat = (x &&& y).toNat := by
    show (BitVec.ofInt 32 (x.toNat : Int) &&& BitVec.ofInt 32 (y.toNat : Int)).toNat = _
    simp [BitVec.toNat_and]
  simp only [wV, binOp, Op.intBits]
  rw [if_neg (by simp), e, wrap_u32_lt (UInt32.toNat_lt _)]; rfl
theorem bin_or32 {t : TypeId} {x y : UInt32} : Bin P .or t (wV x) (wV y) (wV (x ||| y)) := bin_of rfl fun w => by
  have e : (BitVec.ofInt IntKind.u32.bits (x.toNat : Int) ||| BitVec.ofInt IntKind.u32.bits (y.toNat : Int)).toNat = (x ||| y).toNat := by
    show (BitVec.ofInt 32 (x.toNat : Int) ||| BitVec.ofInt 32 (y.toNat : Int)).toNat = _
    simp [BitVec.toNat_or]
  simp only [wV, binOp, Op.intBits]
  rw [if_neg (by simp), e, wrap_u32_lt (UInt32.toNat_lt _)]; rfl

def shrW (x : UInt32) (k : Nat) : UInt32 := UInt32.ofNat (x.toNat / 2 ^ k)
def shlW (x : UInt32) (k : Nat) : UInt32 := UInt32.ofNat (x.toNat * 2 ^ k)

theorem bin_shr32 {t : TypeId} {x : UInt32} {k' : IntKind} {s : Nat} {j : Int} (hj : j = (s : Int)) (hs : s ≤ 32) : Bin P .shr t (wV x) (.int k' j) (wV (shrW x s)) := by
  have h := bin_shr_nat (P := P) (t := t) (k := .u32) (k' := k') (m := x.toNat) hj hs
  have e : (shrW x s).toNat = x.toNat / 2 ^ s := UInt32.toNat_ofNat_of_lt' (Nat.lt_of_le_of_lt (Nat.div_le_self _ _) x.toNat_lt)
  unfold wV; rw [e]; exact h
theorem bin_shl32 {t : TypeId} {x : UInt32} {k' : IntKind} {s : Nat} {j : Int} (hj : j = (s : Int)) (hs : s ≤ 32) : Bin P .shl t (wV x) (.int k' j) (wV (shlW x s)) := bin_of rfl fun w => by
  subst hj
  have h1 : ¬ ((s : Int) < 0) := by omega
  have h2 : min (s : Int).toNat IntKind.u32.bits = s := by show min s 32 = s; omega
  simp only [wV, binOp, Op.shift, h1, if_false, h2]
  have e : (x.toNat : Int) * 2 ^ s = ((x.toNat * 2 ^ s : Nat) : Int) := by simp
  rw [e, wrap_u32_ofNat]; rfl

/-! ## Arrays -/

theorem cellsAt_elem {b m T j : Nat} {cs : List Value} (h : (blk b [cs] [m] T).holds w) (hj : cs[j]? = some v) : (cellsAt (.pointer (some ⟨b, j, none⟩)) [v]).holds w := by
  obtain ⟨hm, fr, hh, hf⟩ := h
  refine ⟨b, j, rfl, (Array.getElem?_eq_some_iff.1 hh).1, fun i x hx => ?_⟩
  cases i with
  | zero =>
    simp only [List.getElem?_cons_zero, Option.some.injEq] at hx
    subst hx
    rw [Nat.add_zero, cell_of_row w b j _ T fr hh]
    simpa using hj
  | succ i => simp at hx

theorem s_loadIdx {t b o m T j : Nat} {cs : List Value} (hE : Env a n L) (hx : ev L x = some (.pointer (some ⟨b, o, none⟩))) (ho : o = j) (hB : (blk b [cs] [m] T).holds w) (hj : cs[j]? = some v) (ht : OneT P t)
    (hX : ∀ X, D = some X → ¬ X b) (hn : Nat.blt d n = true) (k : ∀ a', Env a' n ((d, v) :: L) → wpL P ops D Q rest a' w) : wpL P ops D Q ((true, ⟨some d, .load t x, ty, pos, aft, none⟩) :: rest) a w := by
  subst ho
  exact s_loadAt1 hE hx (cellsAt_elem hB hj) ht (fun X hD b' hb => by simp [valBlocks] at hb; subst hb; exact hX X hD) hn k

theorem cellsAt_part {b j : Nat} {cs : List Value} (h : (cellsAt (.pointer (some ⟨b, 0, none⟩)) cs).holds w) (hj : cs[j]? = some v) : (cellsAt (.pointer (some ⟨b, j, none⟩)) [v]).holds w := by
  obtain ⟨b', o', e, h2, h3⟩ := h
  cases e
  refine ⟨b, j, rfl, h2, fun i x hx => ?_⟩
  cases i with
  | zero =>
    simp only [List.getElem?_cons_zero, Option.some.injEq] at hx
    subst hx
    have := h3 j v hj
    rwa [Nat.zero_add] at this
  | succ i => simp at hx

theorem s_loadCells {t b o j : Nat} {cs : List Value} (hE : Env a n L) (hx : ev L x = some (.pointer (some ⟨b, o, none⟩))) (ho : o = j) (hB : (cellsAt (.pointer (some ⟨b, 0, none⟩)) cs).holds w) (hj : cs[j]? = some v) (ht : OneT P t)
    (hX : ∀ X, D = some X → ¬ X b) (hn : Nat.blt d n = true) (k : ∀ a', Env a' n ((d, v) :: L) → wpL P ops D Q rest a' w) : wpL P ops D Q ((true, ⟨some d, .load t x, ty, pos, aft, none⟩) :: rest) a w := by
  subst ho
  exact s_loadAt1 hE hx (cellsAt_part hB hj) ht (fun X hD b' hb => by simp [valBlocks] at hb; subst hb; exact hX X hD) hn k

theorem s_storeIdx {t b o j m T : Nat} {cs : List Value} (hE : Env a n L) (hx : ev L x = some (.pointer (some ⟨b, o, none⟩))) (ho : o = j) (hy : ev L y = some u) (hM : Mem w0 M w (blk b [cs] [m] T :: H))
    (hv : u.cells = #[u]) (h1 : u.oneCell' = true) (ht : (P.info? t).map (·.size) = some 1) (hj : j < cs.length)
    (hX : ∀ X, D = some X → X b) (kk : ∀ w', Mem w0 M w' (blk b [cs.set j u] [m] T :: H) → wpL P ops D Q rest a w') : wpL P ops D Q ((false, ⟨none, .store t x y, ty, pos, aft, none⟩) :: rest) a w := by
  subst ho
  exact s_store (j := o) 0 (vs := [u]) (g := cs) hE hx hy hM hv ht rfl (one1 h1) rfl (by simp only [List.length_singleton]; omega) (by simp) (show [wr o [u] cs] = _ by rw [wr_set hj]) hX kk

theorem s_index1 {t l e j : Nat} {i : Int} {k' : IntKind} {cs : List Value} (hE : Env a n L) (hx : ev L x = some (.agg cs.toArray)) (hy : ev L y = some (.int k' i)) (hu : P.underlying t = some (.array l e)) (ho : OneT P e)
    (hi : i = (j : Int)) (hj : j < l) (hv : cs[j]? = some v) (hn : Nat.blt d n = true)
    (k : ∀ a', Env a' n ((d, v) :: L) → wpL P ops D Q rest a' w) : wpL P ops D Q ((true, ⟨some d, .index t x y, ty, pos, aft, none⟩) :: rest) a w := by
  subst hi
  refine s_val hE hn (Flo.of_all (fun w => ?_) w) k
  have h1 : (0 : Int) ≤ j ∧ (j : Int) < l := ⟨by omega, by omega⟩
  obtain ⟨⟨td, h2, h3⟩, h4⟩ := ho
  simp only [execOp, hE.eval hx, hE.eval hy, Instr.index, asIntOf, Sem.run_bind, Sem.run_pure, Result.andThen_ok, run_underlying hu, h1, and_self, if_true, run_sizeOf h4, part, run_isAgg h2, h3, Bool.false_eq_true, if_false, Int.toNat_natCast, Nat.mul_one, List.getElem?_toArray, hv]

theorem s_makeFn {fn : Fn} {xs : List Operand} {vs : List Value} (hE : Env a n L) (hv : evL L xs = some vs) (hn : Nat.blt d n = true) (k : ∀ a', Env a' n ((d, .func fn #[] vs.toArray) :: L) → wpL P ops D Q rest a' w) :
    wpL P ops D Q ((true, ⟨some d, .makeFunc fn #[] xs.toArray, ty, pos, aft, none⟩) :: rest) a w :=
  s_makeFunc hE hn (fun a' h => k a' (by
    have e : (xs.toArray.map a.eval) = vs.toArray := by rw [← hE.evals hv]; simp
    rw [e] at h
    simpa using h))

theorem s_calldynL {f : FuncId} {xs : List Operand} {ts : Array TypeId} {vs capl : List Value} {R : Ending → World → Prop} (hE : Env a n L) (hx : ev L x = some (.func (.func f) #[] capl.toArray)) (hv : evL L xs = some vs) (hf : ∀ args w, (callFunc f args).run P w = .ok (.enter f args) w)
    (hc : Calls P f (vs ++ capl).toArray w R) (hn : Nat.blt d n = true)
    (k : ∀ e w', R e w' → ∃ v, e = .returned v ∧ Sta D w w' ∧ ∀ a', Env a' n ((d, v) :: L) → wpL P ops D Q rest a' w') :
    wpL P ops D Q ((false, ⟨some d, .call { callee := .value x, args := xs.toArray, argTypes := ts }, ty, pos, aft, none⟩) :: rest) a w :=
  s_calldyn hE hx hv hf (by simpa using hc) hn k
end Go.Kx
/- Own library, part I: what SHA-256 of the given program computes, in plain Lean. -/
namespace Go.Kx
open Go

def rotW (x : UInt32) (k : Nat) : UInt32 := shrW x k ||| shlW x (32 - k)
def halfW (x : UInt32) (a b c : Nat) : UInt32 := (rotW x a ^^^ rotW x b) ^^^ shrW x c

def beW (l : List UInt8) : UInt32 := l.foldl (fun m c => m * 256 + UInt32.ofNat c.toNat) 0

def wordW (b : List UInt8) (m : List UInt32) (n : Nat) : UInt32 :=
  if n < 16 then beW ((b.drop (4 * n)).take 4)
  else m.getD (n - 16) 0 + halfW (m.getD (n - 15) 0) 7 18 3 + m.getD (n - 7) 0 + halfW (m.getD (n - 2) 0) 17 19 10

def msgW (b : List UInt8) : Nat → List UInt32
  | 0 => []
  | n + 1 => msgW b n ++ [wordW b (msgW b n) n]

@[simp] theorem msgW_length (b : List UInt8) : ∀ n, (msgW b n).length = n
  | 0 => rfl
  | n + 1 => by simp [msgW, msgW_length b n]

def saltsW : List UInt32 := [
  0x428a2f98, 0x71374491, 0xb5c0fbcf, 0xe9b5dba5, 0x3956c25b, 0x59f111f1, 0x923f82a4, 0xab1c5ed5,
  0xd807aa98, 0x12835b01, 0x243185be, 0x550c7dc3, 0x72be5d74, 0x80deb1fe, 0x9bdc06a7, 0xc19bf174,
  0xe49b69c1, 0xefbe4786, 0x0fc19dc6, 0x240ca1cc, 0x2de92c6f, 0x4a7484aa, 0x5cb0a9dc, 0x76f988da,
  0x983e5152, 0xa831c66d, 0xb00327c8, 0xbf597fc7, 0xc6e00bf3, 0xd5a79147, 0x06ca6351, 0x14292967,
  0x27b70a85, 0x2e1b2138, 0x4d2c6dfc, 0x53380d13, 0x650a7354, 0x766a0abb, 0x81c2c92e, 0x92722c85,
  0xa2bfe8a1, 0xa81a664b, 0xc24b8b70, 0xc76c51a3, 0xd192e819, 0xd6990624, 0xf40e3585, 0x106aa070,
  0x19a4c116, 0x1e376c08, 0x2748774c, 0x34b0bcb5, 0x391c0cb3, 0x4ed8aa4a, 0x5b9cca4f, 0x682e6ff3,
  0x748f82ee, 0x78a5636f, 0x84c87814, 0x8cc70208, 0x90befffa, 0xa4506ceb, 0xbef9a3f7, 0xc67178f2]

/-- The salts, where the package keeps them. -/
def glb (g : Nat) : Ent := cellsAt (.pointer (some ⟨g, 0, none⟩)) (wd saltsW)

def seedsW : List UInt32 := [0x6a09e667, 0xbb67ae85, 0x3c6ef372, 0xa54ff53a, 0x510e527f, 0x9b05688c, 0x1f83d9ab, 0x5be0cd19]

def whoI (k i : Nat) : Nat := (k + 64 - i) % 8
theorem whoI_lt (k i : Nat) : whoI k i < 8 := Nat.mod_lt _ (by decide)

def gW (n : List UInt32) (k i : Nat) : UInt32 := n.getD (whoI k i) 0
def choiceW (n : List UInt32) (i : Nat) : UInt32 := gW n 6 i ^^^ (gW n 4 i &&& (gW n 5 i ^^^ gW n 6 i))
def mostW (n : List UInt32) (i : Nat) : UInt32 := ((gW n 0 i &&& gW n 1 i) ||| (gW n 0 i &&& gW n 2 i)) ||| (gW n 1 i &&& gW n 2 i)
def pW (n : List UInt32) (s m : UInt32) (i : Nat) : UInt32 := gW n 7 i + ((rotW (gW n 4 i) 6 ^^^ rotW (gW n 4 i) 11) ^^^ rotW (gW n 4 i) 25) + choiceW n i + s + m
def stepW (n : List UInt32) (s m : UInt32) (i : Nat) : List UInt32 :=
  (n.set (whoI 3 i) (gW n 3 i + pW n s m i)).set (whoI 7 i) (pW n s m i + ((rotW (gW n 0 i) 2 ^^^ rotW (gW n 0 i) 13) ^^^ rotW (gW n 0 i) 22) + mostW n i)
@[simp] theorem stepW_length (n : List UInt32) (s m : UInt32) (i : Nat) : (stepW n s m i).length = n.length := by simp [stepW]

def runW (msg : List UInt32) : Nat → List UInt32 → List UInt32
  | 0, n => n
  | i + 1, n => stepW (runW msg i n) (saltsW.getD i 0) (msg.getD i 0) i
@[simp] theorem runW_length (msg n : List UInt32) : ∀ i, (runW msg i n).length = n.length
  | 0 => rfl
  | i + 1 => by simp [runW, runW_length msg n i]

def sumW (was n : List UInt32) : Nat → List UInt32
  | 0 => n
  | k + 1 => (sumW was n k).set k ((sumW was n k).getD k 0 + was.getD k 0)
@[simp] theorem sumW_length (was n : List UInt32) : ∀ k, (sumW was n k).length = n.length
  | 0 => rfl
  | k + 1 => by simp [sumW, sumW_length was n k]

def passW (was : List UInt32) (b : List UInt8) : List UInt32 := sumW was (runW (msgW b 64) 64 was) 8
@[simp] theorem passW_length (was : List UInt32) (b : List UInt8) : (passW was b).length = was.length := by simp [passW]

def overW : Nat → List UInt32 → List UInt8 → List UInt32
  | 0, n, _ => n
  | k + 1, n, b => overW k (passW n (b.take 64)) (b.drop 64)
@[simp] theorem overW_length : ∀ (k : Nat) (n : List UInt32) (b : List UInt8), (overW k n b).length = n.length
  | 0, _, _ => rfl
  | k + 1, n, b => by simp [overW, overW_length k]

def zerosW (n : Nat) : Nat := (119 - n % 64) % 64
def tailW (n : Nat) : List UInt8 := 128 :: List.replicate (zerosW n) 0 ++ laid 8 (n * 8)

def bytesW (n : List UInt32) : Nat → List UInt8
  | 0 => []
  | i + 1 => bytesW n i ++ [UInt8.ofNat (shrW (n.getD (i / 4) 0) (24 - i % 4 * 8)).toNat]
@[simp] theorem bytesW_length (n : List UInt32) : ∀ i, (bytesW n i).length = i
  | 0 => rfl
  | i + 1 => by simp [bytesW, bytesW_length n i]

/-- The digest of bytes behind a prefix: its numbers and size. -/
def endW (n : List UInt32) (size : Nat) (bs : List UInt8) : List UInt8 :=
  let q := bs.length / 64
  let l := bs.drop (64 * q) ++ tailW (size + bs.length)
  bytesW (overW (l.length / 64) (overW q n (bs.take (64 * q))) l) 32
@[simp] theorem endW_length (n : List UInt32) (size : Nat) (bs : List UInt8) : (endW n size bs).length = 32 := by simp [endW]

def shaW (bs : List UInt8) : List UInt8 := endW seedsW 0 bs
@[simp] theorem shaW_length (bs : List UInt8) : (shaW bs).length = 32 := by simp [shaW]

theorem tailW_length (n : Nat) : (n + (tailW n).length) % 64 = 0 := by
  simp [tailW, zerosW]; omega

theorem beW_take_succ {ps : List UInt8} {k : Nat} (h : k < ps.length) : beW (ps.take (k + 1)) = beW (ps.take k) * 256 + UInt32.ofNat (ps.getD k 0).toNat := by
  have e : ps.take (k + 1) = ps.take k ++ [ps.getD k 0] := by
    rw [List.take_succ_eq_append_getElem h]; simp [h]
  rw [e]; simp [beW]

theorem msg_set {bs : List UInt8} {i : Nat} (hi : i < 64) : (msgW bs i ++ List.replicate (64 - i) 0).set i (wordW bs (msgW bs i) i) = msgW bs (i + 1) ++ List.replicate (64 - (i + 1)) 0 := by
  obtain ⟨k, hk⟩ : ∃ k, 64 - i = k + 1 := ⟨64 - i - 1, by omega⟩
  rw [hk, show 64 - (i + 1) = k by omega, List.replicate_succ, List.set_append_right _ _ (by simp)]
  simp [msgW]

theorem msg_zero {bs : List UInt8} {i : Nat} (hi : i < 64) : (msgW bs i ++ List.replicate (64 - i) 0).set i 0 = msgW bs i ++ List.replicate (64 - i) 0 := by
  obtain ⟨k, hk⟩ : ∃ k, 64 - i = k + 1 := ⟨64 - i - 1, by omega⟩
  rw [hk, List.replicate_succ, List.set_append_right _ _ (by simp)]
  simp

theorem msg_low {bs : List UInt8} {i : Nat} (h : i < 16) : wordW bs (msgW bs i) i = beW ((bs.drop (4 * i)).take 4) := by simp [wordW, h]

theorem msg_get {bs : List UInt8} {i j : Nat} (h : j < i) : (msgW bs i ++ List.replicate (64 - i) 0).getD j 0 = (msgW bs i).getD j 0 := by
  simp [List.getD, List.getElem?_append_left (show j < (msgW bs i).length by simpa using h)]

theorem msg_high {bs : List UInt8} {i : Nat} (h : ¬ i < 16) : wordW bs (msgW bs i) i =
    (msgW bs i ++ List.replicate (64 - i) 0).getD (i - 16) 0 + halfW ((msgW bs i ++ List.replicate (64 - i) 0).getD (i - 15) 0) 7 18 3 + (msgW bs i ++ List.replicate (64 - i) 0).getD (i - 7) 0 + halfW ((msgW bs i ++ List.replicate (64 - i) 0).getD (i - 2) 0) 17 19 10 := by
  rw [msg_get (by omega), msg_get (by omega), msg_get (by omega), msg_get (by omega)]
  simp [wordW, h]

theorem set_getD {l : List UInt32} {i : Nat} {x : UInt32} (h : i < l.length) : (l.set i x).getD i 0 = x := by simp [h]
theorem overW_succ : ∀ (j : Nat) (n : List UInt32) (b : List UInt8), overW (j + 1) n b = passW (overW j n b) ((b.drop (64 * j)).take 64)
  | 0, n, b => by simp [overW]
  | j + 1, n, b => by
    rw [overW, overW_succ j, overW]
    simp [List.drop_drop, Nat.mul_add, Nat.add_comm]

theorem bytes_set {n : List UInt32} {i : Nat} (hi : i < 32) : (bytesW n i ++ List.replicate (32 - i) 0).set i (UInt8.ofNat (shrW (n.getD (i / 4) 0) (24 - i % 4 * 8)).toNat) = bytesW n (i + 1) ++ List.replicate (32 - (i + 1)) 0 := by
  obtain ⟨k, hk⟩ : ∃ k, 32 - i = k + 1 := ⟨32 - i - 1, by omega⟩
  rw [hk, show 32 - (i + 1) = k by omega, List.replicate_succ, List.set_append_right _ _ (by simp)]
  simp [bytesW]

def prefL (ns : List UInt32) (size : Nat) : List Value := wd ns ++ [.int .i64 (size : Int), .bool true]
theorem prefL_one (ns : List UInt32) (size : Nat) : One (prefL ns size) := fun v hv => by
  simp only [prefL, List.mem_append, List.mem_cons, List.not_mem_nil, or_false] at hv
  rcases hv with h | rfl | rfl
  · exact wd_one _ v h
  · rfl
  · rfl

theorem tailW_eq (n : Nat) : tailW n = (128 :: List.replicate (zerosW n) 0) ++ (laid 8 (n * 8)).take 8 := by
  rw [List.take_of_length_le (by simp)]; rfl
theorem tailW_len (n : Nat) : (tailW n).length = 1 + zerosW n + 8 := by simp [tailW]; omega
end Go.Kx
/- Own library, part J: arrays as slices, copy into an array; what HMAC of the given program computes. -/
namespace Go.Kx
open Go
variable {P : Program} {ops : Array Oper} {D : Option (Nat → Prop)} {Q : Exit → Act → World → Prop} {w0 w w' : World} {M : List Nat} {H H' : List Ent}
  {a : Act} {n : Nat} {L : List (Nat × Value)} {rest : List (Bool × Oper)} {d : Nat} {ty : TypeId} {pos : String} {aft : Array Edge} {x y z : Operand} {u v r : Value}

/-- A block that is one array becomes a slice that is owned. -/
theorem Mem.blkOwn {b T es m k : Nat} {cs : List Value} (hM : Mem w0 M w (blk b [cs] [m] T :: H)) (hk : m = k * es) (hm : k ≤ maxLen) : Mem w0 M w (own (.slice (some ⟨b, 0, none⟩) k k) es k cs :: H) := by
  obtain ⟨hl, fr, h1, h2⟩ := hM.get 0 rfl
  have hcl : cs.length = k * es := by simp at hl; omega
  simp only [List.flatten_cons, List.flatten_nil, List.append_nil] at h1 h2
  refine Mem.act (es := [blk b [cs] [m] T]) (es' := [own (.slice (some ⟨b, 0, none⟩) k k) es k cs]) hM rfl rfl rfl (Nat.le_refl _) (fun _ _ _ => rfl) ?_ ?_ ?_ ?_ (List.pairwise_singleton ..)
  · intro e he; rw [List.mem_singleton.1 he]
    exact ⟨hcl, .inr ⟨b, k, cs.toArray, T, fr, rfl, Nat.le_refl _, hm, h1, by simpa using hcl, by rw [← hcl]; simp, by simpa using h2⟩⟩
  · intro e he b' hb; rw [List.mem_singleton.1 he] at hb; exact .inl ⟨_, .head _, hb⟩
  · intro e he b' hb; rw [List.mem_singleton.1 he] at hb; cases hb
  · intro e he b' hb; rw [List.mem_singleton.1 he] at hb; cases hb

/-- An array of bytes, read as a slice. -/
theorem rd_of_arr {b m T : Nat} {bs : List UInt8} (h : (blk b [bv bs] [m] T).holds w) (hm : bs.length = m) : (rd (.slice (some ⟨b, 0, none⟩) m m) 1 bs.length m (bv bs)).holds w := by
  subst hm
  exact rd_of_blk (s := bs.length) h (by simp [rdSeg]) (by omega) (Nat.le_refl _)

theorem bin_xor8 {t : TypeId} {x y : UInt8} : Bin P .xor t (bV x) (bV y) (bV (x ^^^ y)) := bin_of rfl fun w => by
  have e : (BitVec.ofInt IntKind.u8.bits (x.toNat : Int) ^^^ BitVec.ofInt IntKind.u8.bits (y.toNat : Int)).toNat = (x ^^^ y).toNat := by
    show (BitVec.ofInt 8 (x.toNat : Int) ^^^ BitVec.ofInt 8 (y.toNat : Int)).toNat = _
    simp [BitVec.toNat_xor]
  simp only [bV, binOp, Op.intBits]
  rw [if_neg (by simp), e, wrap_u8_ofNat]; simp
/-- copy into an array's slice. -/
theorem s_copyArr {t t2 e by_ b m c T l l' : Nat} {old cs : List Value} (hE : Env a n L) (hx : ev L x = some (.slice (some ⟨b, 0, none⟩) l l')) (hy : ev L y = some u) (hM : Mem w0 M w (blk b [old] [l] T :: H))
    (hr : (rd u 1 m c cs).holds w) (h1 : One cs) (ht : SlT P t e 1 by_) (hX : ∀ X, D = some X → X b) (hn : Nat.blt d n = true)
    (k : ∀ a' w', Env a' n ((d, .int .i64 ((min m l : Nat) : Int)) :: L) → Mem w0 M w' (blk b [cs.take (min m l) ++ old.drop (min m l)] [l] T :: H) → wpL P ops D Q rest a' w') :
    wpL P ops D Q ((false, ⟨some d, .call { callee := .builtin .copy, args := #[x, y], argTypes := #[t, t2] }, ty, pos, aft, none⟩) :: rest) a w := by
  have hol : old.length = l := by have := (hM.get 0 rfl).1; simpa using this
  have hcl : cs.length = m := by have := hr.1; omega
  have htl : (cs.take (min m l)).length = min m l := by rw [List.length_take]; omega
  obtain ⟨fr, hh, hf, hle, hM'⟩ := blk_store (k := 0) (j := 0) (vs := cs.take (min m l)) (g := old) (o := 0) hM rfl (by omega) (by simp)
  have hone : One (cs.take (min m l)) := fun v hv => h1 v (List.mem_of_mem_take hv)
  have hst := run_storeCells (P := P) (o := 0) (cs.take (min m l)) 0 _ w hh (by simpa using hf) (by simpa using hle) hone
  have hfc := firstCells_rd (P := P) hr (Nat.min_le_left m l)
  have hlen := lenOf_rd (P := P) hr
  have e : wrSeg 0 0 (cs.take (min m l)) [old] = [cs.take (min m l) ++ old.drop (min m l)] := by
    show [wr 0 _ old] = _
    simp [wr, htl]
  rw [e] at hM'
  refine b_val hE hn (v := .int .i64 ((min m l : Nat) : Int)) ?_ (sta_of_setBlk hX) (fun a' hE' => k a' _ hE' hM')
  obtain ⟨hu, hs, _, _⟩ := ht
  simp only [Nat.add_zero] at hst
  simp only [Nat.mul_one] at hfc
  have hmin : Nat.min m l = min m l := rfl
  simp [execOp, resolve, invoke, builtin, hE.eval hx, hE.eval hy, Builtin.copy_, run_underlying hu, run_sizeOf hs, Sem.run_bind, hlen, hmin, hfc, hst]
  rfl

/-! ## HMAC -/

def blockW (key : List UInt8) : List UInt8 :=
  let k := if 64 < key.length then shaW key else key
  k ++ List.replicate (64 - k.length) 0
theorem blockW_length (key : List UInt8) : (blockW key).length = 64 := by
  unfold blockW
  by_cases h : 64 < key.length
  · simp [h]
  · simp [h]; omega

def padI (B : List UInt8) (x : UInt8) (i : Nat) : List UInt8 := (B.take i).map (· ^^^ x) ++ B.drop i
theorem padI_length (B : List UInt8) (x : UInt8) (i : Nat) : (padI B x i).length = B.length := by simp [padI]; omega
theorem padI_get {B : List UInt8} {x : UInt8} {i : Nat} (h : i < B.length) : (padI B x i).getD i 0 = B.getD i 0 := by
  have : ((B.take i).map (· ^^^ x)).length = i := by simp; omega
  rw [padI, List.getD, List.getElem?_append_right (Nat.le_of_eq this), this, List.getElem?_drop]
  simp
theorem padI_set {B : List UInt8} {x : UInt8} {i : Nat} (h : i < B.length) : (padI B x i).set i (B.getD i 0 ^^^ x) = padI B x (i + 1) := by
  have h1 : ((B.take i).map (· ^^^ x)).length = i := by simp; omega
  have h2 : B.drop i = B.getD i 0 :: B.drop (i + 1) := by
    rw [List.drop_eq_getElem_cons h]; simp [h]
  have h3 : B.take (i + 1) = B.take i ++ [B.getD i 0] := by
    rw [List.take_succ_eq_append_getElem h]; simp [h]
  rw [padI, List.set_append_right _ _ (by omega), h1, h2, Nat.sub_self, List.set_cons_zero, padI, h3]
  simp

def padW (key : List UInt8) (x : UInt8) : List UInt8 := (blockW key).map (· ^^^ x)
@[simp] theorem padW_length (key : List UInt8) (x : UInt8) : (padW key x).length = 64 := by simp [padW, blockW_length]
theorem padI_all (key : List UInt8) (x : UInt8) : padI (blockW key) x 64 = padW key x := by
  have := blockW_length key
  simp [padI, padW, List.take_of_length_le (Nat.le_of_eq this), List.drop_of_length_le (Nat.le_of_eq this)]

def hmacW (key msg : List UInt8) : List UInt8 := shaW (padW key 92 ++ shaW (padW key 54 ++ msg))
@[simp] theorem hmacW_length (key msg : List UInt8) : (hmacW key msg).length = 32 := by simp [hmacW]

/-- What stretching lays, one tag behind the other. -/
def strT (key b : List UInt8) : Nat → List UInt8
  | 0 => []
  | i + 1 => hmacW key (strT key b i ++ b ++ [UInt8.ofNat (i + 1)])
def strO (key b : List UInt8) : Nat → List UInt8
  | 0 => []
  | i + 1 => strO key b i ++ strT key b (i + 1)
@[simp] theorem strO_length (key b : List UInt8) : ∀ i, (strO key b i).length = 32 * i
  | 0 => rfl
  | i + 1 => by simp [strO, strO_length key b i, strT]; omega

theorem flat_succ {ps : List (List UInt8)} {i : Nat} (h : i < ps.length) : (ps.take (i + 1)).flatten = (ps.take i).flatten ++ ps.getD i [] := by
  rw [List.take_succ_eq_append_getElem h, List.flatten_append, List.flatten_singleton]; simp [List.getD, h]
theorem flat_le (ps : List (List UInt8)) (i : Nat) : (ps.take i).flatten.length ≤ ps.flatten.length := by
  have : ps.flatten = (ps.take i).flatten ++ (ps.drop i).flatten := by rw [← List.flatten_append, List.take_append_drop]
  rw [this]; simp

end Go.Kx
/- Own library, part J2: aggregates are compared; plain laws of HMAC. -/
namespace Go.Kx
open Go
variable {P : Program} {w : World}

theorem bins_aggs {t : TypeId} {cs ds : Array Value} {b : Bool} (hg : P.eqGuardType P.depth t = false) (h : ∀ d w, (Op.equalIn (d + 2) t (.agg cs) (.agg ds)).run P w = .ok b w) :
    Bin P .eql t (.agg cs) (.agg ds) (.bool b) ∧ Bin P .neq t (.agg cs) (.agg ds) (.bool (!b)) := by
  have h' : ∀ w, (Op.equal t (.agg cs) (.agg ds)).run P w = .ok b w := fun w => h 9998 w
  have hgd : ∀ (op : BinOp) x y (w : World), op = .eql ∨ op = .neq → (eqGuard op t x y (.agg cs) (.agg ds)).run P w = .ok () w := by
    intro op x y w ho
    rcases ho with rfl | rfl <;> simp [eqGuard, Sem.run_bind, run_program, Result.andThen_ok, hg]
  constructor
  · intro x y w
    have e : (binOp .eql t (.agg cs) (.agg ds)).run P w = .ok (.bool b) w := by
      show (do pure (Value.bool (← Op.equal t (.agg cs) (.agg ds))) : Sem Value).run P w = _
      rw [Sem.run_bind, h']; rfl
    rw [Sem.run_bind, hgd _ _ _ _ (.inl rfl)]; exact e
  · intro x y w
    have e : (binOp .neq t (.agg cs) (.agg ds)).run P w = .ok (.bool (!b)) w := by
      show (do pure (Value.bool (!(← Op.equal t (.agg cs) (.agg ds)))) : Sem Value).run P w = _
      rw [Sem.run_bind, h']; rfl
    rw [Sem.run_bind, hgd _ _ _ _ (.inr rfl)]; exact e

theorem bins_arr8 {t e n : Nat} {a b : List UInt8} (ht : P.underlying t = some (.array n e)) (hie : (P.info? e).isSome = true) (he : P.underlying e = some (.int .u8)) (hc : P.cellsOf e = 1) (hg : P.eqGuardType P.depth t = false) (ha : a.length = n) (hb : b.length = n) :
    Bin P .eql t (.agg (bv a).toArray) (.agg (bv b).toArray) (.bool (decide (a = b))) ∧ Bin P .neq t (.agg (bv a).toArray) (.agg (bv b).toArray) (.bool (!decide (a = b))) := by
  obtain ⟨ie, hie⟩ := Option.isSome_iff_exists.1 hie
  exact bins_aggs hg fun d w => equal_u8s ht hie he hc ha hb d

def hexD : List UInt8 := [48, 49, 50, 51, 52, 53, 54, 55, 56, 57, 97, 98, 99, 100, 101, 102]
def hexL (bs : List UInt8) : List UInt8 := bs.flatMap fun c => [hexD.getD (c.toNat / 16) 0, hexD.getD (c.toNat % 16) 0]
@[simp] theorem hexL_length (bs : List UInt8) : (hexL bs).length = 2 * bs.length := by
  induction bs with
  | nil => rfl
  | cons c r ih => simp [hexL] at ih ⊢; omega

section
variable {ops : Array Oper} {D : Option (Nat → Prop)} {Q : Exit → Act → World → Prop} {a : Act} {n : Nat} {L : List (Nat × Value)} {rest : List (Bool × Oper)} {d : Nat} {ty : TypeId} {pos : String} {aft : Array Edge} {x y : Operand}
end

end Go.Kx
