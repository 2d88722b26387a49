/- Own library, part L: what a law's arguments read as; from the walk of a law to its row. -/
import Derived.Test.YtamjaacddbecaaaKxP
import Derived.ProofKit
import Derived.OpenShut
import Derived.ShutString
import Derived.ChangeOld
import Derived.SizedLaws
set_option linter.unusedSimpArgs false
set_option linter.unusedVariables false
namespace Go.Kx
open Go
open Go.ChangeShapes Go.WideShapes Go.ChangeAt Go.RowKit
variable {P : Program} {W : World}

/-- What cells of type t that read as data are. -/
def Dec (P : Program) (W : World) (t : TypeId) (R : List Value → Prop) : Prop :=
  ∀ (H : Type) (enc : TypeId × Value → H) (fuel : Nat) (cs : List Value) (x : DataW H × List MemPlace),
    DataW.trod enc P W 0 (fun _ => true) true fuel t cs = some x → (∀ m, m ∈ x.1.weights P t → m ≤ reachBytes) → R cs

theorem Dec.mono {t : TypeId} {R R' : List Value → Prop} (h : Dec P W t R) (hr : ∀ cs, R cs → R' cs) : Dec P W t R' := fun H enc fuel cs x hx hw => hr _ (h H enc fuel cs x hx hw)

theorem dec_int {t : TypeId} {k : IntKind} (hu : P.underlying t = some (.int k)) : Dec P W t (fun cs => ∃ i, cs = [.int k i] ∧ k.min ≤ i ∧ i ≤ k.max) := fun H enc fuel cs x hx _ => by
  obtain ⟨i, rfl, _, hw⟩ := DataW.trod_int hu hx
  simp [Lit.wf] at hw
  exact ⟨i, rfl, hw⟩

theorem weightsAll_mem {H : Type} {e : TypeId} : ∀ {ds : List (DataW H)} {d : DataW H} {m : Nat}, d ∈ ds → m ∈ d.weights P e → m ∈ DataW.weightsAll P e ds
  | d' :: ds, d, m, hd, hm => by
    simp only [DataW.weightsAll, List.mem_append]
    rcases List.mem_cons.1 hd with rfl | hd
    · exact .inl hm
    · exact .inr (weightsAll_mem hd hm)

theorem dec_array {t e n es : Nat} {R : List Value → Prop} (hu : P.underlying t = some (.array n e)) (hes : P.cellsOf e = es) (hts : P.cellsOf t = n * es) (he : Dec P W e R) :
    Dec P W t (fun cs => cs.length = n * es ∧ ∀ i, i < n → R ((cs.drop (i * es)).take es)) := fun H enc fuel cs x hx hw => by
  obtain ⟨xs, m, rfl, rfl, hl, hxl, hel⟩ := DataW.trod_array hu hx
  refine ⟨hl.trans hts, fun i hi => ?_⟩
  have h := hel i hi
  rw [hes] at h
  have hlt : i < xs.length := by omega
  rw [List.getElem?_eq_getElem hlt] at h
  refine he H enc m _ _ h fun y hy => hw y ?_
  simp only [DataW.weights, hu]
  exact weightsAll_mem (List.mem_map_of_mem (f := (·.1)) (List.getElem_mem hlt)) hy

theorem cells?_spec {base : Nat} {a : Addr} {n : Nat} {l : List Value} (h : W.cells? base a n = some l) : l.length = n ∧ ∀ i, i < n → W.cell? (a.add i) = l[i]? := by
  unfold World.cells? at h
  split at h
  · have key : ∀ (l : List Nat) (r : List Value), l.mapM (fun i => W.cell? (a.add i)) = some r → r.length = l.length ∧ ∀ (j k : Nat), l[j]? = some k → W.cell? (a.add k) = r[j]? := by
      intro l
      induction l with
      | nil => intro r hr; simp at hr; subst hr; simp
      | cons k l ih =>
        intro r hr
        rw [List.mapM_cons] at hr
        cases hk : W.cell? (a.add k) with
        | none => rw [hk] at hr; cases hr
        | some v =>
          rw [hk] at hr
          cases hm : l.mapM (fun i => W.cell? (a.add i)) with
          | none => rw [hm] at hr; cases hr
          | some r' =>
            rw [hm] at hr
            simp at hr
            subst hr
            obtain ⟨h1, h2⟩ := ih r' hm
            refine ⟨by simp [h1], fun j k' hj => ?_⟩
            cases j with
            | zero => simp at hj; subst hj; simpa using hk
            | succ j => simp at hj; simpa using h2 j k' hj
    obtain ⟨h1, h2⟩ := key _ _ h
    refine ⟨by simpa using h1, fun i hi => h2 i i (by simp [hi])⟩
  · cases h

/-- Cells that read as a slice. -/
theorem dec_slice {t e es by_ : Nat} {R : List Value → Prop} (hu : P.underlying t = some (.slice e)) (hes : P.cellsOf e = es) (hby : P.bytesOf e = by_) (h0 : 0 < es) (he : Dec P W e R) :
    Dec P W t (fun cs => ∃ v n c l, cs = [v] ∧ (rd v es n c l).holds W ∧ (∀ i, i < n → R ((l.drop (i * es)).take es)) ∧ n * by_ ≤ reachBytes) := fun H enc fuel cs x hx hw => by
  rcases DataW.trod_slice hu hx with ⟨rfl, _⟩ | ⟨a, len, cap, elems, rst, m, rfl, rfl, rfl, hb, hlc, hcm, rfl, hel, hrest, _⟩
  · exact ⟨_, 0, 0, [], rfl, ⟨by simp, .inl ⟨_, rfl, rfl, rfl⟩⟩, fun i hi => by omega, by simp⟩
  · have hcell : ∀ i, i < elems.length → ∃ ci, W.cells? 0 (a.add (i * es)) es = some ci ∧ R ci := by
      intro i hi
      have h := hel i hi
      rw [hes] at h
      rw [List.getElem?_eq_getElem hi] at h
      cases hc : W.cells? 0 (a.add (i * es)) es with
      | none => rw [hc] at h; cases h
      | some ci =>
        rw [hc] at h
        refine ⟨ci, rfl, he H enc m _ _ h fun y hy => hw y ?_⟩
        simp only [DataW.weights, hu, List.mem_cons, List.mem_append]
        exact .inr (.inl (weightsAll_mem (List.mem_map_of_mem (f := (·.1)) (List.getElem_mem hi)) hy))
    have hsize : elems.length * by_ ≤ reachBytes := by
      have := hw ((elems.length + rst.length) * by_) (by simp [DataW.weights, hu, hby])
      exact Nat.le_trans (Nat.mul_le_mul_right _ (by omega)) this
    by_cases hcap : cap = 0
    · subst hcap
      have hl0 : elems.length = 0 := by omega
      refine ⟨_, 0, 0, [], by rw [hl0], ⟨by simp, .inl ⟨_, rfl, rfl, rfl⟩⟩, fun i hi => by omega, by simp⟩
    · -- the first cell is there
      have hfirst : ∃ u, W.cell? a = some u := by
        by_cases hl0 : elems.length = 0
        · obtain ⟨hr1, hr2⟩ := hrest rfl
          have h := hr2 0 (by omega)
          rw [hes] at h
          rw [List.getElem?_eq_getElem (by omega)] at h
          cases hc : W.cells? 0 (a.add ((elems.length + 0) * es)) es with
          | none => rw [hc] at h; cases h
          | some ci =>
            obtain ⟨c1, c2⟩ := cells?_spec hc
            have := c2 0 h0
            rw [hl0] at this
            simp [Addr.add] at this
            rw [List.getElem?_eq_getElem (by omega)] at this
            exact ⟨_, this⟩
        · obtain ⟨ci, hc, _⟩ := hcell 0 (by omega)
          obtain ⟨c1, c2⟩ := cells?_spec hc
          have := c2 0 h0
          simp [Addr.add] at this
          rw [List.getElem?_eq_getElem (by omega)] at this
          exact ⟨_, this⟩
      obtain ⟨u, hu0⟩ := hfirst
      obtain ⟨b, o, sp⟩ := a
      obtain rfl : sp = none := by simpa using World.cell?_spot hu0
      have hlt := World.block_lt_of_cell? W _ hu0
      have hat : ∀ i r, i < elems.length → r < es → ∀ ci, W.cells? 0 ((⟨b, o, none⟩ : Addr).add (i * es)) es = some ci → W.cell? ⟨b, o + (i * es + r), none⟩ = ci[r]? := by
        intro i r hi hr ci hc
        have := (cells?_spec hc).2 r hr
        rw [Addr.add_mid, Addr.add_mid] at this
        rwa [Nat.add_assoc] at this
      have hall : ∀ j, j < elems.length * es → ∃ v, W.cell? ⟨b, o + j, none⟩ = some v := by
        intro j hj
        have hi : j / es < elems.length := Nat.div_lt_of_lt_mul (by rwa [Nat.mul_comm])
        have hr : j % es < es := Nat.mod_lt _ h0
        obtain ⟨ci, hc, _⟩ := hcell (j / es) hi
        have := hat (j / es) (j % es) hi hr ci hc
        rw [show j / es * es + j % es = j from by rw [Nat.mul_comm]; exact Nat.div_add_mod j es] at this
        rw [List.getElem?_eq_getElem (by rw [(cells?_spec hc).1]; exact hr)] at this
        exact ⟨_, this⟩
      let l : List Value := (List.range (elems.length * es)).map fun j => (W.cell? ⟨b, o + j, none⟩).getD undef
      have hl : ∀ j, j < elems.length * es → W.cell? ⟨b, o + j, none⟩ = l[j]? := by
        intro j hj
        obtain ⟨v, hv⟩ := hall j hj
        simp [l, hj, hv]
      refine ⟨_, elems.length, cap, l, rfl, ⟨by simp [l], .inr ⟨b, o, rfl, hlc, hlt, fun i x hx => ?_⟩⟩, fun i hi => ?_, hsize⟩
      · have hi : i < elems.length * es := by have := (List.getElem?_eq_some_iff.1 hx).1; simpa [l] using this
        rw [hl i hi]; exact hx
      · obtain ⟨ci, hc, hR⟩ := hcell i hi
        have e : (l.drop (i * es)).take es = ci := by
          apply List.ext_getElem?
          intro r
          by_cases hr : r < es
          · rw [List.getElem?_take, if_pos hr, List.getElem?_drop, ← hat i r hi hr ci hc, hl]
            have : (i + 1) * es ≤ elems.length * es := Nat.mul_le_mul_right _ hi
            rw [Nat.add_mul] at this; omega
          · rw [List.getElem?_eq_none (by simp; omega), List.getElem?_eq_none (by rw [(cells?_spec hc).1]; omega)]
        rw [e]; exact hR

/-! ## From the walk to the row -/

theorem trod_of {H : Type} {enc : TypeId × Value → H} {t : TypeId} {v : Value} {d : DataW H} {ps : List MemPlace} {R : List Value → Prop} (hd : Dec P W t R) (h : DataW.Trod enc P W 0 (fun _ => true) true t v d ps) (hw : ∀ m, m ∈ d.weights P t → m ≤ reachBytes) : R v.cells.toList := by
  obtain ⟨fuel, hf⟩ := h
  exact hd H enc fuel _ _ hf hw

theorem Mem.below {w w' : World} {Hs : List Ent} (h : Mem w [] w' Hs) : Below w.heap.size w w' :=
  ⟨h.os, h.tape, h.output, h.size, fun k hk => h.frame k hk (by simp)⟩

theorem trodAll_below {H : Type} {enc : TypeId × Value → H} (hl : laidOutB P = true) {W W' : World} (hb : Below W.heap.size W W') : ∀ (ts : List TypeId), (∀ t, t ∈ ts → P.readableRec t = true ∧ t < P.types.size) → ∀ (vs : List Value) (ds : List (DataW H)) (ps : List MemPlace),
    DataW.TrodAll enc P W 0 (fun _ => true) true ts vs ds ps → DataW.TrodAll enc P W' 0 (fun b => decide (b < W.heap.size)) true ts vs ds ps
  | [], _, vs, ds, ps, h => by
    obtain ⟨rfl, rfl, rfl⟩ := trodAll_nil h
    exact rfl
  | t :: ts, ht, vs, ds, ps, h => by
    obtain ⟨v, vs', d, ds', p, q, rfl, rfl, rfl, h1, h2⟩ := trodAll_cons h
    have h1' := h1
    obtain ⟨m, hm⟩ := h1'
    exact trodAll_cons_mk (Below.trod hl (ht t (List.mem_cons_self ..)).1 (ht t (List.mem_cons_self ..)).2 h1 hb (fun x hx => DataW.trod_lt m _ _ _ hm x hx))
      (trodAll_below hl hb ts (fun t' ht' => ht t' (List.mem_cons_of_mem _ ht')) vs' ds' q h2)

theorem trodAll_len {H : Type} {enc : TypeId × Value → H} {W : World} : ∀ {ts : List TypeId} {vs : List Value} {ds : List (DataW H)} {ps : List MemPlace}, DataW.TrodAll enc P W 0 (fun _ => true) true ts vs ds ps → ds.length = ts.length
  | [], vs, ds, ps, h => by obtain ⟨rfl, rfl, rfl⟩ := trodAll_nil h; rfl
  | t :: ts, vs, ds, ps, h => by
    obtain ⟨v, vs', d, ds', p, q, rfl, rfl, rfl, h1, h2⟩ := trodAll_cons h
    simp [trodAll_len h2]

/-- A law whose walk returns true, and turns nothing that was there. -/
theorem law_lifted {C : Checked} {os : Os} {f : FuncId} {fn : Func} {s : ChangeSpec} {tb : TypeId} {H : Type} {enc : TypeId × Value → H}
    (own : ownKnob C.prog.godebug = none) (started : os.Started) (noInit : C.prog.inits.idxOf? f = none) (hfn : C.prog.funcs[f]? = some fn) (hvars : s.vars = [])
    (hspec : ∀ ds : List (DataW H), ds.length = fn.params.toList.length → s.fn H ds = { results := [.lit (.bool true)], args := ds }) (hres : fn.resultTypes = #[tb]) (htb : C.prog.underlying tb = some .bool)
    (hl : laidOutB C.prog = true) (hts : ∀ t, t ∈ fn.params.toList → C.prog.readableRec t = true ∧ t < C.prog.types.size)
    (witness : ∃ (w : World) (tape : Tape) (i : Input), w.os = os ∧ (w.forCall tape i).Shaped C.prog ∧ i.vars = [] ∧ Input.okWide C.prog (w.forCall tape i) .any w.heap.size f i ∧
      s.pre6 enc C.prog fn [] false (w.forCall tape i).memory i.args ∧ Assume.holds {} C.prog (lone (Frame.enter C.prog f i.args .normal) [] (w.forCall tape i)))
    (walk : ∀ (W : World) (base : Nat) (args : Array Value) (ds : List (DataW H)) (ps : List MemPlace), (∀ (j : Nat) t v, fn.params[j]? = some t → args[j]? = some v → Value.okWide C.prog W .any base t v) →
      DataW.TrodAll enc C.prog W 0 (fun _ => true) true fn.params.toList args.toList ds ps → (∀ m, m ∈ DataW.weightsEach C.prog fn.params.toList ds → m ≤ reachBytes) →
      Calls C.prog f args W fun e W' => e = .returned (.bool true) ∧ Mem W [] W' []) :
    ReturnsInHanded {} C os f .any (s.pre6 enc C.prog fn [] false) (s.post enc C.prog fn false true false false) := by
  refine returnsInHanded_of_change_sized own started noInit hfn witness ?_
  intro W base args ds gs before hval hW _ hsz _
  have hW' := hW
  obtain ⟨p, q, hA, hV, rfl, hfz, hnd⟩ := hW
  rw [hvars] at hV
  obtain ⟨rfl, rfl⟩ := trodVars_none hV
  have hvt : s.plain.varTypes C.prog = [] := by simp [ChangeSpec.plain, DataSpec.varTypes, hvars]
  rw [hvt, List.append_nil, List.append_nil, List.all_eq_true] at hsz
  refine (walk W base args ds p hval hA (fun m hm => by simpa using hsz m hm)).mono ?_
  rintro e W' ⟨rfl, hM⟩
  have hb := hM.below
  have hs := hspec ds (trodAll_len hA)
  refine ⟨_, rfl, ds, [], _, [], p, [], hW', ?_, ?_, ?_, hb.frame _, fun h => by cases h⟩
  · rw [List.append_nil, hs, hres]
    exact trodAll_mk1 (shut_bool htb _)
  · rw [List.append_nil, hs]
    exact trodAll_below hl hb _ hts _ _ _ hA
  · rw [hvars, List.append_nil, hs]; rfl

end Go.Kx
