/- Own library, part L: what a law's arguments read as; from the walk of a law to its row. -/
import Derived.Test.YtamjaacddbecaaaKxP
import Derived.ProofKit
import Derived.OpenShut
import Derived.ShutString
import Derived.ChangeOld
import Derived.SizedLaws
set_option linter.unusedSimpArgs false
set_option linter.unusedVariables false
namespace Go.Kx
open Go
open Go.ChangeShapes Go.WideShapes Go.ChangeAt Go.RowKit
variable {P : Program} {W : World}

/-- What cells of type t that read as data are. -/
def Dec (P : Program) (W : World) (t : TypeId) (R : List Value → Prop) : Prop :=
  ∀ (H : Type) (enc : TypeId × Value → H) (fuel : Nat) (cs : List Value) (x : DataW H × List MemPlace),
    DataW.trod enc P W 0 (fun _ => true) true fuel t cs = some x → (∀ m, m ∈ x.1.weights P t → m ≤ reachBytes) → R cs

theorem Dec.mono {t : TypeId} {R R' : List Value → Prop} (h : Dec P W t R) (hr : ∀ cs, R cs → R' cs) : Dec P W t R' := fun H enc fuel cs x hx hw => hr _ (h H enc fuel cs x hx hw)

theorem dec_int {t : TypeId} {k : IntKind} (hu : P.underlying t = some (.int k)) : Dec P W t (fun cs => ∃ i, cs = [.int k i] ∧ k.min ≤ i ∧ i ≤ k.max) := fun H enc fuel cs x hx _ => by
  obtain ⟨i, rfl, _, hw⟩ := DataW.trod_int hu hx
  simp [Lit.wf] at hw
  exact ⟨i, rfl, hw⟩

theorem dec_bool {t : TypeId} (hu : P.underlying t = some .bool) : Dec P W t (fun cs => ∃ b, cs = [.bool b]) := fun H enc fuel cs x hx _ => by
  cases fuel with
  | zero => simp [DataW.trod] at hx
  | succ n =>
    unfold DataW.trod at hx
    rw [hu] at hx
    split at hx <;> simp_all

theorem weightsAll_mem {H : Type} {e : TypeId} : ∀ {ds : List (DataW H)} {d : DataW H} {m : Nat}, d ∈ ds → m ∈ d.weights P e → m ∈ DataW.weightsAll P e ds
  | d' :: ds, d, m, hd, hm => by
    simp only [DataW.weightsAll, List.mem_append]
    rcases List.mem_cons.1 hd with rfl | hd
    · exact .inl hm
    · exact .inr (weightsAll_mem hd hm)

theorem dec_array {t e n es : Nat} {R : List Value → Prop} (hu : P.underlying t = some (.array n e)) (hes : P.cellsOf e = es) (hts : P.cellsOf t = n * es) (he : Dec P W e R) :
    Dec P W t (fun cs => cs.length = n * es ∧ ∀ i, i < n → R ((cs.drop (i * es)).take es)) := fun H enc fuel cs x hx hw => by
  obtain ⟨xs, m, rfl, rfl, hl, hxl, hel⟩ := DataW.trod_array hu hx
  refine ⟨hl.trans hts, fun i hi => ?_⟩
  have h := hel i hi
  rw [hes] at h
  have hlt : i < xs.length := by omega
  rw [List.getElem?_eq_getElem hlt] at h
  refine he H enc m _ _ h fun y hy => hw y ?_
  simp only [DataW.weights, hu]
  exact weightsAll_mem (List.mem_map_of_mem (f := (·.1)) (List.getElem_mem hlt)) hy

theorem dec_struct {t s : Nat} {fs : Array Field} {R : Nat → List Value → Prop} (hu : P.underlying t = some (.struct fs)) (hs : P.cellsOf t = s) (he : ∀ i f, fs[i]? = some f → Dec P W f.type (R i)) :
    Dec P W t (fun cs => cs.length = s ∧ ∀ i f, fs[i]? = some f → R i ((cs.drop f.offset).take (P.cellsOf f.type))) := fun H enc fuel cs x hx hw => by
  obtain ⟨xs, m, rfl, rfl, hl, hxl, hel⟩ := DataW.trod_struct hu hx
  refine ⟨hl.trans hs, fun i f hf => ?_⟩
  have h := hel i f hf
  have hlt : i < xs.length := by rw [hxl]; exact (Array.getElem?_eq_some_iff.1 hf).1
  rw [List.getElem?_eq_getElem hlt] at h
  refine he i f hf H enc m _ _ h fun y hy => hw y ?_
  simp only [DataW.weights, hu]
  refine DataW.weights_mem_each (j := i) (t := f.type) (d := (xs[i]).1) ?_ ?_ y hy
  · rw [List.getElem?_map, Array.getElem?_toList, hf]; rfl
  · rw [List.getElem?_map, List.getElem?_eq_getElem hlt]; rfl

/-! ## From the walk to the row -/

theorem trod_of {H : Type} {enc : TypeId × Value → H} {t : TypeId} {v : Value} {d : DataW H} {ps : List MemPlace} {R : List Value → Prop} (hd : Dec P W t R) (h : DataW.Trod enc P W 0 (fun _ => true) true t v d ps) (hw : ∀ m, m ∈ d.weights P t → m ≤ reachBytes) : R v.cells.toList := by
  obtain ⟨fuel, hf⟩ := h
  exact hd H enc fuel _ _ hf hw

theorem Mem.below {w w' : World} {Hs : List Ent} (h : Mem w [] w' Hs) : Below w.heap.size w w' :=
  ⟨h.os, h.tape, h.output, h.size, fun k hk => h.frame k hk (by simp)⟩

theorem trodAll_below {H : Type} {enc : TypeId × Value → H} (hl : laidOutB P = true) {W W' : World} (hb : Below W.heap.size W W') : ∀ (ts : List TypeId), (∀ t, t ∈ ts → P.readableRec t = true ∧ t < P.types.size) → ∀ (vs : List Value) (ds : List (DataW H)) (ps : List MemPlace),
    DataW.TrodAll enc P W 0 (fun _ => true) true ts vs ds ps → DataW.TrodAll enc P W' 0 (fun b => decide (b < W.heap.size)) true ts vs ds ps
  | [], _, vs, ds, ps, h => by
    obtain ⟨rfl, rfl, rfl⟩ := trodAll_nil h
    exact rfl
  | t :: ts, ht, vs, ds, ps, h => by
    obtain ⟨v, vs', d, ds', p, q, rfl, rfl, rfl, h1, h2⟩ := trodAll_cons h
    have h1' := h1
    obtain ⟨m, hm⟩ := h1'
    exact trodAll_cons_mk (Below.trod hl (ht t (List.mem_cons_self ..)).1 (ht t (List.mem_cons_self ..)).2 h1 hb (fun x hx => DataW.trod_lt m _ _ _ hm x hx))
      (trodAll_below hl hb ts (fun t' ht' => ht t' (List.mem_cons_of_mem _ ht')) vs' ds' q h2)

theorem trodAll_len {H : Type} {enc : TypeId × Value → H} {W : World} : ∀ {ts : List TypeId} {vs : List Value} {ds : List (DataW H)} {ps : List MemPlace}, DataW.TrodAll enc P W 0 (fun _ => true) true ts vs ds ps → ds.length = ts.length
  | [], vs, ds, ps, h => by obtain ⟨rfl, rfl, rfl⟩ := trodAll_nil h; rfl
  | t :: ts, vs, ds, ps, h => by
    obtain ⟨v, vs', d, ds', p, q, rfl, rfl, rfl, h1, h2⟩ := trodAll_cons h
    simp [trodAll_len h2]

/-- A law whose walk returns true, and turns nothing that was there. -/
theorem law_lifted {C : Checked} {os : Os} {f : FuncId} {fn : Func} {s : ChangeSpec} {tb : TypeId} {H : Type} {enc : TypeId × Value → H}
    (own : ownKnob C.prog.godebug = none) (started : os.Started) (noInit : C.prog.inits.idxOf? f = none) (hfn : C.prog.funcs[f]? = some fn) (hvars : s.vars = [])
    (hspec : ∀ ds : List (DataW H), ds.length = fn.params.toList.length → s.fn H ds = { results := [.lit (.bool true)], args := ds }) (hres : fn.resultTypes = #[tb]) (htb : C.prog.underlying tb = some .bool)
    (hl : laidOutB C.prog = true) (hts : ∀ t, t ∈ fn.params.toList → C.prog.readableRec t = true ∧ t < C.prog.types.size)
    (witness : ∃ (w : World) (tape : Tape) (i : Input), w.os = os ∧ (w.forCall tape i).Shaped C.prog ∧ i.vars = [] ∧ Input.okWide C.prog (w.forCall tape i) .any w.heap.size f i ∧
      s.pre6 enc C.prog fn [] false (w.forCall tape i).memory i.args ∧ Assume.holds {} C.prog (lone (Frame.enter C.prog f i.args .normal) [] (w.forCall tape i)))
    (walk : ∀ (W : World) (base : Nat) (args : Array Value) (ds : List (DataW H)) (ps : List MemPlace), (∀ (j : Nat) t v, fn.params[j]? = some t → args[j]? = some v → Value.okWide C.prog W .any base t v) →
      DataW.TrodAll enc C.prog W 0 (fun _ => true) true fn.params.toList args.toList ds ps → (∀ m, m ∈ DataW.weightsEach C.prog fn.params.toList ds → m ≤ reachBytes) →
      Calls C.prog f args W fun e W' => e = .returned (.bool true) ∧ Mem W [] W' []) :
    ReturnsInHanded {} C os f .any (s.pre6 enc C.prog fn [] false) (s.post enc C.prog fn false true false false) := by
  refine returnsInHanded_of_change_sized own started noInit hfn witness ?_
  intro W base args ds gs before hval hW _ hsz _
  have hW' := hW
  obtain ⟨p, q, hA, hV, rfl, hfz, hnd⟩ := hW
  rw [hvars] at hV
  obtain ⟨rfl, rfl⟩ := trodVars_none hV
  have hvt : s.plain.varTypes C.prog = [] := by simp [ChangeSpec.plain, DataSpec.varTypes, hvars]
  rw [hvt, List.append_nil, List.append_nil, List.all_eq_true] at hsz
  refine (walk W base args ds p hval hA (fun m hm => by simpa using hsz m hm)).mono ?_
  rintro e W' ⟨rfl, hM⟩
  have hb := hM.below
  have hs := hspec ds (trodAll_len hA)
  refine ⟨_, rfl, ds, [], _, [], p, [], hW', ?_, ?_, ?_, hb.frame _, fun h => by cases h⟩
  · rw [List.append_nil, hs, hres]
    exact trodAll_mk1 (shut_bool htb _)
  · rw [List.append_nil, hs]
    exact trodAll_below hl hb _ hts _ _ _ hA
  · rw [hvars, List.append_nil, hs]; rfl

end Go.Kx
