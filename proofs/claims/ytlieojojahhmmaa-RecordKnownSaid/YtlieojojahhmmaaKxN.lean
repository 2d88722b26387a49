/- Own library, part N: rows that list a table of words. -/
import Derived.Test.YtlieojojahhmmaaKxJ2
import Derived.Test.YtlieojojahhmmaaKxR
import Derived.LaidMore
import Derived.MakeChecks
import Derived.Lay
import Derived.Lib.LaidTab
import Derived.Stop.Joined
set_option linter.unusedSimpArgs false
set_option linter.unusedVariables false
namespace Go.Kx
open Go
open Go.ChangeShapes Go.WideShapes Go.ChangeAt Go.RowKit
variable {P : Program} {W : World}

def saltsZ : List Int := saltsW.map fun x => (x.toNat : Int)

theorem glb_of_laid {name : String} {d : DataW Unit} {rest : List (String × DataW Unit)} {g t e : Nat} (hg : P.globalNamed name = some g) (hty : (P.globals[g]?).map (·.type) = some t) (ht : P.underlying t = some (.array 64 e)) (he : P.underlying e = some (.int .u32))
    (hce : P.cellsOf e = 1) (hct : P.cellsOf t = 64) (hd : d = Lib.tabData .u32 saltsZ) (h : laidMet P ((name, d) :: rest) W) : (glb g).holds W := by
  subst hd
  have hT := Lib.tabIs_of_head hg hty ht he hce hct h
  have h0 := hT.cell hg 0 (by decide)
  refine ⟨g, 0, rfl, World.block_lt_of_cell? W _ h0, fun i x hx => ?_⟩
  have hi : i < saltsW.length := by
    have := (List.getElem?_eq_some_iff.1 hx).1
    simpa using this
  have hc := hT.cell hg i (by simpa [saltsZ] using hi)
  rw [Nat.zero_add, hc]
  rw [wd_get hi] at hx
  rw [← hx]
  simp [saltsZ, wV, List.getD, hi]

/-- A law that lists variables, whose walk returns true, and turns nothing that was there. -/
theorem law_liftedL {C : Checked} {os : Os} {f : FuncId} {fn : Func} {s : ChangeSpec} {tb : TypeId} {H : Type} {enc : TypeId × Value → H} {l : List (String × DataW Unit)}
    (own : ownKnob C.prog.godebug = none) (started : os.Started) (noInit : C.prog.inits.idxOf? f = none) (hfn : C.prog.funcs[f]? = some fn) (hvars : s.vars = [])
    (hspec : ∀ ds : List (DataW H), ds.length = fn.params.toList.length → s.fn H ds = { results := [.lit (.bool true)], args := ds }) (hres : fn.resultTypes = #[tb]) (htb : C.prog.underlying tb = some .bool)
    (hl : laidOutB C.prog = true) (hts : ∀ t, t ∈ fn.params.toList → C.prog.readableRec t = true ∧ t < C.prog.types.size)
    (hplain : (l.all fun x => x.2.handleName?.isNone) = true)
    (witness : ∃ (w : World) (tape : Tape) (i : Input), w.os = os ∧ (w.forCall tape i).Shaped C.prog ∧ i.vars = [] ∧ Input.okWide C.prog (w.forCall tape i) .any w.heap.size f i ∧
      ((s.pre enc C.prog fn [] false (w.forCall tape i).memory i.args ∧ laidMetH C.prog l (w.forCall tape i).memory) ∧ sizedMet enc C.prog fn (OpenSpec.ofChange s) false (w.forCall tape i).memory i.args) ∧ Assume.holds {} C.prog (lone (Frame.enter C.prog f i.args .normal) [] (w.forCall tape i)))
    (walk : ∀ (W : World) (base : Nat) (args : Array Value) (ds : List (DataW H)) (ps : List MemPlace), (∀ (j : Nat) t v, fn.params[j]? = some t → args[j]? = some v → Value.okWide C.prog W .any base t v) →
      DataW.TrodAll enc C.prog W 0 (fun _ => true) true fn.params.toList args.toList ds ps → (∀ m, m ∈ DataW.weightsEach C.prog fn.params.toList ds → m ≤ reachBytes) → laidMet C.prog l W →
      Calls C.prog f args W fun e W' => e = .returned (.bool true) ∧ Mem W [] W' []) :
    ReturnsInHanded {} C os f .any (fun w args => (s.pre enc C.prog fn [] false w args ∧ laidMetH C.prog l w) ∧ sizedMet enc C.prog fn (OpenSpec.ofChange s) false w args) (s.post enc C.prog fn false true false false) := by
  refine returnsInHanded_of_change_and (C := C) (X := fun w _ => laidMetH C.prog l w) (fun _ _ _ hh h => h.of_heap hh) own started noInit hfn witness ?_
  intro W base args ds gs before hval hW _ hsz hL _
  rw [MakeChecks.laidMetH_plain _ _ _ hplain] at hL
  have hW' := hW
  obtain ⟨p, q, hA, hV, rfl, hfz, hnd⟩ := hW
  rw [hvars] at hV
  obtain ⟨rfl, rfl⟩ := trodVars_none hV
  have hvt : s.plain.varTypes C.prog = [] := by simp [ChangeSpec.plain, DataSpec.varTypes, hvars]
  rw [hvt, List.append_nil, List.append_nil, List.all_eq_true] at hsz
  refine (walk W base args ds p hval hA (fun m hm => by simpa using hsz m hm) hL).mono ?_
  rintro e W' ⟨rfl, hM⟩
  have hb := hM.below
  have hs := hspec ds (trodAll_len hA)
  refine ⟨_, rfl, ds, [], _, [], p, [], hW', ?_, ?_, ?_, hb.frame _, fun h => by cases h⟩
  · rw [List.append_nil, hs, hres]
    exact trodAll_mk1 (shut_bool htb _)
  · rw [List.append_nil, hs]
    exact trodAll_below hl hb _ hts _ _ _ hA
  · rw [hvars, List.append_nil, hs]; rfl

theorem okWide_arr {r : _} {base n e : Nat} {t : TypeId} {v : Value} (ht : P.underlying t = some (.array n e)) (h : Value.okWide P W r base t v) : ∃ cs, v = .agg cs := by
  simp only [Value.okWide, ht] at h
  obtain ⟨cs, h1, h2, _⟩ := h
  exact ⟨cs, h1⟩

/-- An array of bytes that comes in. -/
theorem arg_arr8 {H : Type} {enc : TypeId × Value → H} {t e n base : Nat} {v : Value} {d : DataW H} {ps : List MemPlace} (hu : P.underlying t = some (.array n e)) (hue : P.underlying e = some (.int .u8)) (hes : P.cellsOf e = 1) (hts : P.cellsOf t = n * 1)
    (hval : Value.okWide P W .any base t v) (h : DataW.Trod enc P W 0 (fun _ => true) true t v d ps) (hw : ∀ m, m ∈ d.weights P t → m ≤ reachBytes) : ∃ bs : List UInt8, v = .agg (bv bs).toArray ∧ bs.length = n := by
  obtain ⟨cs, rfl⟩ := okWide_arr hu hval
  obtain ⟨hl, hR⟩ := trod_of (dec_array hu hes hts (dec_int hue)) h hw
  obtain ⟨bs, hb, hn⟩ := bytes_of hl hR
  exact ⟨bs, by rw [agg_of hb], hn⟩


/-- An array of numbers that comes in. -/
theorem arg_arrN {H : Type} {enc : TypeId × Value → H} {t e n base : Nat} {k : IntKind} {v : Value} {d : DataW H} {ps : List MemPlace} (hu : P.underlying t = some (.array n e)) (hue : P.underlying e = some (.int k)) (hes : P.cellsOf e = 1) (hts : P.cellsOf t = n * 1) (hk : k.min = 0)
    (hval : Value.okWide P W .any base t v) (h : DataW.Trod enc P W 0 (fun _ => true) true t v d ps) (hw : ∀ m, m ∈ d.weights P t → m ≤ reachBytes) :
    ∃ ns : List Nat, v = .agg (ns.map fun (m : Nat) => Value.int k (m : Int)).toArray ∧ ns.length = n ∧ ∀ m, m ∈ ns → (m : Int) ≤ k.max := by
  obtain ⟨cs, rfl⟩ := okWide_arr hu hval
  obtain ⟨hl, hR⟩ := trod_of (dec_array hu hes hts (dec_int hue)) h hw
  have key : ∀ (n : Nat) (l : List Value), l.length = n * 1 → (∀ i, i < n → ∃ z, (l.drop (i * 1)).take 1 = [.int k z] ∧ k.min ≤ z ∧ z ≤ k.max) → ∃ ns : List Nat, l = (ns.map fun (m : Nat) => Value.int k (m : Int)) ∧ ns.length = n ∧ ∀ m, m ∈ ns → (m : Int) ≤ k.max := by
    intro n
    induction n with
    | zero => intro l hl _; exact ⟨[], by simpa using List.eq_nil_of_length_eq_zero (by simpa using hl), rfl, by simp⟩
    | succ n ih =>
      intro l hl h
      cases l with
      | nil => simp at hl
      | cons a r =>
        obtain ⟨z, hz, h1, h2⟩ := h 0 (by omega)
        simp at hz
        subst hz
        obtain ⟨ns, rfl, hn, hb⟩ := ih r (by simp at hl ⊢; omega) (fun i hi => by
          obtain ⟨z, hz, h3⟩ := h (i + 1) (by omega)
          refine ⟨z, ?_, h3⟩
          simpa using hz)
        rw [hk] at h1
        refine ⟨z.toNat :: ns, ?_, by simp [hn], fun m hm => ?_⟩
        · simp; omega
        · rcases List.mem_cons.1 hm with rfl | hm
          · omega
          · exact hb m hm
  obtain ⟨ns, hb, hn, hm⟩ := key n _ hl hR
  exact ⟨ns, by rw [agg_of hb], hn, hm⟩

theorem len4 {ns : List Nat} (h : ns.length = 4) : ∃ a b c d, ns = [a, b, c, d] := by
  match ns, h with
  | [a, b, c, d], _ => exact ⟨a, b, c, d, rfl⟩

end Go.Kx
