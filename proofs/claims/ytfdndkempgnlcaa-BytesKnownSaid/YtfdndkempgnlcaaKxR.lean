/- Own library, part R: what comes in as an argument of a law. -/
import Derived.Test.YtfdndkempgnlcaaKxL
import Derived.Test.YtfdndkempgnlcaaKxQ
namespace Go.Kx
open Go
open Go.ChangeShapes Go.WideShapes Go.ChangeAt Go.RowKit
variable {P : Program} {W : World} {H : Type} {enc : TypeId × Value → H}

theorem bytes_of {l : List Value} {n : Nat} (hl : l.length = n * 1) (h : ∀ i, i < n → ∃ z, (l.drop (i * 1)).take 1 = [.int .u8 z] ∧ IntKind.u8.min ≤ z ∧ z ≤ IntKind.u8.max) : ∃ bs : List UInt8, l = bv bs ∧ bs.length = n := by
  refine ⟨l.map fun v => (match v with | .int _ z => UInt8.ofNat z.toNat | _ => 0), ?_, by simp [hl]⟩
  apply List.ext_getElem?
  intro i
  by_cases hi : i < n
  · obtain ⟨z, hz, h1, h2⟩ := h i hi
    have hg : l[i]? = some (.int .u8 z) := by
      have : ((l.drop (i * 1)).take 1)[0]? = some (.int .u8 z) := by rw [hz]; rfl
      simpa using this
    have h1' : (0 : Int) ≤ z := h1
    have h2' : z ≤ 255 := h2
    simp only [bv, List.map_map, List.getElem?_map, hg, Option.map_some, Function.comp_apply, bV]
    congr 2
    simp
    omega
  · rw [List.getElem?_eq_none (by omega), List.getElem?_eq_none (by simp; omega)]

theorem dec_bytes {t e : Nat} (hu : P.underlying t = some (.slice e)) (hue : P.underlying e = some (.int .u8)) (hes : P.cellsOf e = 1) (hby : P.bytesOf e = 1) :
    Dec P W t (fun cs => ∃ v bs c, cs = [v] ∧ (rd v 1 bs.length c (bv bs)).holds W ∧ bs.length ≤ 140737488351232) :=
  (dec_slice hu hes hby (by omega) (dec_int hue)).mono fun cs h => by
    obtain ⟨v, n, c, l, rfl, hr, hR, hb⟩ := h
    obtain ⟨bs, rfl, rfl⟩ := bytes_of hr.1 hR
    exact ⟨v, bs, c, rfl, hr, by rw [Nat.mul_one] at hb; exact hb⟩

theorem arg_bytes {t e base : Nat} {v : Value} {d : DataW H} {ps : List MemPlace} (hu : P.underlying t = some (.slice e)) (hue : P.underlying e = some (.int .u8)) (hes : P.cellsOf e = 1) (hby : P.bytesOf e = 1) (hval : Value.okWide P W .any base t v)
    (h : DataW.Trod enc P W 0 (fun _ => true) true t v d ps) (hw : ∀ m, m ∈ d.weights P t → m ≤ reachBytes) : ∃ bs c, (rd v 1 bs.length c (bv bs)).holds W ∧ bs.length ≤ 140737488351232 := by
  obtain ⟨a, n, cap, rfl⟩ := okWide_slice hu hval
  obtain ⟨v', bs, c, hc, hr, hb⟩ := trod_of (dec_bytes hu hue hes hby) h hw
  obtain rfl : Value.slice a n cap = v' := by simpa [Value.cells] using hc
  exact ⟨bs, c, hr, hb⟩

theorem arg_int {t base : Nat} {k : IntKind} {v : Value} {d : DataW H} {ps : List MemPlace} (hu : P.underlying t = some (.int k)) (hval : Value.okWide P W .any base t v)
    (h : DataW.Trod enc P W 0 (fun _ => true) true t v d ps) (hw : ∀ m, m ∈ d.weights P t → m ≤ reachBytes) : ∃ i, v = .int k i ∧ k.min ≤ i ∧ i ≤ k.max := by
  obtain ⟨i, rfl⟩ := okWide_int hu hval
  obtain ⟨j, hc, h1, h2⟩ := trod_of (dec_int hu) h hw
  simp [Value.cells] at hc
  subst hc
  exact ⟨_, rfl, h1, h2⟩

end Go.Kx
