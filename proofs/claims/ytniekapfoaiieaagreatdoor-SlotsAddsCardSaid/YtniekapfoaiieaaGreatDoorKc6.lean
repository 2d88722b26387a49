/- Own library: parts KxSa, KxTi. -/
import Derived.Test.YtniekapfoaiieaaGreatDoorKc5
set_option linter.unusedSimpArgs false
set_option linter.unusedVariables false
/- Own library, part Sa: what is added to slots, as the reference says it. -/
namespace Go.Kx
open Go
def hitS (h : Hd) (p b : List UInt8) (k : Nat) : Bool := (getS h k).1 && (decide ((getS h k).2.2.1 = b) || opS p (getS h k))
/-- The least slot that is not used, of the last so many. -/
def atI (h : Hd) : Nat → Int
  | 0 => -1
  | j + 1 => if (getS h (3 - j)).1 then atI h j else ((3 - j : Nat) : Int)
theorem atI_free (h : Hd) : atI h 4 = freeS h := by
  cases e0 : h.s0.1 <;> cases e1 : h.s1.1 <;> cases e2 : h.s2.1 <;> cases e3 : h.s3.1 <;> simp [atI, freeS, getS, e0, e1, e2, e3]
theorem hit_op {h : Hd} {p b : List UInt8} {k : Nat} (e : hitS h p b k = false) : opS p (getS h k) = false := by
  cases hu : (getS h k).1 with
  | false => exact op_unused hu
  | true => simp [hitS, hu] at e; exact e.2
theorem no_hit {h : Hd} {p b : List UInt8} (hm : mayS h p = true) (hn : ∀ k, k < 4 → hitS h p b k = false) : thereS h p b = false := by
  have hu : unl h p = (List.replicate 32 0, 0, 12) := unl_none hm fun i hi => hit_op (hn i hi)
  have k : ∀ i, i < 4 → (getS h i).1 = true → ¬ (getS h i).2.2.1 = b := fun i hi hs he => by
    have := hn i hi
    simp [hitS, hs, he] at this
  have hs : saltS h b = false := by
    simp only [saltS, Bool.or_eq_false_iff, Bool.and_eq_false_imp, decide_eq_false_iff_not]
    exact ⟨⟨⟨k 0 (by decide), k 1 (by decide)⟩, k 2 (by decide)⟩, k 3 (by decide)⟩
  simp [thereS, hs, hu]
theorem used_mem {h : Hd} {k : Nat} (hk : k < 4) (hu : (getS h k).1 = true) : k ∈ usedL h := by
  rcases four_cases hk with rfl | rfl | rfl | rfl <;> simp only [getS] at hu <;> simp [usedL, hu]
theorem hit_there {h : Hd} {p b : List UInt8} {k : Nat} (hm : mayS h p = true) (hk : k < 4) (hu : (getS h k).1 = true) (he : (getS h k).2.2.1 = b ∨ opS p (getS h k) = true) : thereS h p b = true := by
  rcases he with he | he
  · simp [thereS, saltS_yes (used_mem hk hu) he]
  · have : (unl h p).2.2 = 0 := Decidable.byContradiction fun e => by rw [none_opens hm e k hk] at he; cases he
    simp [thereS, this]
theorem add_arg {h : Hd} {x p b : List UInt8} {z : Int} (hx : ¬ (checkH h = 0 ∧ okp p = true ∧ okr z = true)) : addS h x p b z = (zH, 0, 2) := by
  unfold addS
  cases hm : mayS h p with
  | false => rfl
  | true =>
    simp only [mayS, Bool.and_eq_true, decide_eq_true_eq] at hm
    have hz : okr z = false := by
      cases e : okr z with
      | false => rfl
      | true => exact absurd ⟨hm.2, hm.1, e⟩ hx
    simp [kE, hz]
theorem kE_zero {p : List UInt8} {z : Int} (h1 : okp p = true) (h2 : okr z = true) : kE p z = 0 := by simp [kE, h1, h2]
theorem add_there {h : Hd} {x p b : List UInt8} {z : Int} (hm : mayS h p = true) (hk : kE p z = 0) (ht : thereS h p b = true) : addS h x p b z = (zH, 0, 6) := by simp [addS, hm, hk, ht]
theorem add_full {h : Hd} {x p b : List UInt8} {z : Int} (hm : mayS h p = true) (hk : kE p z = 0) (ht : thereS h p b = false) (hf : freeS h = -1) : addS h x p b z = (zH, 0, 7) := by simp [addS, hm, hk, ht, hf]
theorem add_in {h : Hd} {x p b : List UInt8} {z : Int} {j : Nat} (hm : mayS h p = true) (hk : kE p z = 0) (ht : thereS h p b = false) (hf : freeS h = (j : Int)) : addS h x p b z = (setS h j (newS p b z x), (j : Int), 0) := by
  have h1 : ¬ ((j : Int) < 0) := by omega
  simp [addS, hm, hk, ht, hf, h1]
end Go.Kx
/- Own library, part Ti: shorter words for walks. -/
namespace Go.Kx
open Go
theorem Env.sl {a : Act} {n : Nat} {L L' : List (Nat × Value)} (h : Env a n L) (hs : Go.Kx.sel L (L'.map Prod.fst) = some L') : Env a n L' := h.sel _ hs
variable {P : Program} {ops : Array Oper} {D : Option (Nat → Prop)} {Q : Exit → Act → World → Prop} {w0 w w' : World} {M : List Nat} {H H' : List Ent}
  {a : Act} {n : Nat} {L : List (Nat × Value)} {rest : List (Bool × Oper)} {d : Nat} {ty : TypeId} {pos : String} {aft : Array Edge} {x y z : Operand} {u v r : Value}
theorem ww1 {x y : Code} (h : ∀ K : Act → World → Prop, (∀ {a w}, y.wp P Q a w → K a w) → x.wp P (Exit.then K Q) a w) : (Code.seq x y).wp P Q a w := wp_seq_k fun K hK => h K (fun {a w} => hK a w)
theorem wct {c : Operand} {x y : Code} (hE : Env a n L) (hc : ev L c = some (.bool true)) (h : x.wp P Q a w) : (Code.cond c x y).wp P Q a w := wp_cond_true (hE.eval hc) h
theorem wcf {c : Operand} {x y : Code} (hE : Env a n L) (hc : ev L c = some (.bool false)) (h : y.wp P Q a w) : (Code.cond c x y).wp P Q a w := wp_cond_false (hE.eval hc) h
/-- Which operations float, told by their kind (a conversion to a slice is none of these). -/
def flO (o : Oper) : Bool := match o.op with
  | .alloc _ | .box .. | .buildSlice .. | .store .. | .makeSlice .. | .makeMap .. | .panic _ => false
  | .call c => (match c.callee with
    | .builtin .append | .builtin .copy | .builtin .clear => false
    | .builtin _ => true
    | _ => false)
  | _ => true
def zipO : List Oper → List (Bool × Oper)
  | [] => []
  | o :: r => (flO o, o) :: zipO r
theorem zipO_map : ∀ l : List Oper, (zipO l).map (·.2) = l
  | [] => rfl
  | o :: r => by rw [zipO, List.map_cons, zipO_map r]
theorem wpp {id : Nat} {ops : Array Oper} (h : wpL P ops none Q (zipO ops.toList) a w) : (Code.region id ops false).wp P Q a w :=
  wp_region_list (by have := wpList_of_wpL _ a w h; rw [zipO_map] at this; exact this)
def e1 (d n : Nat) (o : Option Value) : Option Value := bif Nat.blt d n then o else none
theorem e1_ok {o : Option Value} (h : e1 d n o = some v) : o = some v ∧ Nat.blt d n = true := by
  unfold e1 at h
  cases hb : Nat.blt d n
  · rw [hb] at h; cases h
  · rw [hb] at h; exact ⟨h, rfl⟩
theorem sm (hE : Env a n L) (hx : e1 d n (ev L x) = some v) (k : ∀ a', Env a' n ((d, v) :: L) → wpL P ops D Q rest a' w) : wpL P ops D Q ((true, ⟨some d, .move x, ty, pos, aft, none⟩) :: rest) a w := s_move hE (e1_ok hx).1 (e1_ok hx).2 k
theorem sas (hE : Env a n L) (hx : e1 d n (ev L x) = some v) (k : ∀ a', Env a' n ((d, v) :: L) → wpL P ops D Q rest a' w) : wpL P ops D Q ((true, ⟨some d, .assign x, ty, pos, aft, none⟩) :: rest) a w := s_assign hE (e1_ok hx).1 (e1_ok hx).2 k
theorem sb {op : BinOp} {t t' : TypeId} (hE : Env a n L) (hx : e1 d n (ev L x) = some u) (hy : ev L y = some v) (hb : Bin P op t u v r) (k : ∀ a', Env a' n ((d, r) :: L) → wpL P ops D Q rest a' w) : wpL P ops D Q ((true, ⟨some d, .binOp op t x y t', ty, pos, aft, none⟩) :: rest) a w := s_bin hE (e1_ok hx).1 hy hb (e1_ok hx).2 k
theorem sf {s i o b off : Nat} (hE : Env a n L) (hx : e1 d n (ev L x) = some (.pointer (some ⟨b, off, none⟩))) (ho : fieldOff P s i = some o) (k : ∀ a', Env a' n ((d, .pointer (some ⟨b, off + o, none⟩)) :: L) → wpL P ops D Q rest a' w) : wpL P ops D Q ((true, ⟨some d, .fieldAddr s x i, ty, pos, aft, none⟩) :: rest) a w := s_fieldAddr hE (e1_ok hx).1 ho (e1_ok hx).2 k
def pkV (a b c : Option Value) : Option Value := match a with
  | some (.bool true) => b
  | some (.bool false) => c
  | _ => none
theorem pkt (hE : Env a n L) (hx : e1 d n (match ev L x with | some (.bool true) => ev L y | _ => none) = some v) (k : ∀ a', Env a' n ((d, v) :: L) → wpL P ops D Q rest a' w) : wpL P ops D Q ((true, ⟨some d, .pick x y z, ty, pos, aft, none⟩) :: rest) a w := by
  obtain ⟨h1, h2⟩ := e1_ok hx
  split at h1
  · rename_i e; exact s_pickt hE e h1 h2 k
  · cases h1
theorem pkf (hE : Env a n L) (hx : e1 d n (match ev L x with | some (.bool false) => ev L z | _ => none) = some v) (k : ∀ a', Env a' n ((d, v) :: L) → wpL P ops D Q rest a' w) : wpL P ops D Q ((true, ⟨some d, .pick x y z, ty, pos, aft, none⟩) :: rest) a w := by
  obtain ⟨h1, h2⟩ := e1_ok hx
  split at h1
  · rename_i e; exact s_pickf hE e h1 h2 k
  · cases h1
theorem sx {i : Nat} (hE : Env a n L) (hx : e1 d n (match ev L x with | some (.tuple vs) => vs[i]? | _ => none) = some v) (k : ∀ a', Env a' n ((d, v) :: L) → wpL P ops D Q rest a' w) : wpL P ops D Q ((true, ⟨some d, .extract x i, ty, pos, aft, none⟩) :: rest) a w := by
  obtain ⟨h1, h2⟩ := e1_ok hx
  split at h1
  · rename_i e; exact s_extract hE e h1 h2 k
  · cases h1
theorem gy {f : Bool} {dst : Option Tmp} {op : Op} {j : Nat} {b : Bool} (hE : Env a n L) (h : ((ops[j]?).bind (·.dst)).bind (fun t => lk t L) = some (.bool b)) (k : wpL P ops D Q ((f, ⟨dst, op, ty, pos, aft, none⟩) :: rest) a w) : wpL P ops D Q ((f, ⟨dst, op, ty, pos, aft, some (j, b)⟩) :: rest) a w := by
  obtain ⟨t, h1, h2⟩ := Option.bind_eq_some_iff.1 h
  exact g_yes hE h1 h2 k
theorem gf {f : Bool} {op : Op} {j : Nat} (hE : Env a n L) (h : e1 d n (((ops[j]?).bind (·.dst)).bind (fun t => lk t L)) = some (.bool false)) (k : ∀ a', Env a' n ((d, undef) :: L) → wpL P ops D Q rest a' w) : wpL P ops D Q ((f, ⟨some d, op, ty, pos, aft, some (j, true)⟩) :: rest) a w := by
  obtain ⟨t, h1, h2⟩ := Option.bind_eq_some_iff.1 (e1_ok h).1
  exact g_no (b := false) hE h1 h2 (e1_ok h).2 k
theorem gt {f : Bool} {op : Op} {j : Nat} (hE : Env a n L) (h : e1 d n (((ops[j]?).bind (·.dst)).bind (fun t => lk t L)) = some (.bool true)) (k : ∀ a', Env a' n ((d, undef) :: L) → wpL P ops D Q rest a' w) : wpL P ops D Q ((f, ⟨some d, op, ty, pos, aft, some (j, false)⟩) :: rest) a w := by
  obtain ⟨t, h1, h2⟩ := Option.bind_eq_some_iff.1 (e1_ok h).1
  exact g_no (b := true) hE h1 h2 (e1_ok h).2 k
abbrev zb (n : Nat) : List UInt8 := List.replicate n 0
end Go.Kx
