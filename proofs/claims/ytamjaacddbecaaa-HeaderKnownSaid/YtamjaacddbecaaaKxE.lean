/- Own library, part E: the steps of a walk, one a kind of operation. -/
import Derived.Test.YtamjaacddbecaaaKxD
set_option linter.unusedSimpArgs false
set_option linter.unusedVariables false
namespace Go.Kx
open Go
variable {P : Program} {ops : Array Oper} {D : Option (Nat → Prop)} {Q : Exit → Act → World → Prop} {w0 w w' : World} {M : List Nat} {H H' : List Ent}
  {a : Act} {n : Nat} {L : List (Nat × Value)} {rest : List (Bool × Oper)} {d : Nat} {ty : TypeId} {pos : String} {aft : Array Edge} {x y z : Operand} {u v r : Value}

theorem blt_lt {i j : Nat} (h : Nat.blt i j = true) : i < j := by
  have : (Nat.blt i j = true) = (i < j) := Nat.blt_eq
  rwa [this] at h

/-! ## Guards -/

theorem yielded_of {j t : Nat} {b : Bool} (hE : Env a n L) (hj : (ops[j]?).bind (·.dst) = some t) (hl : lk t L = some (.bool b)) : yielded ops a.tmps j = some b := by
  unfold yielded
  rw [hj]
  simp [hE.at_ t _ hl]

theorem g_yes {f : Bool} {dst : Option Tmp} {op : Op} {j t : Nat} {b : Bool} (hE : Env a n L) (hj : (ops[j]?).bind (·.dst) = some t) (hl : lk t L = some (.bool b))
    (k : wpL P ops D Q ((f, ⟨dst, op, ty, pos, aft, none⟩) :: rest) a w) : wpL P ops D Q ((f, ⟨dst, op, ty, pos, aft, some (j, b)⟩) :: rest) a w := by
  have hw : Region.wanted ⟨dst, op, ty, pos, aft, some (j, b)⟩ (yielded ops a.tmps) = true := by simp [Region.wanted, yielded_of hE hj hl]
  simp only [wpL] at k ⊢
  rw [if_pos hw]
  rw [if_pos (by simp [Region.wanted])] at k
  exact k

theorem g_no {f : Bool} {op : Op} {j t : Nat} {b : Bool} (hE : Env a n L) (hj : (ops[j]?).bind (·.dst) = some t) (hl : lk t L = some (.bool b)) (hn : Nat.blt d n = true)
    (k : ∀ a', Env a' n ((d, undef) :: L) → wpL P ops D Q rest a' w) : wpL P ops D Q ((f, ⟨some d, op, ty, pos, aft, some (j, !b)⟩) :: rest) a w := by
  have hw : Region.wanted ⟨some d, op, ty, pos, aft, some (j, !b)⟩ (yielded ops a.tmps) = false := by simp [Region.wanted, yielded_of hE hj hl]
  simp only [wpL]
  rw [if_neg (by simp [hw])]
  exact k _ (hE.put _ (blt_lt hn))

theorem yielded_und {j t : Nat} (hE : Env a n L) (hj : (ops[j]?).bind (·.dst) = some t) (hl : lk t L = some undef) : yielded ops a.tmps j = none := by
  unfold yielded
  rw [hj]
  simp [hE.at_ t _ hl, undef]

theorem g_und {f b : Bool} {op : Op} {j t : Nat} (hE : Env a n L) (hj : (ops[j]?).bind (·.dst) = some t) (hl : lk t L = some undef) (hn : Nat.blt d n = true)
    (k : ∀ a', Env a' n ((d, undef) :: L) → wpL P ops D Q rest a' w) : wpL P ops D Q ((f, ⟨some d, op, ty, pos, aft, some (j, b)⟩) :: rest) a w := by
  have hw : Region.wanted ⟨some d, op, ty, pos, aft, some (j, b)⟩ (yielded ops a.tmps) = false := by simp [Region.wanted, yielded_und hE hj hl]
  simp only [wpL]
  rw [if_neg (by simp [hw])]
  exact k _ (hE.put _ (blt_lt hn))

/-! ## Operations that float -/

theorem s_val {op : Op} (hE : Env a n L) (hn : Nat.blt d n = true) (hf : Flo P D (execOp a.eval ⟨some d, op, ty, pos, aft, none⟩) v w)
    (k : ∀ a', Env a' n ((d, v) :: L) → wpL P ops D Q rest a' w) : wpL P ops D Q ((true, ⟨some d, op, ty, pos, aft, none⟩) :: rest) a w := by
  simp only [wpL]
  rw [if_pos (by simp [Region.wanted])]
  exact ⟨v, hf, k _ (hE.put _ (blt_lt hn))⟩

theorem s_move (hE : Env a n L) (hx : ev L x = some v) (hn : Nat.blt d n = true) (k : ∀ a', Env a' n ((d, v) :: L) → wpL P ops D Q rest a' w) :
    wpL P ops D Q ((true, ⟨some d, .move x, ty, pos, aft, none⟩) :: rest) a w :=
  s_val hE hn (Flo.of_all (fun w => by simp [execOp, hE.eval hx]) w) k

theorem s_assign (hE : Env a n L) (hx : ev L x = some v) (hn : Nat.blt d n = true) (k : ∀ a', Env a' n ((d, v) :: L) → wpL P ops D Q rest a' w) :
    wpL P ops D Q ((true, ⟨some d, .assign x, ty, pos, aft, none⟩) :: rest) a w :=
  s_val hE hn (Flo.of_all (fun w => by simp [execOp, hE.eval hx]) w) k

theorem s_pickt (hE : Env a n L) (hx : ev L x = some (.bool true)) (hy : ev L y = some v) (hn : Nat.blt d n = true) (k : ∀ a', Env a' n ((d, v) :: L) → wpL P ops D Q rest a' w) :
    wpL P ops D Q ((true, ⟨some d, .pick x y z, ty, pos, aft, none⟩) :: rest) a w :=
  s_val hE hn (Flo.of_all (fun w => by simp [execOp, hE.eval hx, hE.eval hy, asBool]) w) k

theorem s_pickf (hE : Env a n L) (hx : ev L x = some (.bool false)) (hz : ev L z = some v) (hn : Nat.blt d n = true) (k : ∀ a', Env a' n ((d, v) :: L) → wpL P ops D Q rest a' w) :
    wpL P ops D Q ((true, ⟨some d, .pick x y z, ty, pos, aft, none⟩) :: rest) a w :=
  s_val hE hn (Flo.of_all (fun w => by simp [execOp, hE.eval hx, hE.eval hz, asBool]) w) k

theorem s_extract {vs : Array Value} {i : Nat} (hE : Env a n L) (hx : ev L x = some (.tuple vs)) (hi : vs[i]? = some v) (hn : Nat.blt d n = true) (k : ∀ a', Env a' n ((d, v) :: L) → wpL P ops D Q rest a' w) :
    wpL P ops D Q ((true, ⟨some d, .extract x i, ty, pos, aft, none⟩) :: rest) a w :=
  s_val hE hn (Flo.of_all (fun w => by simp [execOp, hE.eval hx, Instr.extract, hi]) w) k

theorem s_nilCheck {ad : Addr} (hE : Env a n L) (hx : ev L x = some (.pointer (some ad))) (hn : Nat.blt d n = true) (k : ∀ a', Env a' n ((d, .pointer (some ad)) :: L) → wpL P ops D Q rest a' w) :
    wpL P ops D Q ((true, ⟨some d, .nilCheck x, ty, pos, aft, none⟩) :: rest) a w :=
  s_val hE hn (Flo.of_all (fun w => by simp [execOp, hE.eval hx]) w) k

theorem s_not {b : Bool} {t : TypeId} (hE : Env a n L) (hx : ev L x = some (.bool b)) (hn : Nat.blt d n = true) (k : ∀ a', Env a' n ((d, .bool (!b)) :: L) → wpL P ops D Q rest a' w) :
    wpL P ops D Q ((true, ⟨some d, .unOp .not t x, ty, pos, aft, none⟩) :: rest) a w :=
  s_val hE hn (Flo.of_all (fun w => by simp [execOp, hE.eval hx, Op.unary]) w) k

/-- What an operation of two operands gives. -/
def Bin (P : Program) (op : BinOp) (t : TypeId) (u v r : Value) : Prop := ∀ (x y : Operand) (w : World), (do eqGuard op t x y u v; binOp op t u v : Sem Value).run P w = .ok r w

theorem s_bin {op : BinOp} {t t' : TypeId} (hE : Env a n L) (hx : ev L x = some u) (hy : ev L y = some v) (hb : Bin P op t u v r) (hn : Nat.blt d n = true)
    (k : ∀ a', Env a' n ((d, r) :: L) → wpL P ops D Q rest a' w) : wpL P ops D Q ((true, ⟨some d, .binOp op t x y t', ty, pos, aft, none⟩) :: rest) a w :=
  s_val hE hn (Flo.of_all (fun w => by
    have := hb x y w
    simp only [execOp, hE.eval hx, hE.eval hy]
    rw [Sem.run_bind, this]; rfl) w) k

theorem bin_of {op : BinOp} {t : TypeId} (hg : (op matches .eql | .neq) = false) (h : ∀ w, (binOp op t u v).run P w = .ok r w) : Bin P op t u v r := fun x y w => by
  have : (eqGuard op t x y u v).run P w = .ok () w := by
    unfold eqGuard
    cases op <;> first | rfl | (simp at hg; done)
  rw [Sem.run_bind, this]; exact h w

theorem bin_eq {op : BinOp} {t : TypeId} (h1 : ∀ c, u ≠ .agg c) (h2 : u ≠ .nilIface) (h : ∀ w, (binOp op t u v).run P w = .ok r w) : Bin P op t u v r := fun x y w => by
  have : (eqGuard op t x y u v).run P w = .ok () w := by
    unfold eqGuard
    cases op <;> first | rfl | (cases u <;> first | rfl | exact absurd rfl h2 | exact absurd rfl (h1 _))
  rw [Sem.run_bind, this]; exact h w

section ints
variable {k : IntKind} {i j q : Int} {t : TypeId}

theorem bin_add (h : k.wrap (i + j) = q) : Bin P .add t (.int k i) (.int k j) (.int k q) := bin_of rfl fun w => by simp [binOp, Op.intArith, h]
theorem bin_sub (h : k.wrap (i - j) = q) : Bin P .sub t (.int k i) (.int k j) (.int k q) := bin_of rfl fun w => by simp [binOp, Op.intArith, h]
theorem bin_mul (h : k.wrap (i * j) = q) : Bin P .mul t (.int k i) (.int k j) (.int k q) := bin_of rfl fun w => by simp [binOp, Op.intArith, h]
theorem bin_quo (h0 : j ≠ 0) (h : k.wrap (i.tdiv j) = q) : Bin P .quo t (.int k i) (.int k j) (.int k q) := bin_of rfl fun w => by simp [binOp, Op.intDiv, h0, h]
theorem bin_rem (h0 : j ≠ 0) (h : i.tmod j = q) : Bin P .rem t (.int k i) (.int k j) (.int k q) := bin_of rfl fun w => by simp [binOp, Op.intDiv, h0, h]
theorem bin_lss : Bin P .lss t (.int k i) (.int k j) (.bool (decide (i < j))) := bin_of rfl fun w => by simp [binOp, Op.intCmp]
theorem bin_leq : Bin P .leq t (.int k i) (.int k j) (.bool (decide (i ≤ j))) := bin_of rfl fun w => by simp [binOp, Op.intCmp]
theorem bin_gtr : Bin P .gtr t (.int k i) (.int k j) (.bool (decide (j < i))) := bin_of rfl fun w => by simp [binOp, Op.intCmp]
theorem bin_geq : Bin P .geq t (.int k i) (.int k j) (.bool (decide (j ≤ i))) := bin_of rfl fun w => by simp [binOp, Op.intCmp]
theorem bin_eql : Bin P .eql t (.int k i) (.int k j) (.bool (decide (i = j))) := bin_eq (fun _ h => by cases h) (fun h => by cases h) fun w => by simp [binOp, Op.intCmp]; rfl
theorem bin_neq : Bin P .neq t (.int k i) (.int k j) (.bool (!decide (i = j))) := bin_eq (fun _ h => by cases h) (fun h => by cases h) fun w => by simp [binOp, Op.intCmp]; rfl

theorem wrap_i64 (h1 : -9223372036854775808 ≤ q) (h2 : q ≤ 9223372036854775807) : IntKind.i64.wrap q = q := IntWalk.i64_in q ⟨h1, h2⟩
theorem wrap_u64 (h1 : 0 ≤ q) (h2 : q ≤ 18446744073709551615) : IntKind.u64.wrap q = q := IntWalk.u64_in q ⟨h1, h2⟩
end ints

theorem bin_equal {t : TypeId} {b : Bool} (h1 : ∀ c, u ≠ .agg c) (h2 : u ≠ .nilIface) (he : ∀ w, (binOp .eql t u v).run P w = ((Op.equal t u v).run P w).andThen fun b w => .ok (.bool b) w)
    (hn : ∀ w, (binOp .neq t u v).run P w = ((Op.equal t u v).run P w).andThen fun b w => .ok (.bool (!b)) w) (h : ∀ d w, (Op.equalIn (d + 1) t u v).run P w = .ok b w) :
    Bin P .eql t u v (.bool b) ∧ Bin P .neq t u v (.bool (!b)) := by
  have h' : ∀ w, (Op.equal t u v).run P w = .ok b w := fun w => h 9999 w
  exact ⟨bin_eq h1 h2 fun w => by rw [he, h']; rfl, bin_eq h1 h2 fun w => by rw [hn, h']; rfl⟩

theorem bins_ptr_nil {t e : TypeId} {ad : Addr} (ht : P.underlying t = some (.pointer e)) : Bin P .eql t (.pointer (some ad)) (.pointer none) (.bool false) ∧ Bin P .neq t (.pointer (some ad)) (.pointer none) (.bool true) :=
  bin_equal (fun _ h => by cases h) (fun h => by cases h) (fun w => Sem.run_bind' P _ _ w) (fun w => Sem.run_bind' P _ _ w) fun d w => by simp [Op.equalIn, run_underlying ht]

/-- A slice held against nil. -/
theorem bins_sl_nil {t e : TypeId} {ad : Option Addr} {i j : Nat} (ht : P.underlying t = some (.slice e)) : Bin P .eql t (.slice ad i j) (.slice none 0 0) (.bool ad.isNone) ∧ Bin P .neq t (.slice ad i j) (.slice none 0 0) (.bool (!ad.isNone)) :=
  bin_equal (fun _ h => by cases h) (fun h => by cases h) (fun w => Sem.run_bind' P _ _ w) (fun w => Sem.run_bind' P _ _ w) fun d w => by cases ad <;> simp [Op.equalIn, run_underlying ht]

theorem list_beq_decide {α : Type} [DecidableEq α] (l l' : List α) : (l == l') = decide (l = l') := by
  by_cases h : l = l' <;> simp [h]

theorem bin_eql_str {t : TypeId} {s s' : ByteArray} : Bin P .eql t (.string s) (.string s') (.bool (decide (s.toList = s'.toList))) := bin_eq (fun _ h => by cases h) (fun h => by cases h) fun w => by
  rw [← list_beq_decide]; rfl
theorem bin_neq_str {t : TypeId} {s s' : ByteArray} : Bin P .neq t (.string s) (.string s') (.bool (!decide (s.toList = s'.toList))) := bin_eq (fun _ h => by cases h) (fun h => by cases h) fun w => by
  rw [← list_beq_decide]; rfl

/-- What a conversion that floats gives. -/
def Cnv (P : Program) (src dst : TypeId) (u r : Value) : Prop := ∀ w : World, (convert src dst u).run P w = .ok r w

theorem s_conv {src dst : TypeId} (hE : Env a n L) (hx : ev L x = some u) (hb : Cnv P src dst u r) (hn : Nat.blt d n = true)
    (k : ∀ a', Env a' n ((d, r) :: L) → wpL P ops D Q rest a' w) : wpL P ops D Q ((true, ⟨some d, .convert src dst x, ty, pos, aft, none⟩) :: rest) a w :=
  s_val hE hn (Flo.of_all (fun w => by
    have := hb w
    simp only [execOp, hE.eval hx]
    rw [Sem.run_bind, this]; rfl) w) k

theorem cnv_int {src dst : TypeId} {ds : TypeDesc} {k k' : IntKind} {i q : Int} (hs : P.underlying src = some ds) (hd : P.underlying dst = some (.int k)) (h : k.wrap i = q) : Cnv P src dst (.int k' i) (.int k q) := fun w => by
  simp [convert, run_underlying hs, run_underlying hd, Conv.intToInt, h]

/-! ## Addresses -/

/-- Where a field lies. -/
def fieldOff (P : Program) (s i : Nat) : Option Nat :=
  match P.underlying s with
  | some (.struct fs) => match fs[i]? with
    | some f => if (P.info? f.type).map (·.size) = some 0 then none else if (P.info? f.type).isSome then some f.offset else none
    | none => none
  | _ => none

theorem run_fieldAt {s i o b off : Nat} (h : fieldOff P s i = some o) (w : World) : (Instr.fieldAt s (.pointer (some ⟨b, off, none⟩)) i).run P w = .ok (.pointer (some ⟨b, off + o, none⟩)) w := by
  unfold fieldOff at h
  cases hu : P.underlying s with
  | none => simp [hu] at h
  | some dsc =>
    rw [hu] at h
    cases dsc <;> simp only at h <;> try (cases h; done)
    rename_i fs
    cases hf : fs[i]? with
    | none => simp [hf] at h
    | some f =>
      simp only [hf] at h
      cases hi : P.info? f.type with
      | none => simp [hi] at h
      | some inf =>
        simp only [hi, Option.map_some, Option.isSome_some, if_true] at h
        split at h
        · cases h
        · rename_i hne
          cases h
          have hsz : ¬ inf.size = 0 := by simpa using hne
          simp [Instr.fieldAt, run_underlying hu, hf, Instr.sureAddr, fieldPlace, sizeOf, typeInfo, hi, hsz, Addr.add_mid]

theorem s_fieldAddr {s i o b off : Nat} (hE : Env a n L) (hx : ev L x = some (.pointer (some ⟨b, off, none⟩))) (ho : fieldOff P s i = some o) (hn : Nat.blt d n = true)
    (k : ∀ a', Env a' n ((d, .pointer (some ⟨b, off + o, none⟩)) :: L) → wpL P ops D Q rest a' w) : wpL P ops D Q ((true, ⟨some d, .fieldAddr s x i, ty, pos, aft, none⟩) :: rest) a w :=
  s_val hE hn (Flo.of_all (fun w => by simp [execOp, hE.eval hx, run_fieldAt ho]) w) k

/-- An array's type: how many elements, of how many cells each. -/
def arrT (P : Program) (t : Nat) : Option (Nat × Nat) :=
  match P.underlying t with
  | some (.array l e) => (P.info? e).map fun i => (l, i.size)
  | _ => none

theorem arrT_spec {t l es : Nat} (h : arrT P t = some (l, es)) : ∃ e, P.underlying t = some (.array l e) ∧ (P.info? e).map (·.size) = some es := by
  unfold arrT at h
  cases hu : P.underlying t with
  | none => simp [hu] at h
  | some dsc =>
    rw [hu] at h
    cases dsc <;> simp only at h <;> try (cases h; done)
    rename_i l' e
    cases hi : P.info? e with
    | none => simp [hi] at h
    | some inf => simp [hi] at h; exact ⟨e, by simp [h.1], by simp [hi, h.2]⟩

theorem s_indexArr {t l es b off j : Nat} {i : Int} {k' : IntKind} (hE : Env a n L) (hx : ev L x = some (.pointer (some ⟨b, off, none⟩))) (hy : ev L y = some (.int k' i)) (ht : arrT P t = some (l, es))
    (hi : i = (j : Int)) (hj : j < l) (hn : Nat.blt d n = true)
    (k : ∀ a', Env a' n ((d, .pointer (some ⟨b, off + j * es, none⟩)) :: L) → wpL P ops D Q rest a' w) : wpL P ops D Q ((true, ⟨some d, .indexAddr t x y, ty, pos, aft, none⟩) :: rest) a w := by
  obtain ⟨e, hu, hs⟩ := arrT_spec ht
  subst hi
  refine s_val hE hn (Flo.of_all (fun w => ?_) w) k
  have h1 : (0 : Int) ≤ j ∧ (j : Int) < l := ⟨by omega, by omega⟩
  simp [execOp, hE.eval hx, hE.eval hy, Instr.indexAt, asIntOf, run_underlying hu, Instr.sureAddr, h1, run_sizeOf hs, Addr.add_mid]
  intro h; omega

/-- A slice type: of how many cells an element is. -/
def slT (P : Program) (t : Nat) : Option Nat :=
  match P.underlying t with
  | some (.slice e) => (P.info? e).map (·.size)
  | _ => none

theorem slT_spec {t es : Nat} (h : slT P t = some es) : ∃ e, P.underlying t = some (.slice e) ∧ (P.info? e).map (·.size) = some es := by
  unfold slT at h
  cases hu : P.underlying t with
  | none => simp [hu] at h
  | some dsc =>
    rw [hu] at h
    cases dsc <;> simp only at h <;> try (cases h; done)
    rename_i e
    exact ⟨e, rfl, h⟩

/-- An element of a slice that is read. -/
theorem s_indexRd {t es j m c : Nat} {i : Int} {k' : IntKind} {cs : List Value} (hE : Env a n L) (hx : ev L x = some v) (hr : (rd v es m c cs).holds w) (hy : ev L y = some (.int k' i)) (ht : slT P t = some es)
    (hi : i = (j : Int)) (hj : j < m) (hn : Nat.blt d n = true)
    (k : ∀ a' p, Env a' n ((d, p) :: L) → (cellsAt p ((cs.drop (j * es)).take es)).holds w → (∀ b, b ∈ valBlocks p → b ∈ rdB v c) → wpL P ops D Q rest a' w) : wpL P ops D Q ((true, ⟨some d, .indexAddr t x y, ty, pos, aft, none⟩) :: rest) a w := by
  obtain ⟨e, hu, hs⟩ := slT_spec ht
  subst hi
  rcases hr with ⟨hl, ⟨p, rfl, rfl, _⟩ | ⟨b, o, rfl, h1, h2, h3⟩⟩
  · omega
  · refine s_val hE hn (v := .pointer (some ⟨b, o + j * es, none⟩)) (Flo.of_all (fun w => ?_) w) (fun a' hE' => k a' _ hE' ⟨b, o + j * es, rfl, h2, fun i x hx => ?_⟩ (fun y hy => by simp only [rdB, if_neg (show ¬ c = 0 by omega)]; exact hy))
    · have h1 : (0 : Int) ≤ j ∧ (j : Int) < m := ⟨by omega, by omega⟩
      simp [execOp, hE.eval hx, hE.eval hy, Instr.indexAt, asIntOf, run_underlying hu, h1, run_sizeOf hs, Addr.add_mid]
      intro h; omega
    · rw [List.getElem?_take] at hx
      split at hx
      · rw [List.getElem?_drop] at hx
        have := h3 _ x hx
        rwa [← Nat.add_assoc] at this
      · cases hx

/-! ## Loads -/

theorem Flo.load {t : TypeId} {p : Value} {f : Ent} (hE : Env a n L) (hx : ev L x = some p) (hf : f.holds w) (hX : ∀ X, D = some X → ∀ b, b ∈ f.fp ∨ b ∈ f.ro → ¬ X b)
    (h : ∀ w', f.holds w' → (Instr.loadAt t p).run P w' = .ok v w') : Flo P D (execOp a.eval ⟨some d, .load t x, ty, pos, aft, none⟩) v w := by
  have h2 : ∀ w', f.holds w' → (execOp a.eval ⟨some d, .load t x, ty, pos, aft, none⟩).run P w' = .ok (.value v) w' := fun w' hw' => by
    simp only [execOp, hE.eval hx]
    rw [Sem.run_bind, h w' hw']; rfl
  refine ⟨h2 w hf, fun X hD w' hs => h2 w' (f.loc w w' hf fun b hb => ?_)⟩
  subst hD
  exact hs.2 b (f.old w hf b hb) (hX X rfl b hb)

/-- A load of one cell, at an address whose cells are known. -/
theorem s_loadAt1 {t : TypeId} {p : Value} (hE : Env a n L) (hx : ev L x = some p) (hc : (cellsAt p [v]).holds w) (ht : OneT P t) (hX : ∀ X, D = some X → ∀ b, b ∈ valBlocks p → ¬ X b) (hn : Nat.blt d n = true)
    (k : ∀ a', Env a' n ((d, v) :: L) → wpL P ops D Q rest a' w) : wpL P ops D Q ((true, ⟨some d, .load t x, ty, pos, aft, none⟩) :: rest) a w :=
  s_val hE hn (Flo.load hE hx hc (fun X hD b hb => hX X hD b (by simpa [cellsAt] using hb)) (fun w' h => by
    obtain ⟨b, o, rfl, h2, h3⟩ := h
    have := h3 0 v rfl
    simp only [Instr.loadAt, Instr.sureAddr, Sem.run_bind, Sem.run_pure, Result.andThen_ok]
    exact run_loadVar_one ht (by simpa using this))) k

/-- A load of a row, at an address whose cells are known. -/
theorem s_loadAtN {t : TypeId} {p : Value} {cs : List Value} (hE : Env a n L) (hx : ev L x = some p) (hc : (cellsAt p cs).holds w) (ht : RowT P t cs.length) (hX : ∀ X, D = some X → ∀ b, b ∈ valBlocks p → ¬ X b) (hn : Nat.blt d n = true)
    (k : ∀ a', Env a' n ((d, .agg cs.toArray) :: L) → wpL P ops D Q rest a' w) : wpL P ops D Q ((true, ⟨some d, .load t x, ty, pos, aft, none⟩) :: rest) a w :=
  s_val hE hn (Flo.load hE hx hc (fun X hD b hb => hX X hD b (by simpa [cellsAt] using hb)) (fun w' h => by
    obtain ⟨b, o, rfl, h2, h3⟩ := h
    simp only [Instr.loadAt, Instr.sureAddr, Sem.run_bind, Sem.run_pure, Result.andThen_ok]
    exact run_loadVar_row' ht h3)) k

/-- The cells from o on, s of them, where they are whole parts. -/
def rdSeg : Nat → Nat → List (List Value) → List Nat → Option (List Value)
  | 0, s, g :: ss, m :: ns => cond (Nat.beq s m) (some g) (cond (Nat.blt m s) ((rdSeg 0 (s - m) ss ns).map (g ++ ·)) none)
  | o + 1, s, _ :: ss, m :: ns => cond (Nat.ble m (o + 1)) (rdSeg (o + 1 - m) s ss ns) none
  | _, _, _, _ => none

theorem rdSeg_spec : ∀ {ss : List (List Value)} {ns : List Nat} {o s : Nat} {cs : List Value}, ss.map List.length = ns → rdSeg o s ss ns = some cs → cs.length = s ∧ ∀ (i : Nat) (x : Value), cs[i]? = some x → ss.flatten[o + i]? = some x
  | [], ns, o, s, cs, _, h => by cases o <;> simp [rdSeg] at h
  | g :: ss, [], o, s, cs, hm, _ => by simp at hm
  | g :: ss, m :: ns, 0, s, cs, hm, h => by
    simp only [List.map_cons, List.cons.injEq] at hm
    obtain ⟨hg, hm⟩ := hm
    simp only [rdSeg] at h
    cases h1 : Nat.beq s m with
    | true =>
      rw [h1, cond_true] at h
      cases h
      have := Nat.eq_of_beq_eq_true h1
      refine ⟨by omega, fun i x hx => ?_⟩
      have hlt := (List.getElem?_eq_some_iff.1 hx).1
      simp only [List.flatten_cons, Nat.zero_add]
      rw [List.getElem?_append_left hlt]; exact hx
    | false =>
      rw [h1, cond_false] at h
      cases h2 : Nat.blt m s with
      | false => rw [h2, cond_false] at h; cases h
      | true =>
        rw [h2, cond_true] at h
        have h2' : m < s := blt_lt h2
        cases hr : rdSeg 0 (s - m) ss ns with
        | none => rw [hr] at h; cases h
        | some cs' =>
          rw [hr] at h
          simp only [Option.map_some, Option.some.injEq] at h
          subst h
          obtain ⟨ih1, ih2⟩ := rdSeg_spec hm hr
          refine ⟨by simp; omega, fun i x hx => ?_⟩
          simp only [List.flatten_cons, Nat.zero_add]
          rw [List.getElem?_append] at hx ⊢
          split at hx
          · rename_i hlt; rw [if_pos hlt]; exact hx
          · rename_i hlt; rw [if_neg hlt]
            have := ih2 _ x hx
            rwa [Nat.zero_add] at this
  | g :: ss, m :: ns, o + 1, s, cs, hm, h => by
    simp only [List.map_cons, List.cons.injEq] at hm
    obtain ⟨hg, hm⟩ := hm
    simp only [rdSeg] at h
    cases h1 : Nat.ble m (o + 1) with
    | false => rw [h1, cond_false] at h; cases h
    | true =>
      rw [h1, cond_true] at h
      have h1' : m ≤ o + 1 := Nat.le_of_ble_eq_true h1
      obtain ⟨ih1, ih2⟩ := rdSeg_spec hm h
      refine ⟨ih1, fun i x hx => ?_⟩
      simp only [List.flatten_cons]
      rw [List.getElem?_append_right (by omega), hg]
      have := ih2 i x hx
      rwa [show o + 1 + i - m = o + 1 - m + i by omega]

theorem cellsAt_blk {b o s T : Nat} {ss : List (List Value)} {ns : List Nat} {cs : List Value} (h : (blk b ss ns T).holds w) (hs : rdSeg o s ss ns = some cs) : (cellsAt (.pointer (some ⟨b, o, none⟩)) cs).holds w := by
  obtain ⟨hm, fr, hh, hf⟩ := h
  obtain ⟨_, h2⟩ := rdSeg_spec hm hs
  refine ⟨b, o, rfl, (Array.getElem?_eq_some_iff.1 hh).1, fun i x hx => ?_⟩
  rw [cell_of_row w b (o + i) _ T fr hh]
  simpa using h2 i x hx

/-- A load of one cell out of a block that is known. -/
theorem s_load1 {t b o T : Nat} {ss : List (List Value)} {ns : List Nat} (hE : Env a n L) (hx : ev L x = some (.pointer (some ⟨b, o, none⟩))) (hB : (blk b ss ns T).holds w) (hs : rdSeg o 1 ss ns = some [v]) (ht : OneT P t)
    (hX : ∀ X, D = some X → ¬ X b) (hn : Nat.blt d n = true) (k : ∀ a', Env a' n ((d, v) :: L) → wpL P ops D Q rest a' w) : wpL P ops D Q ((true, ⟨some d, .load t x, ty, pos, aft, none⟩) :: rest) a w :=
  s_loadAt1 hE hx (cellsAt_blk hB hs) ht (fun X hD b' hb => by simp [valBlocks] at hb; subst hb; exact hX X hD) hn k

/-- A load of a row out of a block that is known. -/
theorem s_loadN {t b o s T : Nat} {ss : List (List Value)} {ns : List Nat} {cs : List Value} (hE : Env a n L) (hx : ev L x = some (.pointer (some ⟨b, o, none⟩))) (hB : (blk b ss ns T).holds w) (ht : RowT P t s) (hs : rdSeg o s ss ns = some cs)
    (hX : ∀ X, D = some X → ¬ X b) (hn : Nat.blt d n = true) (k : ∀ a', Env a' n ((d, .agg cs.toArray) :: L) → wpL P ops D Q rest a' w) : wpL P ops D Q ((true, ⟨some d, .load t x, ty, pos, aft, none⟩) :: rest) a w :=
  s_loadAtN hE hx (cellsAt_blk hB hs) (by rw [(rdSeg_spec hB.1 hs).1]; exact ht) (fun X hD b' hb => by simp [valBlocks] at hb; subst hb; exact hX X hD) hn k

end Go.Kx
