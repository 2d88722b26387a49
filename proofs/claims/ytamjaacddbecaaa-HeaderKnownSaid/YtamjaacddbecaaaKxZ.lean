/- Own library, part Z: structs are stored whole; structs and arrays of whatever depth are compared. -/
import Derived.Test.YtamjaacddbecaaaKxJ2
import Derived.Test.YtamjaacddbecaaaKxW
import Derived.DeepKeys
set_option linter.unusedSimpArgs false
set_option linter.unusedVariables false
namespace Go.Kx
open Go
variable {P : Program} {ops : Array Oper} {D : Option (Nat → Prop)} {Q : Exit → Act → World → Prop} {w0 w w' : World} {M : List Nat} {H H' : List Ent}
  {a : Act} {n : Nat} {L : List (Nat × Value)} {rest : List (Bool × Oper)} {d : Nat} {ty : TypeId} {pos : String} {aft : Array Edge} {x y z : Operand} {u v r : Value}

/-- A struct is stored over parts k .. k + m. -/
theorem s_storeSegs {t b o T s : Nat} (k m : Nat) {ss vss : List (List Value)} {ns : List Nat} (hE : Env a n L) (hx : ev L x = some (.pointer (some ⟨b, o, none⟩))) (hy : ev L y = some v) (hM : Mem w0 M w (blk b ss ns T :: H))
    (hv : v.cells = vss.flatten.toArray) (ht : (P.info? t).map (·.size) = some s) (hl : vss.map List.length = (ns.drop k).take m) (hs : ((ns.drop k).take m).sum = s) (hk : Nat.ble (k + m) ns.length = true) (h1 : One vss.flatten) (ho : (ns.take k).sum = o)
    (hX : ∀ X, D = some X → X b) (kk : ∀ w', Mem w0 M w' (blk b (ss.take k ++ vss ++ ss.drop (k + m)) ns T :: H) → wpL P ops D Q rest a w') : wpL P ops D Q ((false, ⟨none, .store t x y, ty, pos, aft, none⟩) :: rest) a w := by
  have hk' : k + m ≤ ns.length := Nat.le_of_ble_eq_true hk
  have hlen : ss.map List.length = ns := (hM.get 0 rfl).1
  have hsl : ss.length = ns.length := by rw [← hlen, List.length_map]
  have hmid : ((ss.drop k).take m).flatten.length = s := by rw [List.length_flatten, List.map_take, List.map_drop, hlen]; exact hs
  have hsplit : ss.take k ++ (ss.drop k).take m ++ ss.drop (k + m) = ss := by
    rw [← List.drop_drop, List.append_assoc, List.take_append_drop, List.take_append_drop]
  have hvl : vss.length = m := by
    have := congrArg List.length hl
    rw [List.length_map, List.length_take, List.length_drop] at this; omega
  have hfl : vss.flatten.length = s := by rw [List.length_flatten, hl]; exact hs
  have hM1 := hM.resplit (ss' := ss.take k ++ [((ss.drop k).take m).flatten] ++ ss.drop (k + m)) (ns' := ns.take k ++ [s] ++ ns.drop (k + m))
    (by conv => rhs; rw [← hsplit]
        simp) (by rw [List.map_append, List.map_append, List.map_take, List.map_drop, hlen, List.map_cons, hmid]; rfl)
  have htk : (ss.take k).length = k := by rw [List.length_take]; omega
  have hg : (ss.take k ++ [((ss.drop k).take m).flatten] ++ ss.drop (k + m))[k]? = some ((ss.drop k).take m).flatten := by
    rw [List.append_assoc, List.getElem?_append_right (by omega), htk, Nat.sub_self]; rfl
  refine s_storeSeg k hE hx hy hM1 hv ht hfl h1 hg hmid (by rw [List.append_assoc, List.take_append_of_le_length (by rw [List.length_take]; omega), List.take_take, Nat.min_self]; exact ho) hX fun w2 hM2 => kk w2 ?_
  refine hM2.resplit ?_ ?_
  · have hset : ∀ (A : List (List Value)) (B V : List Value) (C : List (List Value)), A.length = k → (A ++ [B] ++ C).set k V = A ++ [V] ++ C := fun A B V C hA => by
      rw [List.append_assoc, List.set_append_right _ _ (by omega), hA, Nat.sub_self, List.append_assoc]; rfl
    rw [hset _ _ _ _ htk]
    simp
  · rw [List.map_append, List.map_append, List.map_take, List.map_drop, hlen, hl, ← List.drop_drop, List.append_assoc, List.take_append_drop, List.take_append_drop]

def OneAll : List (List Value) → Prop
  | [] => True
  | c :: cs => One c ∧ OneAll cs
theorem one_fl : ∀ {cs : List (List Value)}, OneAll cs → One cs.flatten
  | [], _ => fun v hv => by cases hv
  | c :: cs, h => fun v hv => by
    rw [List.flatten_cons] at hv
    rcases List.mem_append.1 hv with hv | hv
    · exact h.1 v hv
    · exact one_fl h.2 v hv

/-! ## Equality of structs -/

def litV : Value → Lit
  | .bool b => .bool b
  | .int k i => .int k i
  | .string s => .string s.data.toList
  | _ => .nil
def isKey : Value → Bool
  | .bool _ => true
  | .int _ _ => true
  | .string _ => true
  | _ => false

theorem litV_inj {u v : Value} (hu : isKey u = true) (hv : isKey v = true) : litV u = litV v ↔ u = v := by
  constructor
  · intro h
    cases u <;> simp [isKey] at hu <;> cases v <;> simp [isKey] at hv <;> simp [litV] at h
    · rw [h]
    · rw [h.1, h.2]
    · rename_i s t; rw [show s = t from ByteArray.ext h]
  · rintro rfl; rfl

theorem litVs_inj : ∀ {a b : List Value}, (∀ v, v ∈ a → isKey v = true) → (∀ v, v ∈ b → isKey v = true) → (a.map litV = b.map litV ↔ a = b)
  | [], [], _, _ => by simp
  | [], _ :: _, _, _ => by simp
  | _ :: _, [], _, _ => by simp
  | u :: a, v :: b, ha, hb => by
    simp only [List.map_cons, List.cons.injEq]
    rw [litV_inj (ha u (.head _)) (hb v (.head _)), litVs_inj (fun x hx => ha x (.tail _ hx)) (fun x hx => hb x (.tail _ hx))]

/-- Cells that a type of key reads, up to depth k. -/
def KL (P : Program) (k t : Nat) (cs : List Value) : Prop := (∀ D, P.keyLits (D + k) t cs = some (cs.map litV)) ∧ ∀ v, v ∈ cs → isKey v = true

theorem KL.int {k t : Nat} {q : IntKind} {i : Int} (hu : P.underlying t = some (.int q)) (hw : (Lit.int q i).wf = true) : KL P (k + 1) t [.int q i] :=
  ⟨fun D => by rw [← Nat.add_assoc]; simp [Program.keyLits, hu, hw, litV], fun v hv => by rw [List.mem_singleton.1 hv]; rfl⟩
theorem KL.bool {k t : Nat} {b : Bool} (hu : P.underlying t = some .bool) : KL P (k + 1) t [.bool b] :=
  ⟨fun D => by rw [← Nat.add_assoc]; simp [Program.keyLits, hu, litV], fun v hv => by rw [List.mem_singleton.1 hv]; rfl⟩

def KLs (P : Program) (k : Nat) : List TypeId → List (List Value) → Prop
  | [], [] => True
  | t :: ts, c :: cs => KL P k t c ∧ KLs P k ts cs
  | _, _ => False

theorem KLs.go {k : Nat} (D : Nat) : ∀ (fs : List Field) (ps : List (List Value)) (pre : List Value), KLs P k (fs.map (·.type)) ps → fs.map (fun f => (f.offset, P.cellsOf f.type)) = plc pre.length (ps.map List.length) → ∀ cs : List Value, cs = pre ++ ps.flatten →
    (fs.mapM fun f => P.keyLits (D + k) f.type ((cs.drop f.offset).take (P.cellsOf f.type))) = some (ps.map fun p => p.map litV)
  | [], [], _, _, _, _, _ => rfl
  | [], _ :: _, _, h, _, _, _ => h.elim
  | _ :: _, [], _, h, _, _, _ => h.elim
  | f :: fs, p :: ps, pre, h, ho, cs, hc => by
    simp only [List.map_cons, plc, List.cons.injEq, Prod.mk.injEq] at ho
    have e1 : (cs.drop f.offset).take (P.cellsOf f.type) = p := by
      rw [ho.1.1, ho.1.2, hc, List.drop_left, List.flatten_cons, List.take_left]
    have ih := KLs.go D fs ps (pre ++ p) h.2 (by rw [List.length_append]; exact ho.2) cs (by rw [hc]; simp)
    rw [List.mapM_cons, e1, h.1.1 D, ih]
    rfl

theorem KLs.keys {k : Nat} : ∀ {ts : List TypeId} {ps : List (List Value)}, KLs P k ts ps → ∀ v, v ∈ ps.flatten → isKey v = true
  | [], [], _, v, hv => by cases hv
  | [], _ :: _, h, _, _ => h.elim
  | _ :: _, [], h, _, _ => h.elim
  | t :: ts, p :: ps, h, v, hv => by
    rw [List.flatten_cons] at hv
    rcases List.mem_append.1 hv with hv | hv
    · exact h.1.2 v hv
    · exact KLs.keys h.2 v hv

theorem KL.struct {k t : Nat} {fs : Array Field} {ps : List (List Value)} (ns : List Nat) (hu : P.underlying t = some (.struct fs)) (hn : (fs.all (·.name != "_")) = true) (hc : P.cellsOf t = ns.sum) (ho : fs.toList.map (fun f => (f.offset, P.cellsOf f.type)) = plc 0 ns)
    (hl : ps.map List.length = ns) (ts : List TypeId) (hts : fs.toList.map (·.type) = ts) (h : KLs P k ts ps) : KL P (k + 1) t ps.flatten := by
  refine ⟨fun D => ?_, h.keys⟩
  have hlen : ps.flatten.length = P.cellsOf t := by rw [List.length_flatten, hl, hc]
  have := KLs.go (P := P) (k := k) D fs.toList ps [] (hts ▸ h) (by rw [hl]; exact ho) ps.flatten rfl
  rw [← Nat.add_assoc]
  simp only [Program.keyLits, hu]
  rw [if_pos ⟨hlen, hn⟩, this]
  simp [List.map_flatten]

theorem KLs.rep {k e m : Nat} (D : Nat) : ∀ (n i : Nat) (ps : List (List Value)) (pre : List Value), (∀ p, p ∈ ps → KL P k e p ∧ p.length = m) → ps.length = n → pre.length = i * m → ∀ cs : List Value, cs = pre ++ ps.flatten →
    ((List.range' i n).mapM fun i => P.keyLits (D + k) e ((cs.drop (i * m)).take m)) = some (ps.map fun p => p.map litV)
  | 0, _, [], _, _, _, _, _, _ => rfl
  | 0, _, _ :: _, _, _, h, _, _, _ => by cases h
  | n + 1, _, [], _, _, h, _, _, _ => by cases h
  | n + 1, i, p :: ps, pre, h, hn, hp, cs, hc => by
    obtain ⟨h1, h2⟩ := h p (.head _)
    have e1 : (cs.drop (i * m)).take m = p := by
      rw [← hp, ← h2, hc, List.drop_left, List.flatten_cons, List.take_left]
    have ih := KLs.rep D n (i + 1) ps (pre ++ p) (fun q hq => h q (.tail _ hq)) (by simpa using hn) (by rw [List.length_append, hp, h2, Nat.succ_mul]) cs (by rw [hc]; simp)
    rw [List.range'_succ, List.mapM_cons, e1, h1.1 D, ih]
    rfl

theorem KL.array {k t e m n : Nat} {ps : List (List Value)} (hu : P.underlying t = some (.array n e)) (hc : P.cellsOf t = n * m) (he : P.cellsOf e = m) (hn : ps.length = n) (h : ∀ p, p ∈ ps → KL P k e p ∧ p.length = m) : KL P (k + 1) t ps.flatten := by
  refine ⟨fun D => ?_, fun v hv => ?_⟩
  · have hlen : ps.flatten.length = P.cellsOf t := by
      rw [List.length_flatten, hc, ← hn, show ps.map List.length = List.replicate ps.length m from List.eq_replicate_iff.2 ⟨by simp, fun b hb => by obtain ⟨q, hq, rfl⟩ := List.mem_map.1 hb; exact (h q hq).2⟩]
      simp
    have := KLs.rep (P := P) (k := k) (e := e) (m := m) D n 0 ps [] h hn (by simp) ps.flatten rfl
    rw [← Nat.add_assoc]
    simp only [Program.keyLits, hu]
    rw [if_pos hlen, he, List.range_eq_range', this]
    simp [List.map_flatten]
  · obtain ⟨p, hp, hv⟩ := List.mem_flatten.1 hv
    exact (h p hp).1.2 v hv

theorem KL.arr8 {k t e n : Nat} {bs : List UInt8} (hu : P.underlying t = some (.array n e)) (he : P.underlying e = some (.int .u8)) (hc : P.cellsOf t = n) (hce : P.cellsOf e = 1) (hn : bs.length = n) : KL P (k + 2) t (bv bs) := by
  have h := KL.array (P := P) (k := k + 1) (ps := bs.map fun b => [bV b]) hu (by rw [hc, Nat.mul_one]) hce (by simpa using hn) (fun p hp => by
    obtain ⟨b, _, rfl⟩ := List.mem_map.1 hp
    refine ⟨KL.int he ?_, rfl⟩
    have := b.toNat_lt
    simp [Lit.wf, IntKind.min, IntKind.max, IntKind.signed, IntKind.bits]
    omega)
  have e1 : (bs.map fun b => [bV b]).flatten = bv bs := by
    clear h hn
    induction bs with
    | nil => rfl
    | cons b bs ih => rw [List.map_cons, List.flatten_cons, ih]; rfl
  rw [e1] at h; exact h

theorem bins_key {t m : Nat} {cs ds : List Value} {b : Bool} {k k' : Nat} (hk : P.keyTypeAt m t = true) (hm : Nat.ble m 10 = true) (hg : P.eqGuardType P.depth t = false) (ha : (match P.underlying t with | some (.array _ _) | some (.struct _) => true | _ => false) = true) (hc : KL P k t cs) (hd : KL P k' t ds) (hb : b = true ↔ cs = ds) :
    Bin P .eql t (.agg cs.toArray) (.agg ds.toArray) (.bool (b)) ∧ Bin P .neq t (.agg cs.toArray) (.agg ds.toArray) (.bool (!b)) := by
  have hm' : m ≤ 10 := Nat.le_of_ble_eq_true hm
  have hf : ∀ {cs : List Value} {k : Nat}, KL P k t cs → (Value.agg cs.toArray).formed P t = true := fun {cs k} h => by
    have h0 := h.1 1
    rw [Nat.add_comm] at h0
    unfold Program.keyLits at h0
    unfold Value.formed
    split at ha
    · rename_i hu; simp only [hu] at h0 ⊢
      split at h0
      · rename_i hc; simp [hc]
      · cases h0
    · rename_i hu; simp only [hu] at h0 ⊢
      split at h0
      · rename_i hc; simp [hc.1]
      · cases h0
    · cases ha
  have key : ∀ w, (Op.equal t (.agg cs.toArray) (.agg ds.toArray)).run P w = .ok (b) w := by
    intro w
    obtain ⟨r, hr, hiff⟩ := run_equalIn_deep (P := P) (10000 - m) m t hk w _ _ (.agg cs.toArray) (.agg ds.toArray) _ _ (hf hc) (hf hd) (hc.1 0) (hd.1 0)
    rw [show 10000 - m + m = 10000 by omega] at hr
    rw [litVs_inj hc.2 hd.2] at hiff
    have : r = b := by rw [Bool.eq_iff_iff, hiff, hb]
    rw [← this]; exact hr
  have hgd : ∀ (op : BinOp) x y (w : World), op = .eql ∨ op = .neq → (eqGuard op t x y (.agg cs.toArray) (.agg ds.toArray)).run P w = .ok () w := by
    intro op x y w ho
    rcases ho with rfl | rfl <;> simp [eqGuard, Sem.run_bind, run_program, Result.andThen_ok, hg]
  constructor
  · intro x y w
    have e : (binOp .eql t (.agg cs.toArray) (.agg ds.toArray)).run P w = .ok (.bool (b)) w := by
      show (do pure (Value.bool (← Op.equal t (.agg cs.toArray) (.agg ds.toArray))) : Sem Value).run P w = _
      rw [Sem.run_bind, key]; rfl
    rw [Sem.run_bind, hgd _ _ _ _ (.inl rfl)]; exact e
  · intro x y w
    have e : (binOp .neq t (.agg cs.toArray) (.agg ds.toArray)).run P w = .ok (.bool (!b)) w := by
      show (do pure (Value.bool (!(← Op.equal t (.agg cs.toArray) (.agg ds.toArray)))) : Sem Value).run P w = _
      rw [Sem.run_bind, key]; rfl
    rw [Sem.run_bind, hgd _ _ _ _ (.inr rfl)]; exact e

/-- A text of these bytes. -/
def tx (l : List UInt8) : ByteArray := ⟨l.toArray⟩
@[simp] theorem tx_list (l : List UInt8) : (tx l).data.toList = l := rfl

end Go.Kx
