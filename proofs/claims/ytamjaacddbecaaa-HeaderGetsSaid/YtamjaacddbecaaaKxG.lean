/- Own library, part G: bytes; slices made of parts; slicing; more calls. -/
import Derived.Test.YtamjaacddbecaaaKxF
set_option linter.unusedSimpArgs false
set_option linter.unusedVariables false
namespace Go.Kx
open Go
variable {P : Program} {ops : Array Oper} {D : Option (Nat → Prop)} {Q : Exit → Act → World → Prop} {w0 w w' : World} {M : List Nat} {H H' : List Ent}
  {a : Act} {n : Nat} {L : List (Nat × Value)} {rest : List (Bool × Oper)} {d : Nat} {ty : TypeId} {pos : String} {aft : Array Edge} {x y z : Operand} {u v r : Value}

/-! ## Bytes -/

def bV (b : UInt8) : Value := .int .u8 (b.toNat : Int)
def bv (bs : List UInt8) : List Value := bs.map bV

@[simp] theorem bv_length (bs : List UInt8) : (bv bs).length = bs.length := by simp [bv]
@[simp] theorem bv_append (a b : List UInt8) : bv (a ++ b) = bv a ++ bv b := by simp [bv]
@[simp] theorem bv_nil : bv [] = [] := rfl
theorem bv_cons (a : UInt8) (b : List UInt8) : bv (a :: b) = bV a :: bv b := rfl
theorem bv_take (bs : List UInt8) (i : Nat) : (bv bs).take i = bv (bs.take i) := by simp [bv, List.map_take]
theorem bv_drop (bs : List UInt8) (i : Nat) : (bv bs).drop i = bv (bs.drop i) := by simp [bv, List.map_drop]
theorem bv_one (bs : List UInt8) : One (bv bs) := fun v hv => by
  obtain ⟨b, _, rfl⟩ := List.mem_map.1 hv; rfl
theorem bv_elem {bs : List UInt8} {j : Nat} (h : j < bs.length) : ((bv bs).drop (j * 1)).take 1 = [bV (bs.getD j 0)] := by
  rw [Nat.mul_one, bv_drop, List.drop_eq_getElem_cons h, bv_cons]
  simp [h]
theorem bv_inj {a b : List UInt8} (h : bv a = bv b) : a = b := by
  have inj : ∀ x y, bV x = bV y → x = y := fun x y h => by
    have : (x.toNat : Int) = y.toNat := by simpa [bV] using h
    exact UInt8.toNat_inj.1 (by omega)
  induction a generalizing b with
  | nil => cases b with
    | nil => rfl
    | cons y b => simp [bv] at h
  | cons x a ih => cases b with
    | nil => simp [bv] at h
    | cons y b =>
      simp only [bv_cons, List.cons.injEq] at h
      rw [inj _ _ h.1, ih h.2]

/-- A byte that an integer is, wrapped. -/
theorem wrap_u8_ofNat (m : Nat) : IntKind.u8.wrap (m : Int) = ((UInt8.ofNat m).toNat : Int) := by
  rw [IntKind.wrap_u8]; simp

/-! ## Slices made of parts -/

def enumV : Nat → List Value → List (Nat × Value)
  | _, [] => []
  | i, v :: r => (i, v) :: enumV (i + 1) r

theorem foldl_set (cs : List Value) : ∀ (o : Nat) (l : Array Value), o + cs.length ≤ l.size →
    (cs.toArray.zipIdx.foldl (fun a (c, j) => a.setIfInBounds (o + j) c) l) = (l.toList.take o ++ cs ++ l.toList.drop (o + cs.length)).toArray := by
  have key : ∀ (cs : List Value) (k o : Nat) (l : Array Value), o + k + cs.length ≤ l.size →
      ((cs.zipIdx k).foldl (fun a (c, j) => a.setIfInBounds (o + j) c) l) = (l.toList.take (o + k) ++ cs ++ l.toList.drop (o + k + cs.length)).toArray := by
    intro cs
    induction cs with
    | nil => intro k o l h; simp
    | cons c cs ih =>
      intro k o l h
      simp only [List.zipIdx_cons, List.foldl_cons]
      rw [ih (k + 1) o _ (by simp at h ⊢; omega)]
      congr 1
      have hlt : o + k < l.toList.length := by simp at h ⊢; omega
      simp only [Array.toList_setIfInBounds]
      have e2 : List.take (o + (k + 1)) (l.toList.set (o + k) c) = List.take (o + k) l.toList ++ [c] := by
        rw [show o + (k + 1) = (o + k) + 1 by omega, List.take_succ_eq_append_getElem (by simpa using hlt)]
        rw [List.take_set_of_le (Nat.le_refl _)]
        simp
      have e3 : List.drop (o + (k + 1) + cs.length) (l.toList.set (o + k) c) = List.drop (o + k + (c :: cs).length) l.toList := by
        rw [List.drop_set_of_lt (by omega)]
        congr 1; simp; omega
      rw [e2, e3]; simp
  intro o l h
  have := key cs 0 o l (by simpa using h)
  simpa using this

theorem fill_enum (size : Nat) : ∀ (vs : List Value) (i : Nat) (cells : Array Value), (∀ v, v ∈ vs → v.cells.size = size) → cells.size = (i + vs.length) * size →
    Instr.fill (fun i => some (i * size, size)) cells (enumV i vs) = some (cells.toList.take (i * size) ++ vs.flatMap (fun v => v.cells.toList)).toArray
  | [], i, cells, _, hs => by
    simp only [enumV, Instr.fill, List.flatMap_nil, List.append_nil]
    rw [List.take_of_length_le (by simp at hs ⊢; omega)]
  | v :: vs, i, cells, hv, hs => by
    have hsz := hv v (List.mem_cons_self ..)
    have hle : i * size + size ≤ cells.size := by
      rw [hs, List.length_cons, show i + (vs.length + 1) = (i + 1) + vs.length by omega, Nat.add_mul, Nat.add_mul]; omega
    simp only [enumV, Instr.fill]
    rw [if_neg (by simp [hsz]; omega)]
    have hf := foldl_set v.cells.toList (i * size) cells (by simpa [hsz] using hle)
    simp only [Array.toArray_toList, Array.length_toList] at hf
    rw [hf, fill_enum size vs (i + 1) _ (fun u hu => hv u (List.mem_cons_of_mem _ hu)) ?_]
    · congr 2
      have hl : (List.take (i * size) cells.toList ++ v.cells.toList).length = (i + 1) * size := by
        simp [hsz, Nat.add_mul]; omega
      simp only [List.flatMap_cons]
      rw [← List.append_assoc]
      congr 1
      rw [← hl, List.take_left]
    · simp [hsz]
      rw [hs, List.length_cons, show i + (vs.length + 1) = (i + 1) + vs.length by omega] at *
      omega

theorem run_buildSlice {t e es len bytes : Nat} {vs : List Value} (ht : SlT P t e es bytes) (hl : vs.length = len) (hv : ∀ v, v ∈ vs → v.cells.size = es) (hm : len * es ≤ 16777216) (w : World) :
    (Instr.buildSlice t len (enumV 0 vs).toArray).run P w = .ok (.slice (some ⟨w.heap.size, 0, none⟩) len len) (w.alloc (.cells (vs.flatMap (fun v => v.cells.toList)).toArray e)) := by
  obtain ⟨hu, hs, hb, z, hz, hzs⟩ := ht
  have hz0 : ∀ w, (zeroValue e).run P w = .ok z w := fun w => by
    cases hi : P.info? e with
    | none => simp [hi] at hs
    | some i => simp [hi] at hz; simp [zeroValue, typeInfo, hi, hz]
  have hm' : ¬ (len * es > 2 ^ 24) := by omega
  simp only [Instr.buildSlice, Sem.run_bind, run_underlying hu, Result.andThen_ok, run_sizeOf hs, hm', if_false]
  have key : ∀ zero : Array Value, Instr.fill (fun i => some (i * es, es)) ((Array.range (len * es)).map (zero[· % zero.size]!)) (enumV 0 vs) = some (vs.flatMap (fun v => v.cells.toList)).toArray := fun zero => by
    have := fill_enum es vs 0 ((Array.range (len * es)).map (zero[· % zero.size]!)) hv (by simp [hl])
    simpa using this
  have hfin : ∀ zero : Array Value, ((match Instr.fill (fun i => some (i * es, es)) ((Array.range (len * es)).map (zero[· % zero.size]!)) (enumV 0 vs) with
      | some cells => do pure (Value.slice (some (← newRow e cells)) len len)
      | _ => stuck "buildSlice: a part of the wrong size" : Sem Value)).run P w = .ok (.slice (some ⟨w.heap.size, 0, none⟩) len len) (w.alloc (.cells (vs.flatMap (fun v => v.cells.toList)).toArray e)) := fun zero => by
    rw [key]; simp [newRow]
  by_cases h0 : len * es = 0
  · simp only [h0, if_true]
    have := hfin #[]
    rw [h0] at this
    exact this
  · simp only [h0, if_false, Sem.run_bind, hz0, Result.andThen_ok, Sem.run_pure]
    exact hfin z.cells

theorem Mem.newSlice (hM : Mem w0 M w H) {es len T : Nat} {cs : List Value} (hl : cs.length = len * es) (hm : len ≤ maxLen) : Mem w0 M (w.alloc (.cells cs.toArray T)) (own (.slice (some ⟨w.heap.size, 0, none⟩) len len) es len cs :: H) := by
  refine Mem.act (es := []) (es' := [own (.slice (some ⟨w.heap.size, 0, none⟩) len len) es len cs]) hM rfl rfl rfl (by simp) (fun b hb _ => alloc_old w _ b hb) ?_ ?_ ?_ ?_ (List.pairwise_singleton ..)
  · intro e he; rw [List.mem_singleton.1 he]
    exact own_of_new w cs es len len T cs.toArray hl (Nat.le_refl _) hm (by simpa using hl) (by rw [← hl]; simp)
  · intro e he b hb; rw [List.mem_singleton.1 he] at hb; right; simp [own, valBlocks] at hb; omega
  · intro e he b hb; rw [List.mem_singleton.1 he] at hb; cases hb
  · intro e he b hb; rw [List.mem_singleton.1 he] at hb; cases hb

def enumO : Nat → List Operand → List (Nat × Operand)
  | _, [] => []
  | i, v :: r => (i, v) :: enumO (i + 1) r

theorem enumO_map (f : Operand → Value) : ∀ (xs : List Operand) (i : Nat), (enumO i xs).map (fun p => (p.1, f p.2)) = enumV i (xs.map f)
  | [], i => rfl
  | x :: xs, i => by simp [enumO, enumV, enumO_map f xs]

theorem s_buildSlice {t e es bytes len : Nat} {xs : List Operand} {vs : List Value} {ps : List (Nat × Operand)} (cs : List Value) (hE : Env a n L) (hM : Mem w0 M w H) (ht : SlT P t e es bytes) (hps : ps = enumO 0 xs) (hv : evL L xs = some vs)
    (hl : vs.length = len) (hz : ∀ v, v ∈ vs → v.cells.size = es) (hc : vs.flatMap (fun v => v.cells.toList) = cs) (hm : Nat.ble (len * es) 16777216 = true) (hn : Nat.blt d n = true) (hlm : Nat.ble len 16777216 = true)
    (k : ∀ a' v' w', Env a' n ((d, v') :: L) → Mem w0 M w' (own v' es len cs :: H) → wpL P ops D Q rest a' w') :
    wpL P ops D Q ((false, ⟨some d, .buildSlice t len ps.toArray, ty, pos, aft, none⟩) :: rest) a w := by
  subst hps
  have hm' : len * es ≤ 16777216 := Nat.le_of_ble_eq_true hm
  have hlm' : len ≤ 16777216 := Nat.le_of_ble_eq_true hlm
  have hcl : cs.length = len * es := by
    rw [← hc, List.length_flatMap, ← hl]
    clear hc hl hv
    induction vs with
    | nil => simp
    | cons v vs ih =>
      simp only [List.map_cons, List.sum_cons, List.length_cons]
      rw [ih (fun u hu => hz u (List.mem_cons_of_mem _ hu))]
      have := hz v (List.mem_cons_self ..)
      simp [this, Nat.add_mul]; omega
  refine b_val hE hn (v := .slice (some ⟨w.heap.size, 0, none⟩) len len) (w' := w.alloc (.cells cs.toArray e)) ?_ (Sta.alloc D w _) (fun a' hE' => k a' _ _ hE' (hM.newSlice hcl (by rw [maxLen_eq]; omega)))
  have := run_buildSlice (P := P) ht hl hz hm' w
  rw [hc] at this
  simp only [execOp, Sem.run_bind]
  rw [show ((enumO 0 xs).toArray.map fun x => match x with | (i, x) => (i, a.eval x)) = (enumV 0 vs).toArray by
    rw [← hE.evals hv, ← enumO_map]; simp]
  rw [this]; rfl

/-! ## Building a struct -/

theorem wrSeg_set : ∀ {ss : List (List Value)} {k : Nat} {vs g : List Value}, ss[k]? = some g → vs.length = g.length → wrSeg k 0 vs ss = ss.set k vs
  | [], k, vs, g, h, _ => by simp at h
  | g' :: ss, 0, vs, g, h, hl => by
    simp at h; subst h
    simp [wrSeg, wr_all hl]
  | g' :: ss, k + 1, vs, g, h, hl => by
    simp only [wrSeg, List.set_cons_succ]
    rw [wrSeg_set (by simpa using h) hl]



def fldPl (P : Program) (t : Nat) : Option (List (Nat × Nat)) :=
  match P.underlying t with
  | some (.struct fs) => fs.toList.mapM fun f => (P.info? f.type).map fun i => (f.offset, i.size)
  | _ => none

def plc : Nat → List Nat → List (Nat × Nat)
  | _, [] => []
  | o, n :: r => (o, n) :: plc (o + n) r

theorem plc_get : ∀ {ns : List Nat} {o i : Nat} {m : Nat}, ns[i]? = some m → (plc o ns)[i]? = some (o + (ns.take i).sum, m)
  | [], o, i, m, h => by simp at h
  | n :: r, o, 0, m, h => by simp at h; subst h; simp [plc]
  | n :: r, o, i + 1, m, h => by
    simp only [plc, List.getElem?_cons_succ, List.take_succ_cons, List.sum_cons]
    rw [plc_get (ns := r) (by simpa using h), Nat.add_assoc]

def setAll : List (List Value) → List (Nat × Value) → List (List Value) → List (List Value)
  | zs, (i, _) :: r, c :: cs => setAll (zs.set i c) r cs
  | zs, _, _ => zs

def PartsOk (ns : List Nat) : List (Nat × Value) → List (List Value) → Prop
  | [], [] => True
  | (i, v) :: r, c :: cs => v.cells = c.toArray ∧ ns[i]? = some c.length ∧ PartsOk ns r cs
  | _, _ => False

theorem fill_parts {ns : List Nat} : ∀ (ps : List (Nat × Value)) (cs zs : List (List Value)), zs.map List.length = ns → PartsOk ns ps cs →
    Instr.fill ((plc 0 ns).toArray[·]?) zs.flatten.toArray ps = some (setAll zs ps cs).flatten.toArray
  | [], [], zs, _, _ => by simp [Instr.fill, setAll]
  | (i, v) :: r, c :: cs, zs, hz, h => by
    obtain ⟨h1, h2, h3⟩ := h
    have hp : (plc 0 ns).toArray[i]? = some ((ns.take i).sum, c.length) := by
      have := plc_get (o := 0) h2
      simpa using this
    obtain ⟨g, hg⟩ : ∃ g, zs[i]? = some g := by
      have : (zs.map List.length)[i]? = some c.length := by rw [hz]; exact h2
      rw [List.getElem?_map] at this
      cases hzi : zs[i]? with
      | none => rw [hzi] at this; cases this
      | some g => exact ⟨g, rfl⟩
    have hgl : g.length = c.length := by
      have : (zs.map List.length)[i]? = some c.length := by rw [hz]; exact h2
      rw [List.getElem?_map, hg] at this
      simpa using this
    obtain ⟨w1, w2⟩ := wrSeg_flatten (j := 0) (vs := c) hg (by omega)
    rw [take_flatten_length, hz, Nat.add_zero, wrSeg_set hg hgl.symm] at w1
    rw [wrSeg_set hg hgl.symm] at w2
    have hle : (ns.take i).sum + c.length ≤ zs.flatten.length := by
      have hk : i < zs.length := (List.getElem?_eq_some_iff.1 hg).1
      have : zs.flatten.length = (zs.take i).flatten.length + (zs.drop i).flatten.length := by
        rw [← List.length_append, ← List.flatten_append, List.take_append_drop]
      rw [this, List.drop_eq_getElem_cons hk, take_flatten_length, hz]
      have hgk : zs[i] = g := (List.getElem?_eq_some_iff.1 hg).2
      simp only [List.flatten_cons, List.length_append, hgk]
      omega
    simp only [Instr.fill, hp, h1]
    rw [if_neg (by simp; simpa using hle)]
    have hf := foldl_set c (ns.take i).sum zs.flatten.toArray (by simpa using hle)
    rw [hf]
    have e : List.take (ns.take i).sum zs.flatten ++ c ++ List.drop ((ns.take i).sum + c.length) zs.flatten = (zs.set i c).flatten := w1
    simp only []
    rw [e, fill_parts r cs (zs.set i c) (w2.trans hz) h3]
    rfl
  | [], _ :: _, _, _, h => h.elim
  | _ :: _, [], _, _, h => h.elim

theorem mapM_fields {P : Program} (w : World) : ∀ (fs : List Field) (l : List (Nat × Nat)), fs.mapM (fun f => (P.info? f.type).map fun i => (f.offset, i.size)) = some l →
    (fs.mapM (fun f => (do pure (f.offset, ← sizeOf f.type) : Sem (Nat × Nat)))).run P w = .ok l w
  | [], l, h => by simp at h; subst h; rfl
  | f :: fs, l, h => by
    rw [List.mapM_cons] at h ⊢
    cases hi : P.info? f.type with
    | none => rw [hi] at h; cases h
    | some i =>
      rw [hi] at h
      simp only [Option.map_some, Option.bind_eq_bind, Option.bind_some] at h
      cases hr : fs.mapM (fun f => (P.info? f.type).map fun i => (f.offset, i.size)) with
      | none => rw [hr] at h; cases h
      | some l' =>
        rw [hr] at h
        simp at h
        subst h
        rw [Sem.run_bind, Sem.run_bind, run_sizeOf (by rw [hi]; rfl)]
        simp only [Result.andThen_ok, Sem.run_pure]
        rw [Sem.run_bind, mapM_fields w fs l' hr]
        rfl

theorem bld_struct {t : Nat} {zs cs : List (List Value)} {ns : List Nat} {ps : List (Nat × Value)} (hz : Zero P t zs) (hns : zs.map List.length = ns) (hp : fldPl P t = some (plc 0 ns)) (h : PartsOk ns ps cs) :
    Bld P t ps.toArray (.agg (setAll zs ps cs).flatten.toArray) := fun w => by
  obtain ⟨z, hz1, hz2⟩ := run_zero hz
  unfold fldPl at hp
  cases hu : P.underlying t with
  | none => simp [hu] at hp
  | some dsc =>
    rw [hu] at hp
    cases dsc <;> simp only at hp <;> try (cases hp; done)
    rename_i fs
    have hm := mapM_fields (P := P) w fs.toList _ hp
    have hm' : (fs.mapM (fun f => (do pure (f.offset, ← sizeOf f.type) : Sem (Nat × Nat)))).run P w = .ok (plc 0 ns).toArray w := by
      rw [← Array.toArray_toList (xs := fs), List.mapM_toArray]
      rw [Sem.run_map, hm]; rfl
    unfold Instr.build
    rw [Sem.run_bind, hz1, Result.andThen_ok, Sem.run_bind, run_underlying hu, Result.andThen_ok]
    simp only []
    rw [Sem.run_bind, hm', Result.andThen_ok, hz2]
    have := fill_parts ps cs zs hns h
    rw [this]; rfl

def evP (L : List (Nat × Value)) : List (Nat × Operand) → Option (List (Nat × Value))
  | [] => some []
  | (i, x) :: r => match ev L x, evP L r with
    | some v, some l => some ((i, v) :: l)
    | _, _ => none

theorem Env.evalsP (hE : Env a n L) : ∀ {xs : List (Nat × Operand)} {vs : List (Nat × Value)}, evP L xs = some vs → xs.map (fun p => (p.1, a.eval p.2)) = vs
  | [], vs, h => by simp [evP] at h; subst h; rfl
  | (i, x) :: r, vs, h => by
    simp only [evP] at h
    cases hx : ev L x with
    | none => simp [hx] at h
    | some v =>
      cases hr : evP L r with
      | none => simp [hx, hr] at h
      | some l =>
        simp [hx, hr] at h
        subst h
        rw [List.map_cons, hE.eval hx, hE.evalsP hr]

theorem s_buildS {t : Nat} {xs : List (Nat × Operand)} {ps : List (Nat × Value)} {zs : List (List Value)} {ns : List Nat} (cs : List (List Value)) (hE : Env a n L) (hv : evP L xs = some ps) (hz : Zero P t zs) (hns : zs.map List.length = ns) (hp : fldPl P t = some (plc 0 ns))
    (h : PartsOk ns ps cs) (hn : Nat.blt d n = true) (k : ∀ a', Env a' n ((d, .agg (setAll zs ps cs).flatten.toArray) :: L) → wpL P ops D Q rest a' w) : wpL P ops D Q ((true, ⟨some d, .build t xs.toArray, ty, pos, aft, none⟩) :: rest) a w :=
  s_build ps.toArray hE (by rw [← hE.evalsP hv]; simp) (bld_struct hz hns hp h) hn k

/-! ## nil slices -/

theorem Mem.addNil (hM : Mem w0 M w H) (es : Nat) : Mem w0 M w (own (.slice none 0 0) es 0 [] :: H) := by
  refine Mem.act (es := []) (es' := [own (.slice none 0 0) es 0 []]) hM rfl rfl rfl (Nat.le_refl _) (fun _ _ _ => rfl) ?_ ?_ ?_ ?_ (List.pairwise_singleton ..)
  · intro e he; rw [List.mem_singleton.1 he]; exact ⟨by simp, Or.inl ⟨rfl, rfl⟩⟩
  · intro e he b hb; rw [List.mem_singleton.1 he] at hb; simp [own, valBlocks] at hb
  · intro e he b hb; rw [List.mem_singleton.1 he] at hb; cases hb
  · intro e he b hb; rw [List.mem_singleton.1 he] at hb; cases hb

/-- What is read of memory, beside what is owned. -/
theorem Mem.addRd (hM : Mem w0 M w H) {f : Ent} (hf : f.holds w) (hfp : f.fp = []) (hro : ∀ b, b ∈ f.ro → ∀ e, e ∈ H → b ∉ e.fp) : Mem w0 M w (f :: H) := by
  refine ⟨hM.os, hM.tape, hM.output, hM.size, hM.frame, ?_, ?_, ?_, ?_⟩
  · intro e he; rcases List.mem_cons.1 he with rfl | he
    · exact hf
    · exact hM.holds e he
  · intro e he b hb; rcases List.mem_cons.1 he with rfl | he
    · rw [hfp] at hb; cases hb
    · exact hM.new e he b hb
  · intro e he b hb; rcases List.mem_cons.1 he with rfl | he
    · rw [hfp]; exact List.not_mem_nil
    · exact hM.self e he b hb
  · refine .cons (fun e he => ⟨fun b hb => (by rw [hfp] at hb; cases hb), fun b hb hbr => hro b hbr e he hb⟩) hM.apart

theorem Mem.start1 {v : Value} {es m : Nat} {cs : List Value} (h : (own v es m cs).holds w) : Mem w (valBlocks v) w [own v es m cs] :=
  Mem.start w (fun e he => by rw [List.mem_singleton.1 he]; exact h) (fun e he b hb => by rw [List.mem_singleton.1 he] at hb; exact hb) (fun e he b hb => by rw [List.mem_singleton.1 he] at hb; cases hb) (List.pairwise_singleton ..)

/-- The beginning of a function that only reads: what it was given to read. -/
theorem Mem.startR (w : World) : ∀ {es : List Ent}, (∀ e, e ∈ es → e.holds w ∧ e.fp = []) → Mem w [] w es
  | [], _ => Mem.start0 w
  | f :: es, h => (Mem.startR w (es := es) (fun e he => h e (List.mem_cons_of_mem _ he))).addRd (h f (List.mem_cons_self ..)).1 (h f (List.mem_cons_self ..)).2
      (fun b _ e he => by rw [(h e (List.mem_cons_of_mem _ he)).2]; exact List.not_mem_nil)

theorem Mem.startR1 {e : Ent} (h : e.holds w) (hf : e.fp = []) : Mem w [] w [e] := Mem.startR w (fun f hf' => by rw [List.mem_singleton.1 hf']; exact ⟨h, hf⟩)
theorem Mem.startR2 {e f : Ent} (h : e.holds w) (k : f.holds w) (he : e.fp = []) (hf : f.fp = []) : Mem w [] w [e, f] := Mem.startR w (fun g hg => by
  rcases List.mem_cons.1 hg with rfl | hg
  · exact ⟨h, he⟩
  · rw [List.mem_singleton.1 hg]; exact ⟨k, hf⟩)

/-- Behind a call that was given one entry to turn. -/
theorem Mem.call1 {e : Ent} {N : List Ent} (hM : Mem w0 M w (e :: H)) (hN : Mem w e.fp w' N) (hr : ∀ f, f ∈ N → ∀ b, b ∈ f.ro → b ∈ e.ro ∨ w.heap.size ≤ b) : Mem w0 M w' (N ++ H) :=
  Mem.call (es := [e]) hM hN (fun b hb => ⟨e, List.mem_cons_self .., hb⟩) (fun f hf b hb => by
    rcases hr f hf b hb with h | h
    · exact .inl ⟨e, List.mem_cons_self .., .inr h⟩
    · exact .inr (.inr h))

/-- Behind a call whose results read new memory alone. -/
theorem Mem.callN {N : List Ent} (hM : Mem w0 M w H) (hN : Mem w [] w' N) (hr : ∀ e, e ∈ N → ∀ b, b ∈ e.ro → w.heap.size ≤ b) : Mem w0 M w' (N ++ H) :=
  Mem.call (es := []) hM hN (fun b hb => by cases hb) (fun e he b hb => .inr (.inr (hr e he b hb)))

theorem Mem.call1' {e : Ent} {N : List Ent} (hM : Mem w0 M w (e :: H)) (hN : Mem w e.fp w' N) (hr : NoRo N) : Mem w0 M w' (N ++ H) :=
  hM.call1 hN (fun f hf b hb => absurd hb (hr.spec f hf b))


/-! ## Slicing -/

/-- A bound of a slice expression: what stands there, or the default. -/
def SArg (L : List (Nat × Value)) (o : Option Operand) (dft m : Nat) : Prop :=
  match o with
  | none => m = dft
  | some x => ∃ k, ev L x = some (.int k (m : Int))

theorem sliceBound_ok {k : IntKind} {m y : Nat} {c : BoundsCode} (h : m ≤ y) (w : World) : (Instr.sliceBound (.int k m) y c).run P w = .ok m w := by
  have h1 : (0 : Int) ≤ m ∧ (m : Int) ≤ y := ⟨by omega, by omega⟩
  simp only [Instr.sliceBound, asIntOf, Sem.run_bind, Sem.run_pure, Result.andThen_ok, h1, and_self, if_true]
  simp

theorem sliceBounds_ok {lo hi mx : Option Operand} {l h m len cap : Nat} {b : Bool} (hE : Env a n L) (hl : SArg L lo 0 l) (hh : SArg L hi len h) (hm : SArg L mx cap m) (hmh : mx.isSome = true → hi.isSome = true) (h1 : l ≤ h) (h2 : h ≤ m) (h3 : m ≤ cap) (w : World) :
    (Instr.sliceBounds b len cap (lo.map a.eval) (hi.map a.eval) (mx.map a.eval)).run P w = .ok (l, h, m) w := by
  unfold Instr.sliceBounds
  cases lo <;> cases hi <;> cases mx <;> simp only [SArg] at hl hh hm <;>
    (try (obtain ⟨k1, hl⟩ := hl)) <;> (try (obtain ⟨k2, hh⟩ := hh)) <;> (try (obtain ⟨k3, hm⟩ := hm)) <;> (try (simp at hmh; done)) <;>
    (try subst hl) <;> (try subst hh) <;> (try subst hm) <;>
    (try replace hl := hE.eval hl) <;> (try replace hh := hE.eval hh) <;> (try replace hm := hE.eval hm) <;>
    simp only [Option.map_some, Option.map_none, Sem.run_bind, Sem.run_pure, Result.andThen_ok, sliceBound_ok h1, sliceBound_ok h2, sliceBound_ok h3, *]

theorem s_slice {t es m c l h mx' : Nat} {lo hi mx : Option Operand} {cs : List Value} (hE : Env a n L) (hx : ev L x = some v) (hr : (rd v es m c cs).holds w) (ht : slT P t = some es)
    (hl : SArg L lo 0 l) (hh : SArg L hi m h) (hm : SArg L mx c mx') (hmh : mx.isSome = true → hi.isSome = true) (h1 : l ≤ h) (h2 : h ≤ m) (h2' : h ≤ mx') (h3 : mx' ≤ c) (hn : Nat.blt d n = true)
    (k : ∀ a' v', Env a' n ((d, v') :: L) → (rd v' es (h - l) (mx' - l) ((cs.drop (l * es)).take ((h - l) * es))).holds w → (∀ b, b ∈ rdB v' (mx' - l) → b ∈ rdB v c) → wpL P ops D Q rest a' w) :
    wpL P ops D Q ((true, ⟨some d, .slice t x lo hi mx, ty, pos, aft, none⟩) :: rest) a w := by
  obtain ⟨e, hu, hs⟩ := slT_spec ht
  have hrun : ∀ (p : Option Addr) (w : World), v = .slice p m c → (execOp a.eval ⟨some d, .slice t x lo hi mx, ty, pos, aft, none⟩).run P w = .ok (.value (.slice (if mx' = l then p else p.map (·.add (l * es))) (h - l) (mx' - l))) w := by
    intro p w hv
    subst hv
    simp only [execOp, Instr.sliceAt, Instr.slice, hE.eval hx, Sem.run_bind, run_underlying hu, Result.andThen_ok, sliceBounds_ok hE hl hh hm hmh h1 h2' h3, run_sizeOf hs, Sem.run_pure]
  rcases hr with ⟨hcl, ⟨p, rfl, rfl, rfl⟩ | ⟨b, o, rfl, hmc, hb, hc⟩⟩
  · have hl0 : l = 0 := by omega
    have hh0 : h = 0 := by omega
    have hm0 : mx' = 0 := by omega
    subst hl0 hh0 hm0
    refine s_val hE hn (Flo.of_all (fun w => hrun p w rfl) w) (fun a' hE' => k a' _ hE' ⟨by simp, .inl ⟨_, rfl, rfl, rfl⟩⟩ (fun y hy => by simp [rdB] at hy))
  · have hsub : ((cs.drop (l * es)).take ((h - l) * es)).length = (h - l) * es := by
      rw [List.length_take, List.length_drop, hcl]
      have : (h - l) * es ≤ m * es - l * es := by rw [← Nat.sub_mul]; exact Nat.mul_le_mul_right _ (by omega)
      omega
    refine s_val hE hn (Flo.of_all (fun w => hrun _ w rfl) w) (fun a' hE' => k a' _ hE' ⟨hsub, .inr ?_⟩ ?_)
    · by_cases e : mx' = l
      · refine ⟨b, o, by simp [e], by omega, hb, fun i x hx => ?_⟩
        rw [List.getElem?_take] at hx
        split at hx
        · have : h - l = 0 := by omega
          rename_i hlt; rw [this] at hlt; omega
        · cases hx
      · refine ⟨b, o + l * es, by simp [e, Addr.add_mid], by omega, hb, fun i x hx => ?_⟩
        rw [List.getElem?_take] at hx
        split at hx
        · rw [List.getElem?_drop] at hx
          have := hc _ x hx
          rwa [← Nat.add_assoc] at this
        · cases hx
    · intro y hy
      unfold rdB at hy ⊢
      split at hy
      · cases hy
      · rename_i hne
        rw [if_neg (show ¬ c = 0 by omega)]
        by_cases e : mx' = l
        · omega
        · simpa [e, valBlocks, Addr.add_mid] using hy

/-- A slice of an array that lies in a block. -/
theorem s_sliceArr {t al es b o l h mx' : Nat} {lo hi mx : Option Operand} (hE : Env a n L) (hx : ev L x = some (.pointer (some ⟨b, o, none⟩))) (ht : arrT P t = some (al, es))
    (hl : SArg L lo 0 l) (hh : SArg L hi al h) (hm : SArg L mx al mx') (hmh : mx.isSome = true → hi.isSome = true) (h1 : l ≤ h) (h2 : h ≤ mx') (h3 : mx' ≤ al) (hn : Nat.blt d n = true)
    (k : ∀ a', Env a' n ((d, .slice (some ⟨b, if mx' = l then o else o + l * es, none⟩) (h - l) (mx' - l)) :: L) → wpL P ops D Q rest a' w) :
    wpL P ops D Q ((true, ⟨some d, .slice t x lo hi mx, ty, pos, aft, none⟩) :: rest) a w := by
  obtain ⟨e, hu, hs⟩ := arrT_spec ht
  refine s_val hE hn (Flo.of_all (fun w => ?_) w) k
  simp only [execOp, Instr.sliceAt, hE.eval hx, Sem.run_bind, run_underlying hu, Result.andThen_ok, Instr.sureAddr, Sem.run_pure, sliceBounds_ok hE hl hh hm hmh h1 h2 h3, run_sizeOf hs]
  by_cases e : mx' = l <;> simp [e, Addr.add_mid]

/-- A slice into a block may be read. -/
theorem rd_of_blk {b o s T es m c : Nat} {ss : List (List Value)} {ns : List Nat} {cs : List Value} (h : (blk b ss ns T).holds w) (hs : rdSeg o s ss ns = some cs) (hm : s = m * es) (hc : m ≤ c) : (rd (.slice (some ⟨b, o, none⟩) m c) es m c cs).holds w := by
  obtain ⟨b', o', e, h2, h3⟩ := cellsAt_blk h hs
  cases e
  exact ⟨by rw [(rdSeg_spec h.1 hs).1, hm], .inr ⟨b, o, rfl, hc, h2, h3⟩⟩

/-! ## A store of a whole part -/

/-- A store of a whole part of a block. -/
theorem s_storeSeg {t b o T s : Nat} (k : Nat) {ss : List (List Value)} {ns : List Nat} {vs g : List Value} (hE : Env a n L) (hx : ev L x = some (.pointer (some ⟨b, o, none⟩))) (hy : ev L y = some v) (hM : Mem w0 M w (blk b ss ns T :: H))
    (hv : v.cells = vs.toArray) (ht : (P.info? t).map (·.size) = some s) (hl : vs.length = s) (h1 : One vs) (hg : ss[k]? = some g) (hgl : g.length = s) (ho : (ns.take k).sum = o)
    (hX : ∀ X, D = some X → X b) (kk : ∀ w', Mem w0 M w' (blk b (ss.set k vs) ns T :: H) → wpL P ops D Q rest a w') : wpL P ops D Q ((false, ⟨none, .store t x y, ty, pos, aft, none⟩) :: rest) a w :=
  s_store (j := 0) k hE hx hy hM hv ht hl h1 hg (by omega) (by simpa using ho) (wrSeg_set hg (by omega)) hX kk

theorem one1 {v : Value} (h : v.oneCell' = true) : One [v] := fun u hu => by rw [List.mem_singleton.1 hu]; exact h

theorem s_store1 {t b o T : Nat} (k : Nat) {ss : List (List Value)} {ns : List Nat} {u' : Value} (hE : Env a n L) (hx : ev L x = some (.pointer (some ⟨b, o, none⟩))) (hy : ev L y = some v) (hM : Mem w0 M w (blk b ss ns T :: H))
    (hv : v.cells = #[v]) (h1 : v.oneCell' = true) (ht : (P.info? t).map (·.size) = some 1) (hg : ss[k]? = some [u']) (ho : (ns.take k).sum = o)
    (hX : ∀ X, D = some X → X b) (kk : ∀ w', Mem w0 M w' (blk b (ss.set k [v]) ns T :: H) → wpL P ops D Q rest a w') : wpL P ops D Q ((false, ⟨none, .store t x y, ty, pos, aft, none⟩) :: rest) a w :=
  s_storeSeg k hE hx hy hM hv ht rfl (one1 h1) hg rfl ho hX kk

theorem sl_one {p : Option Addr} {i j : Nat} (h : v = .slice p i j) : v.cells = #[v] ∧ v.oneCell' = true := by subst h; exact ⟨rfl, rfl⟩
theorem rd_one {es m c : Nat} {cs : List Value} (h : (rd v es m c cs).holds w) : v.cells = #[v] ∧ v.oneCell' = true := by obtain ⟨p, c, h⟩ := rd_slice h; exact sl_one h
theorem own_one {es m : Nat} {cs : List Value} (h : (own v es m cs).holds w) : v.cells = #[v] ∧ v.oneCell' = true := by obtain ⟨p, c, h⟩ := own_slice h; exact sl_one h

/-! ## A block that is read alone -/

def blkR (b : Nat) (ss : List (List Value)) (ns : List Nat) (T : TypeId) : Ent where
  fp := []
  ro := [b]
  holds := (blk b ss ns T).holds
  loc w w' h hb := (blk b ss ns T).loc w w' h fun b' hb' => hb b' (by simpa [blk] using hb')
  old w h b' hb := (blk b ss ns T).old w h b' (by simpa [blk] using hb)

theorem blkR_blk {b T : Nat} {ss : List (List Value)} {ns : List Nat} (h : (blkR b ss ns T).holds w) : (blk b ss ns T).holds w := h

theorem Mem.startB {b T : Nat} {ss : List (List Value)} {ns : List Nat} (h : (blk b ss ns T).holds w) : Mem w [b] w [blk b ss ns T] :=
  Mem.start w (fun e he => by rw [List.mem_singleton.1 he]; exact h) (fun e he b hb => by rw [List.mem_singleton.1 he] at hb; exact hb) (fun e he b hb => by rw [List.mem_singleton.1 he] at hb; cases hb) (List.pairwise_singleton ..)

end Go.Kx
