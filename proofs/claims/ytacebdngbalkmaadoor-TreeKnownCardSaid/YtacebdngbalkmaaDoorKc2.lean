/- Own library: parts KxG, KxP, KxL, KxQ, KxS, KxR, KxT, KxU, KxV, KxW, KxX, KxH. -/
import Derived.Test.YtacebdngbalkmaaDoorKc1
import Derived.Lib.Bytes
import Derived.ProofKit
import Derived.OpenShut
import Derived.ShutString
import Derived.ChangeOld
import Derived.SizedLaws
import Derived.DeepKeys
set_option linter.unusedSimpArgs false
set_option linter.unusedVariables false
/- Own library, part G: bytes; slices made of parts; slicing; more calls. -/
namespace Go.Kx
open Go
variable {P : Program} {ops : Array Oper} {D : Option (Nat → Prop)} {Q : Exit → Act → World → Prop} {w0 w w' : World} {M : List Nat} {H H' : List Ent}
  {a : Act} {n : Nat} {L : List (Nat × Value)} {rest : List (Bool × Oper)} {d : Nat} {ty : TypeId} {pos : String} {aft : Array Edge} {x y z : Operand} {u v r : Value}

/-! ## Bytes -/

def bV (b : UInt8) : Value := .int .u8 (b.toNat : Int)
def bv (bs : List UInt8) : List Value := bs.map bV

@[simp] theorem bv_length (bs : List UInt8) : (bv bs).length = bs.length := by simp [bv]
@[simp] theorem bv_append (a b : List UInt8) : bv (a ++ b) = bv a ++ bv b := by simp [bv]
@[simp] theorem bv_nil : bv [] = [] := rfl
theorem bv_cons (a : UInt8) (b : List UInt8) : bv (a :: b) = bV a :: bv b := rfl
theorem bv_take (bs : List UInt8) (i : Nat) : (bv bs).take i = bv (bs.take i) := by simp [bv, List.map_take]
theorem bv_drop (bs : List UInt8) (i : Nat) : (bv bs).drop i = bv (bs.drop i) := by simp [bv, List.map_drop]
theorem bv_one (bs : List UInt8) : One (bv bs) := fun v hv => by
  obtain ⟨b, _, rfl⟩ := List.mem_map.1 hv; rfl
theorem bv_elem {bs : List UInt8} {j : Nat} (h : j < bs.length) : ((bv bs).drop (j * 1)).take 1 = [bV (bs.getD j 0)] := by
  rw [Nat.mul_one, bv_drop, List.drop_eq_getElem_cons h, bv_cons]
  simp [h]
/-- A byte that an integer is, wrapped. -/
theorem wrap_u8_ofNat (m : Nat) : IntKind.u8.wrap (m : Int) = ((UInt8.ofNat m).toNat : Int) := by
  rw [IntKind.wrap_u8]; simp

/-! ## Slices made of parts -/

def enumV : Nat → List Value → List (Nat × Value)
  | _, [] => []
  | i, v :: r => (i, v) :: enumV (i + 1) r

theorem foldl_set (cs : List Value) : ∀ (o : Nat) (l : Array Value), o + cs.length ≤ l.size →
    (cs.toArray.zipIdx.foldl (fun a (c, j) => a.setIfInBounds (o + j) c) l) = (l.toList.take o ++ cs ++ l.toList.drop (o + cs.length)).toArray := by
  have key : ∀ (cs : List Value) (k o : Nat) (l : Array Value), o + k + cs.length ≤ l.size →
      ((cs.zipIdx k).foldl (fun a (c, j) => a.setIfInBounds (o + j) c) l) = (l.toList.take (o + k) ++ cs ++ l.toList.drop (o + k + cs.length)).toArray := by
    intro cs
    induction cs with
    | nil => intro k o l h; simp
    | cons c cs ih =>
      intro k o l h
      simp only [List.zipIdx_cons, List.foldl_cons]
      rw [ih (k + 1) o _ (by simp at h ⊢; omega)]
      congr 1
      have hlt : o + k < l.toList.length := by simp at h ⊢; omega
      simp only [Array.toList_setIfInBounds]
      have e2 : List.take (o + (k + 1)) (l.toList.set (o + k) c) = List.take (o + k) l.toList ++ [c] := by
        rw [show o + (k + 1) = (o + k) + 1 by omega, List.take_succ_eq_append_getElem (by simpa using hlt)]
        rw [List.take_set_of_le (Nat.le_refl _)]
        simp
      have e3 : List.drop (o + (k + 1) + cs.length) (l.toList.set (o + k) c) = List.drop (o + k + (c :: cs).length) l.toList := by
        rw [List.drop_set_of_lt (by omega)]
        congr 1; simp; omega
      rw [e2, e3]; simp
  intro o l h
  have := key cs 0 o l (by simpa using h)
  simpa using this

theorem fill_enum (size : Nat) : ∀ (vs : List Value) (i : Nat) (cells : Array Value), (∀ v, v ∈ vs → v.cells.size = size) → cells.size = (i + vs.length) * size →
    Instr.fill (fun i => some (i * size, size)) cells (enumV i vs) = some (cells.toList.take (i * size) ++ vs.flatMap (fun v => v.cells.toList)).toArray
  | [], i, cells, _, hs => by
    simp only [enumV, Instr.fill, List.flatMap_nil, List.append_nil]
    rw [List.take_of_length_le (by simp at hs ⊢; omega)]
  | v :: vs, i, cells, hv, hs => by
    have hsz := hv v (List.mem_cons_self ..)
    have hle : i * size + size ≤ cells.size := by
      rw [hs, List.length_cons, show i + (vs.length + 1) = (i + 1) + vs.length by omega, Nat.add_mul, Nat.add_mul]; omega
    simp only [enumV, Instr.fill]
    rw [if_neg (by simp [hsz]; omega)]
    have hf := foldl_set v.cells.toList (i * size) cells (by simpa [hsz] using hle)
    simp only [Array.toArray_toList, Array.length_toList] at hf
    rw [hf, fill_enum size vs (i + 1) _ (fun u hu => hv u (List.mem_cons_of_mem _ hu)) ?_]
    · congr 2
      have hl : (List.take (i * size) cells.toList ++ v.cells.toList).length = (i + 1) * size := by
        simp [hsz, Nat.add_mul]; omega
      simp only [List.flatMap_cons]
      rw [← List.append_assoc]
      congr 1
      rw [← hl, List.take_left]
    · simp [hsz]
      rw [hs, List.length_cons, show i + (vs.length + 1) = (i + 1) + vs.length by omega] at *
      omega

theorem run_buildSlice {t e es len bytes : Nat} {vs : List Value} (ht : SlT P t e es bytes) (hl : vs.length = len) (hv : ∀ v, v ∈ vs → v.cells.size = es) (hm : len * es ≤ 16777216) (w : World) :
    (Instr.buildSlice t len (enumV 0 vs).toArray).run P w = .ok (.slice (some ⟨w.heap.size, 0, none⟩) len len) (w.alloc (.cells (vs.flatMap (fun v => v.cells.toList)).toArray e)) := by
  obtain ⟨hu, hs, hb, z, hz, hzs⟩ := ht
  have hz0 : ∀ w, (zeroValue e).run P w = .ok z w := fun w => by
    cases hi : P.info? e with
    | none => simp [hi] at hs
    | some i => simp [hi] at hz; simp [zeroValue, typeInfo, hi, hz]
  have hm' : ¬ (len * es > 2 ^ 24) := by omega
  simp only [Instr.buildSlice, Sem.run_bind, run_underlying hu, Result.andThen_ok, run_sizeOf hs, hm', if_false]
  have key : ∀ zero : Array Value, Instr.fill (fun i => some (i * es, es)) ((Array.range (len * es)).map (zero[· % zero.size]!)) (enumV 0 vs) = some (vs.flatMap (fun v => v.cells.toList)).toArray := fun zero => by
    have := fill_enum es vs 0 ((Array.range (len * es)).map (zero[· % zero.size]!)) hv (by simp [hl])
    simpa using this
  have hfin : ∀ zero : Array Value, ((match Instr.fill (fun i => some (i * es, es)) ((Array.range (len * es)).map (zero[· % zero.size]!)) (enumV 0 vs) with
      | some cells => do pure (Value.slice (some (← newRow e cells)) len len)
      | _ => stuck "buildSlice: a part of the wrong size" : Sem Value)).run P w = .ok (.slice (some ⟨w.heap.size, 0, none⟩) len len) (w.alloc (.cells (vs.flatMap (fun v => v.cells.toList)).toArray e)) := fun zero => by
    rw [key]; simp [newRow]
  by_cases h0 : len * es = 0
  · simp only [h0, if_true]
    have := hfin #[]
    rw [h0] at this
    exact this
  · simp only [h0, if_false, Sem.run_bind, hz0, Result.andThen_ok, Sem.run_pure]
    exact hfin z.cells

theorem Mem.newSlice (hM : Mem w0 M w H) {es len T : Nat} {cs : List Value} (hl : cs.length = len * es) (hm : len ≤ maxLen) : Mem w0 M (w.alloc (.cells cs.toArray T)) (own (.slice (some ⟨w.heap.size, 0, none⟩) len len) es len cs :: H) := by
  refine Mem.act (es := []) (es' := [own (.slice (some ⟨w.heap.size, 0, none⟩) len len) es len cs]) hM rfl rfl rfl (by simp) (fun b hb _ => alloc_old w _ b hb) ?_ ?_ ?_ ?_ (List.pairwise_singleton ..)
  · intro e he; rw [List.mem_singleton.1 he]
    exact own_of_new w cs es len len T cs.toArray hl (Nat.le_refl _) hm (by simpa using hl) (by rw [← hl]; simp)
  · intro e he b hb; rw [List.mem_singleton.1 he] at hb; right; simp [own, valBlocks] at hb; omega
  · intro e he b hb; rw [List.mem_singleton.1 he] at hb; cases hb
  · intro e he b hb; rw [List.mem_singleton.1 he] at hb; cases hb

def enumO : Nat → List Operand → List (Nat × Operand)
  | _, [] => []
  | i, v :: r => (i, v) :: enumO (i + 1) r

theorem enumO_map (f : Operand → Value) : ∀ (xs : List Operand) (i : Nat), (enumO i xs).map (fun p => (p.1, f p.2)) = enumV i (xs.map f)
  | [], i => rfl
  | x :: xs, i => by simp [enumO, enumV, enumO_map f xs]

theorem s_buildSlice {t e es bytes len : Nat} {xs : List Operand} {vs : List Value} {ps : List (Nat × Operand)} (cs : List Value) (hE : Env a n L) (hM : Mem w0 M w H) (ht : SlT P t e es bytes) (hps : ps = enumO 0 xs) (hv : evL L xs = some vs)
    (hl : vs.length = len) (hz : ∀ v, v ∈ vs → v.cells.size = es) (hc : vs.flatMap (fun v => v.cells.toList) = cs) (hm : Nat.ble (len * es) 16777216 = true) (hn : Nat.blt d n = true) (hlm : Nat.ble len 16777216 = true)
    (k : ∀ a' v' w', Env a' n ((d, v') :: L) → Mem w0 M w' (own v' es len cs :: H) → wpL P ops D Q rest a' w') :
    wpL P ops D Q ((false, ⟨some d, .buildSlice t len ps.toArray, ty, pos, aft, none⟩) :: rest) a w := by
  subst hps
  have hm' : len * es ≤ 16777216 := Nat.le_of_ble_eq_true hm
  have hlm' : len ≤ 16777216 := Nat.le_of_ble_eq_true hlm
  have hcl : cs.length = len * es := by
    rw [← hc, List.length_flatMap, ← hl]
    clear hc hl hv
    induction vs with
    | nil => simp
    | cons v vs ih =>
      simp only [List.map_cons, List.sum_cons, List.length_cons]
      rw [ih (fun u hu => hz u (List.mem_cons_of_mem _ hu))]
      have := hz v (List.mem_cons_self ..)
      simp [this, Nat.add_mul]; omega
  refine b_val hE hn (v := .slice (some ⟨w.heap.size, 0, none⟩) len len) (w' := w.alloc (.cells cs.toArray e)) ?_ (Sta.alloc D w _) (fun a' hE' => k a' _ _ hE' (hM.newSlice hcl (by rw [maxLen_eq]; omega)))
  have := run_buildSlice (P := P) ht hl hz hm' w
  rw [hc] at this
  simp only [execOp, Sem.run_bind]
  rw [show ((enumO 0 xs).toArray.map fun x => match x with | (i, x) => (i, a.eval x)) = (enumV 0 vs).toArray by
    rw [← hE.evals hv, ← enumO_map]; simp]
  rw [this]; rfl

/-! ## Building a struct -/

theorem wrSeg_set : ∀ {ss : List (List Value)} {k : Nat} {vs g : List Value}, ss[k]? = some g → vs.length = g.length → wrSeg k 0 vs ss = ss.set k vs
  | [], k, vs, g, h, _ => by simp at h
  | g' :: ss, 0, vs, g, h, hl => by
    simp at h; subst h
    simp [wrSeg, wr_all hl]
  | g' :: ss, k + 1, vs, g, h, hl => by
    simp only [wrSeg, List.set_cons_succ]
    rw [wrSeg_set (by simpa using h) hl]



def fldPl (P : Program) (t : Nat) : Option (List (Nat × Nat)) :=
  match P.underlying t with
  | some (.struct fs) => fs.toList.mapM fun f => (P.info? f.type).map fun i => (f.offset, i.size)
  | _ => none

def plc : Nat → List Nat → List (Nat × Nat)
  | _, [] => []
  | o, n :: r => (o, n) :: plc (o + n) r

theorem plc_get : ∀ {ns : List Nat} {o i : Nat} {m : Nat}, ns[i]? = some m → (plc o ns)[i]? = some (o + (ns.take i).sum, m)
  | [], o, i, m, h => by simp at h
  | n :: r, o, 0, m, h => by simp at h; subst h; simp [plc]
  | n :: r, o, i + 1, m, h => by
    simp only [plc, List.getElem?_cons_succ, List.take_succ_cons, List.sum_cons]
    rw [plc_get (ns := r) (by simpa using h), Nat.add_assoc]

def setAll : List (List Value) → List (Nat × Value) → List (List Value) → List (List Value)
  | zs, (i, _) :: r, c :: cs => setAll (zs.set i c) r cs
  | zs, _, _ => zs

def PartsOk (ns : List Nat) : List (Nat × Value) → List (List Value) → Prop
  | [], [] => True
  | (i, v) :: r, c :: cs => v.cells = c.toArray ∧ ns[i]? = some c.length ∧ PartsOk ns r cs
  | _, _ => False

theorem fill_parts {ns : List Nat} : ∀ (ps : List (Nat × Value)) (cs zs : List (List Value)), zs.map List.length = ns → PartsOk ns ps cs →
    Instr.fill ((plc 0 ns).toArray[·]?) zs.flatten.toArray ps = some (setAll zs ps cs).flatten.toArray
  | [], [], zs, _, _ => by simp [Instr.fill, setAll]
  | (i, v) :: r, c :: cs, zs, hz, h => by
    obtain ⟨h1, h2, h3⟩ := h
    have hp : (plc 0 ns).toArray[i]? = some ((ns.take i).sum, c.length) := by
      have := plc_get (o := 0) h2
      simpa using this
    obtain ⟨g, hg⟩ : ∃ g, zs[i]? = some g := by
      have : (zs.map List.length)[i]? = some c.length := by rw [hz]; exact h2
      rw [List.getElem?_map] at this
      cases hzi : zs[i]? with
      | none => rw [hzi] at this; cases this
      | some g => exact ⟨g, rfl⟩
    have hgl : g.length = c.length := by
      have : (zs.map List.length)[i]? = some c.length := by rw [hz]; exact h2
      rw [List.getElem?_map, hg] at this
      simpa using this
    obtain ⟨w1, w2⟩ := wrSeg_flatten (j := 0) (vs := c) hg (by omega)
    rw [take_flatten_length, hz, Nat.add_zero, wrSeg_set hg hgl.symm] at w1
    rw [wrSeg_set hg hgl.symm] at w2
    have hle : (ns.take i).sum + c.length ≤ zs.flatten.length := by
      have hk : i < zs.length := (List.getElem?_eq_some_iff.1 hg).1
      have : zs.flatten.length = (zs.take i).flatten.length + (zs.drop i).flatten.length := by
        rw [← List.length_append, ← List.flatten_append, List.take_append_drop]
      rw [this, List.drop_eq_getElem_cons hk, take_flatten_length, hz]
      have hgk : zs[i] = g := (List.getElem?_eq_some_iff.1 hg).2
      simp only [List.flatten_cons, List.length_append, hgk]
      omega
    simp only [Instr.fill, hp, h1]
    rw [if_neg (by simp; simpa using hle)]
    have hf := foldl_set c (ns.take i).sum zs.flatten.toArray (by simpa using hle)
    rw [hf]
    have e : List.take (ns.take i).sum zs.flatten ++ c ++ List.drop ((ns.take i).sum + c.length) zs.flatten = (zs.set i c).flatten := w1
    simp only []
    rw [e, fill_parts r cs (zs.set i c) (w2.trans hz) h3]
    rfl
  | [], _ :: _, _, _, h => h.elim
  | _ :: _, [], _, _, h => h.elim

theorem mapM_fields {P : Program} (w : World) : ∀ (fs : List Field) (l : List (Nat × Nat)), fs.mapM (fun f => (P.info? f.type).map fun i => (f.offset, i.size)) = some l →
    (fs.mapM (fun f => (do pure (f.offset, ← sizeOf f.type) : Sem (Nat × Nat)))).run P w = .ok l w
  | [], l, h => by simp at h; subst h; rfl
  | f :: fs, l, h => by
    rw [List.mapM_cons] at h ⊢
    cases hi : P.info? f.type with
    | none => rw [hi] at h; cases h
    | some i =>
      rw [hi] at h
      simp only [Option.map_some, Option.bind_eq_bind, Option.bind_some] at h
      cases hr : fs.mapM (fun f => (P.info? f.type).map fun i => (f.offset, i.size)) with
      | none => rw [hr] at h; cases h
      | some l' =>
        rw [hr] at h
        simp at h
        subst h
        rw [Sem.run_bind, Sem.run_bind, run_sizeOf (by rw [hi]; rfl)]
        simp only [Result.andThen_ok, Sem.run_pure]
        rw [Sem.run_bind, mapM_fields w fs l' hr]
        rfl

theorem bld_struct {t : Nat} {zs cs : List (List Value)} {ns : List Nat} {ps : List (Nat × Value)} (hz : Zero P t zs) (hns : zs.map List.length = ns) (hp : fldPl P t = some (plc 0 ns)) (h : PartsOk ns ps cs) :
    Bld P t ps.toArray (.agg (setAll zs ps cs).flatten.toArray) := fun w => by
  obtain ⟨z, hz1, hz2⟩ := run_zero hz
  unfold fldPl at hp
  cases hu : P.underlying t with
  | none => simp [hu] at hp
  | some dsc =>
    rw [hu] at hp
    cases dsc <;> simp only at hp <;> try (cases hp; done)
    rename_i fs
    have hm := mapM_fields (P := P) w fs.toList _ hp
    have hm' : (fs.mapM (fun f => (do pure (f.offset, ← sizeOf f.type) : Sem (Nat × Nat)))).run P w = .ok (plc 0 ns).toArray w := by
      rw [← Array.toArray_toList (xs := fs), List.mapM_toArray]
      rw [Sem.run_map, hm]; rfl
    unfold Instr.build
    rw [Sem.run_bind, hz1, Result.andThen_ok, Sem.run_bind, run_underlying hu, Result.andThen_ok]
    simp only []
    rw [Sem.run_bind, hm', Result.andThen_ok, hz2]
    have := fill_parts ps cs zs hns h
    rw [this]; rfl

def evP (L : List (Nat × Value)) : List (Nat × Operand) → Option (List (Nat × Value))
  | [] => some []
  | (i, x) :: r => match ev L x, evP L r with
    | some v, some l => some ((i, v) :: l)
    | _, _ => none

theorem Env.evalsP (hE : Env a n L) : ∀ {xs : List (Nat × Operand)} {vs : List (Nat × Value)}, evP L xs = some vs → xs.map (fun p => (p.1, a.eval p.2)) = vs
  | [], vs, h => by simp [evP] at h; subst h; rfl
  | (i, x) :: r, vs, h => by
    simp only [evP] at h
    cases hx : ev L x with
    | none => simp [hx] at h
    | some v =>
      cases hr : evP L r with
      | none => simp [hx, hr] at h
      | some l =>
        simp [hx, hr] at h
        subst h
        rw [List.map_cons, hE.eval hx, hE.evalsP hr]

theorem s_buildS {t : Nat} {xs : List (Nat × Operand)} {ps : List (Nat × Value)} {zs : List (List Value)} {ns : List Nat} (cs : List (List Value)) (hE : Env a n L) (hv : evP L xs = some ps) (hz : Zero P t zs) (hns : zs.map List.length = ns) (hp : fldPl P t = some (plc 0 ns))
    (h : PartsOk ns ps cs) (hn : Nat.blt d n = true) (k : ∀ a', Env a' n ((d, .agg (setAll zs ps cs).flatten.toArray) :: L) → wpL P ops D Q rest a' w) : wpL P ops D Q ((true, ⟨some d, .build t xs.toArray, ty, pos, aft, none⟩) :: rest) a w :=
  s_build ps.toArray hE (by rw [← hE.evalsP hv]; simp) (bld_struct hz hns hp h) hn k

/-! ## nil slices -/

theorem Mem.addNil (hM : Mem w0 M w H) (es : Nat) : Mem w0 M w (own (.slice none 0 0) es 0 [] :: H) := by
  refine Mem.act (es := []) (es' := [own (.slice none 0 0) es 0 []]) hM rfl rfl rfl (Nat.le_refl _) (fun _ _ _ => rfl) ?_ ?_ ?_ ?_ (List.pairwise_singleton ..)
  · intro e he; rw [List.mem_singleton.1 he]; exact ⟨by simp, Or.inl ⟨rfl, rfl⟩⟩
  · intro e he b hb; rw [List.mem_singleton.1 he] at hb; simp [own, valBlocks] at hb
  · intro e he b hb; rw [List.mem_singleton.1 he] at hb; cases hb
  · intro e he b hb; rw [List.mem_singleton.1 he] at hb; cases hb

/-- What is read of memory, beside what is owned. -/
theorem Mem.addRd (hM : Mem w0 M w H) {f : Ent} (hf : f.holds w) (hfp : f.fp = []) (hro : ∀ b, b ∈ f.ro → ∀ e, e ∈ H → b ∉ e.fp) : Mem w0 M w (f :: H) := by
  refine ⟨hM.os, hM.tape, hM.output, hM.size, hM.frame, ?_, ?_, ?_, ?_⟩
  · intro e he; rcases List.mem_cons.1 he with rfl | he
    · exact hf
    · exact hM.holds e he
  · intro e he b hb; rcases List.mem_cons.1 he with rfl | he
    · rw [hfp] at hb; cases hb
    · exact hM.new e he b hb
  · intro e he b hb; rcases List.mem_cons.1 he with rfl | he
    · rw [hfp]; exact List.not_mem_nil
    · exact hM.self e he b hb
  · refine .cons (fun e he => ⟨fun b hb => (by rw [hfp] at hb; cases hb), fun b hb hbr => hro b hbr e he hb⟩) hM.apart

theorem Mem.start1 {v : Value} {es m : Nat} {cs : List Value} (h : (own v es m cs).holds w) : Mem w (valBlocks v) w [own v es m cs] :=
  Mem.start w (fun e he => by rw [List.mem_singleton.1 he]; exact h) (fun e he b hb => by rw [List.mem_singleton.1 he] at hb; exact hb) (fun e he b hb => by rw [List.mem_singleton.1 he] at hb; cases hb) (List.pairwise_singleton ..)

/-- The beginning of a function that only reads: what it was given to read. -/
theorem Mem.startR (w : World) : ∀ {es : List Ent}, (∀ e, e ∈ es → e.holds w ∧ e.fp = []) → Mem w [] w es
  | [], _ => Mem.start0 w
  | f :: es, h => (Mem.startR w (es := es) (fun e he => h e (List.mem_cons_of_mem _ he))).addRd (h f (List.mem_cons_self ..)).1 (h f (List.mem_cons_self ..)).2
      (fun b _ e he => by rw [(h e (List.mem_cons_of_mem _ he)).2]; exact List.not_mem_nil)

theorem Mem.startR1 {e : Ent} (h : e.holds w) (hf : e.fp = []) : Mem w [] w [e] := Mem.startR w (fun f hf' => by rw [List.mem_singleton.1 hf']; exact ⟨h, hf⟩)
theorem Mem.startR2 {e f : Ent} (h : e.holds w) (k : f.holds w) (he : e.fp = []) (hf : f.fp = []) : Mem w [] w [e, f] := Mem.startR w (fun g hg => by
  rcases List.mem_cons.1 hg with rfl | hg
  · exact ⟨h, he⟩
  · rw [List.mem_singleton.1 hg]; exact ⟨k, hf⟩)

/-- Behind a call that was given one entry to turn. -/
theorem Mem.call1 {e : Ent} {N : List Ent} (hM : Mem w0 M w (e :: H)) (hN : Mem w e.fp w' N) (hr : ∀ f, f ∈ N → ∀ b, b ∈ f.ro → b ∈ e.ro ∨ w.heap.size ≤ b) : Mem w0 M w' (N ++ H) :=
  Mem.call (es := [e]) hM hN (fun b hb => ⟨e, List.mem_cons_self .., hb⟩) (fun f hf b hb => by
    rcases hr f hf b hb with h | h
    · exact .inl ⟨e, List.mem_cons_self .., .inr h⟩
    · exact .inr (.inr h))

theorem Mem.call1' {e : Ent} {N : List Ent} (hM : Mem w0 M w (e :: H)) (hN : Mem w e.fp w' N) (hr : NoRo N) : Mem w0 M w' (N ++ H) :=
  hM.call1 hN (fun f hf b hb => absurd hb (hr.spec f hf b))


/-! ## Slicing -/

/-- A bound of a slice expression: what stands there, or the default. -/
def SArg (L : List (Nat × Value)) (o : Option Operand) (dft m : Nat) : Prop :=
  match o with
  | none => m = dft
  | some x => ∃ k, ev L x = some (.int k (m : Int))

theorem sliceBound_ok {k : IntKind} {m y : Nat} {c : BoundsCode} (h : m ≤ y) (w : World) : (Instr.sliceBound (.int k m) y c).run P w = .ok m w := by
  have h1 : (0 : Int) ≤ m ∧ (m : Int) ≤ y := ⟨by omega, by omega⟩
  simp only [Instr.sliceBound, asIntOf, Sem.run_bind, Sem.run_pure, Result.andThen_ok, h1, and_self, if_true]
  simp

theorem sliceBounds_ok {lo hi mx : Option Operand} {l h m len cap : Nat} {b : Bool} (hE : Env a n L) (hl : SArg L lo 0 l) (hh : SArg L hi len h) (hm : SArg L mx cap m) (hmh : mx.isSome = true → hi.isSome = true) (h1 : l ≤ h) (h2 : h ≤ m) (h3 : m ≤ cap) (w : World) :
    (Instr.sliceBounds b len cap (lo.map a.eval) (hi.map a.eval) (mx.map a.eval)).run P w = .ok (l, h, m) w := by
  unfold Instr.sliceBounds
  cases lo <;> cases hi <;> cases mx <;> simp only [SArg] at hl hh hm <;>
    (try (obtain ⟨k1, hl⟩ := hl)) <;> (try (obtain ⟨k2, hh⟩ := hh)) <;> (try (obtain ⟨k3, hm⟩ := hm)) <;> (try (simp at hmh; done)) <;>
    (try subst hl) <;> (try subst hh) <;> (try subst hm) <;>
    (try replace hl := hE.eval hl) <;> (try replace hh := hE.eval hh) <;> (try replace hm := hE.eval hm) <;>
    simp only [Option.map_some, Option.map_none, Sem.run_bind, Sem.run_pure, Result.andThen_ok, sliceBound_ok h1, sliceBound_ok h2, sliceBound_ok h3, *]

theorem s_slice {t es m c l h mx' : Nat} {lo hi mx : Option Operand} {cs : List Value} (hE : Env a n L) (hx : ev L x = some v) (hr : (rd v es m c cs).holds w) (ht : slT P t = some es)
    (hl : SArg L lo 0 l) (hh : SArg L hi m h) (hm : SArg L mx c mx') (hmh : mx.isSome = true → hi.isSome = true) (h1 : l ≤ h) (h2 : h ≤ m) (h2' : h ≤ mx') (h3 : mx' ≤ c) (hn : Nat.blt d n = true)
    (k : ∀ a' v', Env a' n ((d, v') :: L) → (rd v' es (h - l) (mx' - l) ((cs.drop (l * es)).take ((h - l) * es))).holds w → (∀ b, b ∈ rdB v' (mx' - l) → b ∈ rdB v c) → wpL P ops D Q rest a' w) :
    wpL P ops D Q ((true, ⟨some d, .slice t x lo hi mx, ty, pos, aft, none⟩) :: rest) a w := by
  obtain ⟨e, hu, hs⟩ := slT_spec ht
  have hrun : ∀ (p : Option Addr) (w : World), v = .slice p m c → (execOp a.eval ⟨some d, .slice t x lo hi mx, ty, pos, aft, none⟩).run P w = .ok (.value (.slice (if mx' = l then p else p.map (·.add (l * es))) (h - l) (mx' - l))) w := by
    intro p w hv
    subst hv
    simp only [execOp, Instr.sliceAt, Instr.slice, hE.eval hx, Sem.run_bind, run_underlying hu, Result.andThen_ok, sliceBounds_ok hE hl hh hm hmh h1 h2' h3, run_sizeOf hs, Sem.run_pure]
  rcases hr with ⟨hcl, ⟨p, rfl, rfl, rfl⟩ | ⟨b, o, rfl, hmc, hb, hc⟩⟩
  · have hl0 : l = 0 := by omega
    have hh0 : h = 0 := by omega
    have hm0 : mx' = 0 := by omega
    subst hl0 hh0 hm0
    refine s_val hE hn (Flo.of_all (fun w => hrun p w rfl) w) (fun a' hE' => k a' _ hE' ⟨by simp, .inl ⟨_, rfl, rfl, rfl⟩⟩ (fun y hy => by simp [rdB] at hy))
  · have hsub : ((cs.drop (l * es)).take ((h - l) * es)).length = (h - l) * es := by
      rw [List.length_take, List.length_drop, hcl]
      have : (h - l) * es ≤ m * es - l * es := by rw [← Nat.sub_mul]; exact Nat.mul_le_mul_right _ (by omega)
      omega
    refine s_val hE hn (Flo.of_all (fun w => hrun _ w rfl) w) (fun a' hE' => k a' _ hE' ⟨hsub, .inr ?_⟩ ?_)
    · by_cases e : mx' = l
      · refine ⟨b, o, by simp [e], by omega, hb, fun i x hx => ?_⟩
        rw [List.getElem?_take] at hx
        split at hx
        · have : h - l = 0 := by omega
          rename_i hlt; rw [this] at hlt; omega
        · cases hx
      · refine ⟨b, o + l * es, by simp [e, Addr.add_mid], by omega, hb, fun i x hx => ?_⟩
        rw [List.getElem?_take] at hx
        split at hx
        · rw [List.getElem?_drop] at hx
          have := hc _ x hx
          rwa [← Nat.add_assoc] at this
        · cases hx
    · intro y hy
      unfold rdB at hy ⊢
      split at hy
      · cases hy
      · rename_i hne
        rw [if_neg (show ¬ c = 0 by omega)]
        by_cases e : mx' = l
        · omega
        · simpa [e, valBlocks, Addr.add_mid] using hy

/-- A slice of an array that lies in a block. -/
theorem s_sliceArr {t al es b o l h mx' : Nat} {lo hi mx : Option Operand} (hE : Env a n L) (hx : ev L x = some (.pointer (some ⟨b, o, none⟩))) (ht : arrT P t = some (al, es))
    (hl : SArg L lo 0 l) (hh : SArg L hi al h) (hm : SArg L mx al mx') (hmh : mx.isSome = true → hi.isSome = true) (h1 : l ≤ h) (h2 : h ≤ mx') (h3 : mx' ≤ al) (hn : Nat.blt d n = true)
    (k : ∀ a', Env a' n ((d, .slice (some ⟨b, if mx' = l then o else o + l * es, none⟩) (h - l) (mx' - l)) :: L) → wpL P ops D Q rest a' w) :
    wpL P ops D Q ((true, ⟨some d, .slice t x lo hi mx, ty, pos, aft, none⟩) :: rest) a w := by
  obtain ⟨e, hu, hs⟩ := arrT_spec ht
  refine s_val hE hn (Flo.of_all (fun w => ?_) w) k
  simp only [execOp, Instr.sliceAt, hE.eval hx, Sem.run_bind, run_underlying hu, Result.andThen_ok, Instr.sureAddr, Sem.run_pure, sliceBounds_ok hE hl hh hm hmh h1 h2 h3, run_sizeOf hs]
  by_cases e : mx' = l <;> simp [e, Addr.add_mid]

/-- A slice into a block may be read. -/
theorem rd_of_blk {b o s T es m c : Nat} {ss : List (List Value)} {ns : List Nat} {cs : List Value} (h : (blk b ss ns T).holds w) (hs : rdSeg o s ss ns = some cs) (hm : s = m * es) (hc : m ≤ c) : (rd (.slice (some ⟨b, o, none⟩) m c) es m c cs).holds w := by
  obtain ⟨b', o', e, h2, h3⟩ := cellsAt_blk h hs
  cases e
  exact ⟨by rw [(rdSeg_spec h.1 hs).1, hm], .inr ⟨b, o, rfl, hc, h2, h3⟩⟩

/-! ## A store of a whole part -/

/-- A store of a whole part of a block. -/
theorem s_storeSeg {t b o T s : Nat} (k : Nat) {ss : List (List Value)} {ns : List Nat} {vs g : List Value} (hE : Env a n L) (hx : ev L x = some (.pointer (some ⟨b, o, none⟩))) (hy : ev L y = some v) (hM : Mem w0 M w (blk b ss ns T :: H))
    (hv : v.cells = vs.toArray) (ht : (P.info? t).map (·.size) = some s) (hl : vs.length = s) (h1 : One vs) (hg : ss[k]? = some g) (hgl : g.length = s) (ho : (ns.take k).sum = o)
    (hX : ∀ X, D = some X → X b) (kk : ∀ w', Mem w0 M w' (blk b (ss.set k vs) ns T :: H) → wpL P ops D Q rest a w') : wpL P ops D Q ((false, ⟨none, .store t x y, ty, pos, aft, none⟩) :: rest) a w :=
  s_store (j := 0) k hE hx hy hM hv ht hl h1 hg (by omega) (by simpa using ho) (wrSeg_set hg (by omega)) hX kk

theorem one1 {v : Value} (h : v.oneCell' = true) : One [v] := fun u hu => by rw [List.mem_singleton.1 hu]; exact h

theorem s_store1 {t b o T : Nat} (k : Nat) {ss : List (List Value)} {ns : List Nat} {u' : Value} (hE : Env a n L) (hx : ev L x = some (.pointer (some ⟨b, o, none⟩))) (hy : ev L y = some v) (hM : Mem w0 M w (blk b ss ns T :: H))
    (hv : v.cells = #[v]) (h1 : v.oneCell' = true) (ht : (P.info? t).map (·.size) = some 1) (hg : ss[k]? = some [u']) (ho : (ns.take k).sum = o)
    (hX : ∀ X, D = some X → X b) (kk : ∀ w', Mem w0 M w' (blk b (ss.set k [v]) ns T :: H) → wpL P ops D Q rest a w') : wpL P ops D Q ((false, ⟨none, .store t x y, ty, pos, aft, none⟩) :: rest) a w :=
  s_storeSeg k hE hx hy hM hv ht rfl (one1 h1) hg rfl ho hX kk

theorem sl_one {p : Option Addr} {i j : Nat} (h : v = .slice p i j) : v.cells = #[v] ∧ v.oneCell' = true := by subst h; exact ⟨rfl, rfl⟩
theorem rd_one {es m c : Nat} {cs : List Value} (h : (rd v es m c cs).holds w) : v.cells = #[v] ∧ v.oneCell' = true := by obtain ⟨p, c, h⟩ := rd_slice h; exact sl_one h
theorem own_one {es m : Nat} {cs : List Value} (h : (own v es m cs).holds w) : v.cells = #[v] ∧ v.oneCell' = true := by obtain ⟨p, c, h⟩ := own_slice h; exact sl_one h

/-! ## A block that is read alone -/

def blkR (b : Nat) (ss : List (List Value)) (ns : List Nat) (T : TypeId) : Ent where
  fp := []
  ro := [b]
  holds := (blk b ss ns T).holds
  loc w w' h hb := (blk b ss ns T).loc w w' h fun b' hb' => hb b' (by simpa [blk] using hb')
  old w h b' hb := (blk b ss ns T).old w h b' (by simpa [blk] using hb)

theorem blkR_blk {b T : Nat} {ss : List (List Value)} {ns : List Nat} (h : (blkR b ss ns T).holds w) : (blk b ss ns T).holds w := h

end Go.Kx
/- Own library, part P: plain functions that the bytes layer comes to, and small laws for its walks. -/
namespace Go.Kx
open Go
variable {P : Program} {w0 w w' : World} {M : List Nat} {H : List Ent}

def laid (k m : Nat) : List UInt8 := (List.range k).map fun i => UInt8.ofNat (m / 2 ^ (8 * (k - 1 - i)))

@[simp] theorem laid_length (k m : Nat) : (laid k m).length = k := by simp [laid]

theorem laid_take_succ {k m i : Nat} (h : i < k) : (laid k m).take (i + 1) = (laid k m).take i ++ [UInt8.ofNat (m / 2 ^ (8 * (k - 1 - i)))] := by
  rw [List.take_succ_eq_append_getElem (by simpa using h)]
  simp [laid]

theorem bin_shr_nat {t : TypeId} {k k' : IntKind} {m s : Nat} {j : Int} (hj : j = (s : Int)) (hs : s ≤ k.bits) : Bin P .shr t (.int k m) (.int k' j) (.int k ((m / 2 ^ s : Nat) : Int)) := bin_of rfl fun w => by
  subst hj
  have h1 : ¬ ((s : Int) < 0) := by omega
  have h2 : min (s : Int).toNat k.bits = s := by simp; omega
  simp only [binOp, Op.shift, h1, if_false, h2]
  have e : (m : Int).fdiv (2 ^ s) = ((m / 2 ^ s : Nat) : Int) := by
    rw [Int.fdiv_eq_ediv_of_nonneg _ (Int.le_of_lt (Int.pow_pos (by omega)))]
    simp
  rw [e]; rfl

/-- A test of '!'. -/
theorem not_true {b : Bool} (h : (!b) = true) : b = false := by simpa using h
theorem not_false' {b : Bool} (h : (!b) = false) : b = true := by simpa using h

theorem len47 {m : Nat} (h : m ≤ 140737488355328) : m ≤ maxLen := by rw [maxLen_eq]; omega


/-! ## Numbers out of bytes -/

def val (bs : List UInt8) : Nat := bs.foldl (fun n b => n * 256 + b.toNat) 0

/-! ## Strings -/

variable {ops : Array Oper} {D : Option (Nat → Prop)} {Q : Exit → Act → World → Prop}
  {a : Act} {n : Nat} {L : List (Nat × Value)} {rest : List (Bool × Oper)} {d : Nat} {ty : TypeId} {pos : String} {aft : Array Edge} {x y z : Operand} {u v r : Value}

def str (bs : List UInt8) : ByteArray := ⟨bs.toArray⟩

@[simp] theorem str_size (bs : List UInt8) : (str bs).size = bs.length := by simp [str, ByteArray.size]
@[simp] theorem str_data (bs : List UInt8) : (str bs).data.toList = bs := by simp [str]
theorem Src.str {xt : Nat} (hk : P.underlying xt = some .string) (s : ByteArray) : Src P 1 xt (.string s) s.size (bv s.data.toList) w := Src.ofString w hk s

/-! ## A tape -/

/-- Blocks that are there, and that nobody writes. -/
def shr (bb : List Nat) : Ent where
  fp := []
  ro := bb
  holds w := ∀ x, x ∈ bb → x < w.heap.size
  loc w w' h hb := fun x hx => by
    have h1 := h x hx
    have h2 := hb x (.inr hx)
    rw [Array.getElem?_eq_getElem h1] at h2
    exact (Array.getElem?_eq_some_iff.1 h2).1
  old w h x hx := by
    simp only [List.not_mem_nil, false_or] at hx
    exact h x hx

/-- A part of a slice that is read is read too. -/
theorem Mem.addPart {v v' : Value} {es m c es' m' c' : Nat} {cs cs' : List Value} (hM : Mem w0 M w H) (i : Nat) (hi : H[i]? = some (rd v es m c cs)) (hr : (rd v' es' m' c' cs').holds w) (hvb : ∀ x, x ∈ rdB v' c' → x ∈ rdB v c) : Mem w0 M w (rd v' es' m' c' cs' :: H) := by
  refine hM.addRd hr rfl (fun b hb e he hbe => ?_)
  have hm := List.mem_of_getElem? hi
  have hb' : b ∈ (rd v es m c cs).ro := hvb b hb
  by_cases e' : e = rd v es m c cs
  · subst e'; cases hbe
  · obtain ⟨j, hj⟩ := List.getElem?_of_mem he
    have := apart_of_get hM.apart hj hi (fun hij => e' (by subst hij; rw [hi] at hj; exact (Option.some.inj hj).symm))
    exact (this.1 b hbe).2 hb'

theorem rd_drop {v : Value} {k m c : Nat} {bs : List UInt8} (hm : m = bs.length) (_h : k ≤ bs.length) (hr : (rd v 1 (m - k) c (((bv bs).drop (k * 1)).take ((m - k) * 1))).holds w) : (rd v 1 (bs.drop k).length c (bv (bs.drop k))).holds w := by
  subst hm
  have e : ((bv bs).drop (k * 1)).take ((bs.length - k) * 1) = bv (bs.drop k) := by
    rw [Nat.mul_one, Nat.mul_one, bv_drop, List.take_of_length_le (by simp)]
  rw [e] at hr
  simpa using hr

theorem rd_take {v : Value} {k c : Nat} {bs : List UInt8} (h : k ≤ bs.length) (hr : (rd v 1 (k - 0) c (((bv bs).drop (0 * 1)).take ((k - 0) * 1))).holds w) : (rd v 1 (bs.take k).length c (bv (bs.take k))).holds w := by
  have e : ((bv bs).drop (0 * 1)).take ((k - 0) * 1) = bv (bs.take k) := by simp [bv_take]
  rw [e] at hr
  have : (bs.take k).length = k - 0 := by simp; omega
  rw [this]; exact hr

theorem rd_mid {v : Value} {l h c : Nat} {bs : List UInt8} (h2 : h ≤ bs.length) (hr : (rd v 1 (h - l) c (((bv bs).drop (l * 1)).take ((h - l) * 1))).holds w) : (rd v 1 ((bs.drop l).take (h - l)).length c (bv ((bs.drop l).take (h - l)))).holds w := by
  have e : ((bv bs).drop (l * 1)).take ((h - l) * 1) = bv ((bs.drop l).take (h - l)) := by simp [bv_take, bv_drop]
  rw [e] at hr
  have : ((bs.drop l).take (h - l)).length = h - l := by simp; omega
  rw [this]; exact hr

theorem rd_len {v : Value} {es m c : Nat} {cs : List Value} (h : (rd v es m c cs).holds w) : m ≤ c := by
  rcases h.2 with ⟨p, _, h1, h2⟩ | ⟨b, o, _, h1, _⟩ <;> omega


/-! ## What is taken of a tape -/

/-- Slices of bytes that are read alone, each with what it reads as; bb: the blocks that they may lie in. -/
def rdv (bb : List Nat) (vs : List Value) (ps : List (List UInt8)) : Ent where
  fp := []
  ro := bb
  holds w := (shr bb).holds w ∧ vs.length = ps.length ∧ ∀ (i : Nat) (v : Value) (p : List UInt8), vs[i]? = some v → ps[i]? = some p → ∃ c, (∀ x, x ∈ rdB v c → x ∈ bb) ∧ (rd v 1 p.length c (bv p)).holds w
  loc w w' h hb := by
    refine ⟨(shr bb).loc w w' h.1 (fun x hx => hb x (.inr (by simpa [shr] using hx))), h.2.1, fun i v p hv hp => ?_⟩
    obtain ⟨c, h1, hc⟩ := h.2.2 i v p hv hp
    exact ⟨c, h1, (rd v 1 _ c _).loc w w' hc fun x hx => hb x (.inr (h1 x (by simpa [rd] using hx)))⟩
  old w h x hx := by
    simp only [List.not_mem_nil, false_or] at hx
    exact h.1 x hx

theorem rdv_get {bb : List Nat} {vs : List Value} {ps : List (List UInt8)} (h : (rdv bb vs ps).holds w) {i : Nat} (hi : i < ps.length) : ∃ c, (rd (vs.getD i undef) 1 (ps.getD i []).length c (bv (ps.getD i []))).holds w := by
  have hv : i < vs.length := by rw [h.2.1]; exact hi
  obtain ⟨c, _, hc⟩ := h.2.2 i _ _ (List.getElem?_eq_getElem hv) (List.getElem?_eq_getElem hi)
  exact ⟨c, by simpa [hv, hi] using hc⟩

theorem rdv_cons {bb : List Nat} {vs : List Value} {ps : List (List UInt8)} {v : Value} {p : List UInt8} {c : Nat} (h : (rd v 1 p.length c (bv p)).holds w) (k : (rdv bb vs ps).holds w) : (rdv (rdB v c ++ bb) (v :: vs) (p :: ps)).holds w := by
  refine ⟨fun x hx => ?_, by simp [k.2.1], fun i u q hu hq => ?_⟩
  · rcases List.mem_append.1 hx with hx | hx
    · exact (rd v 1 p.length c (bv p)).old w h x (.inr hx)
    · exact k.1 x hx
  · cases i with
    | zero => simp at hu hq; subst hu hq; exact ⟨c, fun x hx => List.mem_append_left _ hx, h⟩
    | succ i =>
      obtain ⟨c', h1, h2⟩ := k.2.2 i u q (by simpa using hu) (by simpa using hq)
      exact ⟨c', fun x hx => List.mem_append_right _ (h1 x hx), h2⟩

theorem rdv_nil (w : World) : (rdv [] [] []).holds w := ⟨fun x hx => (by cases hx), rfl, fun i v p h => (by simp at h)⟩

/-! ## What is laid -/

def rowPart (p : List UInt8) : List UInt8 := laid 4 p.length ++ p
def rowBs (dm : UInt8) (ps : List (List UInt8)) (i : Nat) : List UInt8 := [dm, UInt8.ofNat ps.length] ++ (ps.take i).flatMap rowPart
def pRow (dm : UInt8) (ps : List (List UInt8)) : List UInt8 × Nat := if 16 < ps.length then ([], 3) else (rowBs dm ps ps.length, 0)

theorem rowBs_succ {dm : UInt8} {ps : List (List UInt8)} {i : Nat} (h : i < ps.length) : rowBs dm ps (i + 1) = rowBs dm ps i ++ laid 4 (ps.getD i []).length ++ ps.getD i [] := by
  unfold rowBs
  rw [List.take_succ_eq_append_getElem h, List.flatMap_append]
  simp [rowPart, h]

def rowBytes (ps : List (List UInt8)) : Nat := 2 + (ps.map fun p => p.length + 4).sum

theorem rowPart_length (ps : List (List UInt8)) : (ps.flatMap rowPart).length = (ps.map fun p => p.length + 4).sum := by
  induction ps with
  | nil => rfl
  | cons p ps ih => simp [rowPart, ih]; omega

theorem rowBs_le (dm : UInt8) (ps : List (List UInt8)) (i : Nat) : (rowBs dm ps i).length ≤ rowBytes ps := by
  unfold rowBs rowBytes
  rw [List.length_append, rowPart_length]
  have : ∀ (l : List (List UInt8)) (i : Nat), ((l.take i).map fun p => p.length + 4).sum ≤ (l.map fun p => p.length + 4).sum := by
    intro l
    induction l with
    | nil => intro i; simp
    | cons p l ih => intro i; cases i with
      | zero => simp
      | succ i => have := ih i; simp only [List.take_succ_cons, List.map_cons, List.sum_cons]; omega
  have := this ps i
  simp only [List.length_cons, List.length_nil]; omega

theorem elem1 {vs : List Value} {i : Nat} (h : i < vs.length) : (vs.drop (i * 1)).take 1 = [vs.getD i undef] := by
  rw [Nat.mul_one, List.drop_eq_getElem_cons h, List.take_succ_cons, List.take_zero]; simp [h]

end Go.Kx
/- Own library, part L: what a law's arguments read as; from the walk of a law to its row. -/
namespace Go.Kx
open Go
open Go.ChangeShapes Go.WideShapes Go.ChangeAt Go.RowKit
variable {P : Program} {W : World}

/-- What cells of type t that read as data are. -/
def Dec (P : Program) (W : World) (t : TypeId) (R : List Value → Prop) : Prop :=
  ∀ (H : Type) (enc : TypeId × Value → H) (fuel : Nat) (cs : List Value) (x : DataW H × List MemPlace),
    DataW.trod enc P W 0 (fun _ => true) true fuel t cs = some x → (∀ m, m ∈ x.1.weights P t → m ≤ reachBytes) → R cs

theorem Dec.mono {t : TypeId} {R R' : List Value → Prop} (h : Dec P W t R) (hr : ∀ cs, R cs → R' cs) : Dec P W t R' := fun H enc fuel cs x hx hw => hr _ (h H enc fuel cs x hx hw)

/-! ## From the walk to the row -/

theorem Mem.below {w w' : World} {Hs : List Ent} (h : Mem w [] w' Hs) : Below w.heap.size w w' :=
  ⟨h.os, h.tape, h.output, h.size, fun k hk => h.frame k hk (by simp)⟩

theorem trodAll_below {H : Type} {enc : TypeId × Value → H} (hl : laidOutB P = true) {W W' : World} (hb : Below W.heap.size W W') : ∀ (ts : List TypeId), (∀ t, t ∈ ts → P.readableRec t = true ∧ t < P.types.size) → ∀ (vs : List Value) (ds : List (DataW H)) (ps : List MemPlace),
    DataW.TrodAll enc P W 0 (fun _ => true) true ts vs ds ps → DataW.TrodAll enc P W' 0 (fun b => decide (b < W.heap.size)) true ts vs ds ps
  | [], _, vs, ds, ps, h => by
    obtain ⟨rfl, rfl, rfl⟩ := trodAll_nil h
    exact rfl
  | t :: ts, ht, vs, ds, ps, h => by
    obtain ⟨v, vs', d, ds', p, q, rfl, rfl, rfl, h1, h2⟩ := trodAll_cons h
    have h1' := h1
    obtain ⟨m, hm⟩ := h1'
    exact trodAll_cons_mk (Below.trod hl (ht t (List.mem_cons_self ..)).1 (ht t (List.mem_cons_self ..)).2 h1 hb (fun x hx => DataW.trod_lt m _ _ _ hm x hx))
      (trodAll_below hl hb ts (fun t' ht' => ht t' (List.mem_cons_of_mem _ ht')) vs' ds' q h2)

theorem trodAll_len {H : Type} {enc : TypeId × Value → H} {W : World} : ∀ {ts : List TypeId} {vs : List Value} {ds : List (DataW H)} {ps : List MemPlace}, DataW.TrodAll enc P W 0 (fun _ => true) true ts vs ds ps → ds.length = ts.length
  | [], vs, ds, ps, h => by obtain ⟨rfl, rfl, rfl⟩ := trodAll_nil h; rfl
  | t :: ts, vs, ds, ps, h => by
    obtain ⟨v, vs', d, ds', p, q, rfl, rfl, rfl, h1, h2⟩ := trodAll_cons h
    simp [trodAll_len h2]

end Go.Kx
/- Own library, part Q: slices that are written to: parts of an owned slice, stores to its elements, append to a full one, make. -/
namespace Go.Kx
open Go
variable {P : Program} {Q : Exit → Act → World → Prop} {D : Option (Nat → Prop)} {ops : Array Oper} {rest : List (Bool × Oper)} {a : Act} {w w0 w' : World} {n d : Nat} {L : List (Nat × Value)} {x y : Operand} {v u : Value} {M : List Nat} {H : List Ent} {ty : TypeId} {pos : String} {aft : Array Edge}

/-- The first elements of a slice. -/
def subV : Value → Nat → Value
  | .slice p _ c, l => .slice p l c
  | v, _ => v

@[simp] theorem subV_blocks (v : Value) (l : Nat) : valBlocks (subV v l) = valBlocks v := by cases v with
  | slice p m c => cases p <;> rfl
  | _ => rfl

/-- Where the k-th cell behind a slice's first one lies. -/
def elemP : Value → Nat → Value
  | .slice (some a) _ _, k => .pointer (some (a.add k))
  | _, _ => .pointer none

theorem own_cellsAt {es m j : Nat} {cs : List Value} (h : (own v es m cs).holds w) (hj : j < m) : (cellsAt (elemP v (j * es)) ((cs.drop (j * es)).take es)).holds w := by
  obtain ⟨h0, ⟨rfl, rfl⟩ | ⟨b, cap, cur, T, fr, rfl, h1, h2, h3, h4, h5, h6⟩⟩ := h
  · omega
  · refine ⟨b, 0 + j * es, by simp [elemP, Addr.add_mid], (Array.getElem?_eq_some_iff.1 h3).1, fun i x hx => ?_⟩
    rw [List.getElem?_take] at hx
    split at hx
    · rw [List.getElem?_drop, ← h5, List.getElem?_take] at hx
      split at hx
      · rw [cell_of_row w b _ cur T _ h3, Nat.zero_add]
        simpa using hx
      · cases hx
    · cases hx

theorem s_indexOwn {t es j m : Nat} {i : Int} {k' : IntKind} {cs : List Value} (hE : Env a n L) (hx : ev L x = some v) (hr : (own v es m cs).holds w) (hy : ev L y = some (.int k' i)) (ht : slT P t = some es)
    (hi : i = (j : Int)) (hj : j < m) (hn : Nat.blt d n = true)
    (k : ∀ a', Env a' n ((d, elemP v (j * es)) :: L) → (cellsAt (elemP v (j * es)) ((cs.drop (j * es)).take es)).holds w → wpL P ops D Q rest a' w) : wpL P ops D Q ((true, ⟨some d, .indexAddr t x y, ty, pos, aft, none⟩) :: rest) a w := by
  obtain ⟨e, hu, hs⟩ := slT_spec ht
  subst hi
  have hc := own_cellsAt hr hj
  obtain ⟨h0, ⟨rfl, rfl⟩ | ⟨b, cap, cur, T, fr, rfl, h1, h2, h3⟩⟩ := hr
  · omega
  · refine s_val hE hn (v := elemP (.slice (some ⟨b, 0, none⟩) m cap) (j * es)) (Flo.of_all (fun w => ?_) w) (fun a' hE' => k a' hE' hc)
    have h1 : (0 : Int) ≤ j ∧ (j : Int) < m := ⟨by omega, by omega⟩
    simp [execOp, hE.eval hx, hE.eval hy, Instr.indexAt, asIntOf, run_underlying hu, h1, run_sizeOf hs, Addr.add_mid, elemP]
    intro h; omega

/-- A store into an owned slice. -/
theorem s_storeOwn {t es m o s : Nat} {cs vs : List Value} (hE : Env a n L) (hx : ev L x = some (elemP v o)) (hy : ev L y = some u) (hM : Mem w0 M w (own v es m cs :: H))
    (hv : u.cells = vs.toArray) (ht : (P.info? t).map (·.size) = some s) (hl : vs.length = s) (h1 : One vs) (hj : o + vs.length ≤ m * es) (hs0 : 0 < m)
    (hX : ∀ X, D = some X → ∀ b, b ∈ valBlocks v → X b) (kk : ∀ w', Mem w0 M w' (own v es m (wr o vs cs) :: H) → wpL P ops D Q rest a w') : wpL P ops D Q ((false, ⟨none, .store t x y, ty, pos, aft, none⟩) :: rest) a w := by
  obtain ⟨h0, ⟨rfl, rfl⟩ | ⟨b, cap, cur, T, fr, rfl, g1, g2, g3, g4, g5, g6⟩⟩ := hM.holds _ (List.mem_cons_self ..)
  · omega
  · have hb := (Array.getElem?_eq_some_iff.1 g3).1
    have hcap : m * es ≤ cap * es := Nat.mul_le_mul_right _ g1
    have hst := run_storeVar_blk (P := P) (o := o) ht hv hl h1 g3 g6 (by omega)
    have hwl : (wr o vs cur.toList).length = cur.size := by rw [wr_length (by simp; omega)]; simp
    refine b_val0 (w' := setBlk w b (.cells (wr o vs cur.toList).toArray T fr)) ?_ (sta_of_setBlk (fun X hD => hX X hD b (by simp [valBlocks]))) (kk _ ?_)
    · simp only [elemP, Addr.add_mid, Nat.zero_add] at hx
      simp only [execOp, hE.eval hx, hE.eval hy, Instr.storeAt, Instr.sureAddr, Sem.run_bind, Sem.run_pure, Result.andThen_ok, hst, wr, hl]
    · refine Mem.act (es := [own (.slice (some ⟨b, 0, none⟩) m cap) es m cs]) (es' := [own (.slice (some ⟨b, 0, none⟩) m cap) es m (wr o vs cs)]) hM rfl rfl rfl (by simp) (fun b' hb' hne => setBlk_other fun e => hne _ (List.mem_cons_self ..) (by simp [own, valBlocks, e])) ?_ ?_ ?_ ?_ (List.pairwise_singleton ..)
      · intro e he; rw [List.mem_singleton.1 he]
        refine ⟨by rw [wr_length (by omega)]; exact h0, .inr ⟨b, cap, (wr o vs cur.toList).toArray, T, fr, rfl, g1, g2, setBlk_same hb, ?_, ?_, ?_⟩⟩
        · simpa [hwl] using g4
        · rw [← g5]
          have e1 : cur.toList = cur.toList.take (m * es) ++ cur.toList.drop (m * es) := (List.take_append_drop _ _).symm
          have hlt : (cur.toList.take (m * es)).length = m * es := by simp; omega
          show List.take (m * es) (wr o vs cur.toList) = _
          conv => lhs; rw [e1]
          rw [wr_append_left (by omega)]
          rw [List.take_left' (by rw [wr_length (by omega)]; exact hlt)]
        · simpa [hwl] using g6
      · intro e he b' hb'; rw [List.mem_singleton.1 he] at hb'; exact .inl ⟨_, List.mem_cons_self .., hb'⟩
      · intro e he b' hb'; rw [List.mem_singleton.1 he] at hb'; cases hb'
      · intro e he b' hb'; rw [List.mem_singleton.1 he] at hb'; cases hb'

theorem wr_set {o : Nat} {u : Value} {cs : List Value} (h : o < cs.length) : wr o [u] cs = cs.set o u := by
  unfold wr
  rw [List.set_eq_take_append_cons_drop, if_pos h]
  simp

theorem Mem.ownEq {es m m' : Nat} {cs cs' : List Value} (hM : Mem w0 M w (own v es m cs :: H)) (h1 : m = m') (h2 : cs = cs') : Mem w0 M w (own v es m' cs' :: H) := by subst h1 h2; exact hM

theorem rep_flatten_get {zc : List Value} {es : Nat} (hzl : zc.length = es) (hes : 0 < es) : ∀ (m q : Nat), q < m * es → (List.replicate m zc).flatten[q]? = zc[q % es]?
  | 0, q, hq => by omega
  | m + 1, q, hq => by
    rw [List.replicate_succ, List.flatten_cons]
    by_cases h : q < es
    · rw [List.getElem?_append_left (by omega), Nat.mod_eq_of_lt h]
    · rw [List.getElem?_append_right (by omega), hzl, rep_flatten_get hzl hes m (q - es) (by rw [Nat.add_mul] at hq; omega), ← Nat.mod_eq_sub_mod (by omega)]

/-- make: a slice of zeroes of one cell each (m elements of es cells; the zero is z). -/
theorem s_makeSlice {t e es bytes m : Nat} {i j : Int} {k1 k2 : IntKind} {zc : List Value} (hE : Env a n L) (hx : ev L x = some (.int k1 i)) (hy : ev L y = some (.int k2 j)) (hM : Mem w0 M w H) (ht : SlT P t e es bytes)
    (hz : ∃ z, (P.info? e).bind (·.zero) = some z ∧ z.cells = zc.toArray) (hi : i = (m : Int)) (hj : j = (m : Int)) (hb : m * bytes ≤ 16777216) (hm : m ≤ 16777216) (hes : 0 < es) (hn : Nat.blt d n = true)
    (k : ∀ a' v' w', Env a' n ((d, v') :: L) → Mem w0 M w' (own v' es m (List.replicate m zc).flatten :: H) → wpL P ops D Q rest a' w') :
    wpL P ops D Q ((false, ⟨some d, .makeSlice t x y, ty, pos, aft, none⟩) :: rest) a w := by
  subst hi hj
  obtain ⟨hu, hs, hb', z', hz', hzs⟩ := ht
  obtain ⟨z, hz1, hz2⟩ := hz
  obtain rfl : z' = z := by rw [hz'] at hz1; exact Option.some.inj hz1
  obtain ⟨ie, hie⟩ : ∃ ie, P.info? e = some ie := by cases h : P.info? e with | none => simp [h] at hs | some i => exact ⟨i, rfl⟩
  have hz0 : ∀ w, (zeroValue e).run P w = .ok z' w := fun w => by
    simp [hie] at hz1; simp [zeroValue, typeInfo, hie, hz1]
  have hzl : zc.length = es := by rw [hz2] at hzs; simpa using hzs
  have hib : ie.bytes = bytes := by simpa [hie] using hb'
  have wl : IntKind.i64.wrap (m : Int) = m := wrap_i64 (by omega) (by omega)
  have hcells : ((Array.range (m * es)).map (z'.cells[· % z'.cells.size]!)) = (List.replicate m zc).flatten.toArray := by
    apply Array.ext_getElem?
    intro q
    rw [hz2]
    by_cases hq : q < m * es
    · have hr : q % es < zc.length := by rw [hzl]; exact Nat.mod_lt _ hes
      have hfl := rep_flatten_get hzl hes m q hq
      rw [List.getElem?_toArray (xs := (List.replicate m zc).flatten), hfl, List.getElem?_eq_getElem hr, Array.getElem?_map, Array.getElem?_range, if_pos hq]
      simp [hzl, List.getElem?_eq_getElem hr]
    · have : (List.replicate m zc).flatten.length = m * es := by simp [hzl]
      rw [Array.getElem?_eq_none (by simp; omega), Array.getElem?_eq_none (by simp [hzl]; omega)]
  have hcl : (List.replicate m zc).flatten.length = m * es := by simp [hzl]
  refine b_val hE hn (v := .slice (some ⟨w.heap.size, 0, none⟩) m m) (w' := w.alloc (.cells (List.replicate m zc).flatten.toArray e)) ?_ (Sta.alloc D w _) (fun a' hE' => k a' _ _ hE' (hM.newSlice hcl (by rw [maxLen_eq]; omega)))
  have hti : ∀ w, (typeInfo e).run P w = .ok ie w := fun w => by simp [typeInfo, hie]
  have h1 : ¬ ((m : Int) < 0) := by omega
  have h2 : ¬ ((bytes : Int) * (m : Int) > 2 ^ 48) := by
    have : ((m * bytes : Nat) : Int) ≤ 16777216 := Int.ofNat_le.2 hb
    rw [Int.natCast_mul, Int.mul_comm] at this
    have h3 : (2 : Int) ^ 48 = 281474976710656 := rfl
    omega
  have h4 : ¬ (m * bytes > roomBytes) := by show ¬ (m * bytes > 140737488355328); omega
  have hask : ∀ w, (askRoom (m * bytes)).run P w = .ok () w := fun w => by rw [askRoom, if_neg h4]; rfl
  have hrun : ∀ w, (Instr.makeSlice t (.int k1 m) (.int k2 m)).run P w = .ok (.slice (some ⟨w.heap.size, 0, none⟩) m m) (w.alloc (.cells (List.replicate m zc).flatten.toArray e)) := by
    intro w
    simp only [Instr.makeSlice, asInt, asIntOf, Sem.run_bind, run_underlying hu, Sem.run_pure, Result.andThen_ok, hti, hib, wl, h1, h2, decide_false, Bool.or_self, Bool.false_or, Bool.or_false, gt_iff_lt, Int.lt_irrefl, Int.toNat_natCast, hask, run_sizeOf hs, Bool.false_eq_true, if_false]
    by_cases h0 : m * es = 0
    · have hnil : (List.replicate m zc).flatten.toArray = #[] := by
        have : (List.replicate m zc).flatten = [] := List.eq_nil_of_length_eq_zero (by omega)
        rw [this]
      have h5 : Array.range 0 = #[] := rfl
      simp [h0, hnil, newRow, h5]
    · simp only [h0, if_false, Sem.run_bind, hz0, Result.andThen_ok, Sem.run_pure, hcells, newRow]
      rfl
  simp only [execOp, hE.eval hx, hE.eval hy, Sem.run_bind, hrun, Result.andThen_ok]
  rfl

end Go.Kx
/- Own library, part S: plain laws of numbers and texts as bytes. -/
namespace Go.Kx
open Go
variable {P : Program}

theorem bin_rem_nat {t : TypeId} {k : IntKind} {m s : Nat} (hs : s ≠ 0) : Bin P .rem t (.int k m) (.int k s) (.int k ((m % s : Nat) : Int)) := bin_rem (by omega) rfl

theorem bin_quo_nat {t : TypeId} {k : IntKind} {m s : Nat} (hs : s ≠ 0) (hw : k.wrap ((m / s : Nat) : Int) = ((m / s : Nat) : Int)) : Bin P .quo t (.int k m) (.int k s) (.int k ((m / s : Nat) : Int)) := bin_quo (by omega) (by
  rw [show ((m : Int).tdiv s) = ((m / s : Nat) : Int) from rfl]; exact hw)

end Go.Kx
/- Own library, part R: what comes in as an argument of a law. -/
namespace Go.Kx
open Go
open Go.ChangeShapes Go.WideShapes Go.ChangeAt Go.RowKit
variable {P : Program} {W : World} {H : Type} {enc : TypeId × Value → H}

end Go.Kx
/- Own library, part T: plain laws of rows of parts; lists of parts that grow or come in. -/
namespace Go.Kx
open Go
open Go.ChangeShapes Go.WideShapes Go.ChangeAt Go.RowKit
variable {P : Program} {w0 w : World} {M : List Nat} {H : List Ent}

variable {W : World} {K : Type} {enc : TypeId × Value → K}

end Go.Kx
/- Own library, part U: plain laws: rows are read back, and are laid as they were read. -/
namespace Go.Kx
open Go
variable {P : Program} {w0 w w' : World} {M : List Nat} {H : List Ent}

end Go.Kx
/- Own library, part V: a block beside a slice that it does not hold; fields of elements. -/
namespace Go.Kx
open Go
variable {P : Program} {Q : Exit → Act → World → Prop} {D : Option (Nat → Prop)} {ops : Array Oper} {rest : List (Bool × Oper)} {a : Act} {w w0 w' : World} {n d : Nat} {L : List (Nat × Value)} {x y : Operand} {v u : Value} {M : List Nat} {H : List Ent} {ty : TypeId} {pos : String} {aft : Array Edge}

theorem Sta.mono {X Y : Nat → Prop} (h : Sta (some X) w w') (hXY : ∀ b, X b → Y b) : Sta (some Y) w w' := ⟨h.1, fun b hb hy => h.2 b hb (fun hx => hy (hXY b hx))⟩

/-- The cells of numbers, two an element. -/
def two (ls : List (Int × Int)) : List Value := ls.flatMap fun p => [.int .i64 p.1, .int .i64 p.2]
variable {W : World} {K : Type} {enc : TypeId × Value → K}
open Go.ChangeShapes Go.WideShapes Go.ChangeAt Go.RowKit

end Go.Kx
/- Own library, part W: lists of widths, numbers and texts: laid one behind the other, and taken back. -/
namespace Go.Kx
open Go
variable {P : Program} {w0 w : World} {M : List Nat} {H : List Ent}

/-- A block's parts are named anew. -/
theorem Mem.resplit {b T : Nat} {ss ss' : List (List Value)} {ns ns' : List Nat} (hM : Mem w0 M w (blk b ss ns T :: H)) (hf : ss'.flatten = ss.flatten) (hn : ss'.map List.length = ns') : Mem w0 M w (blk b ss' ns' T :: H) := by
  refine Mem.act (es := [blk b ss ns T]) (es' := [blk b ss' ns' T]) hM rfl rfl rfl (Nat.le_refl _) (fun _ _ _ => rfl) ?_ ?_ ?_ ?_ (List.pairwise_singleton ..)
  · intro e he; rw [List.mem_singleton.1 he]
    obtain ⟨_, fr, h1, h2⟩ := hM.get 0 rfl
    exact ⟨hn, fr, by rw [hf]; exact h1, by rw [hf]; exact h2⟩
  · intro e he b' hb; rw [List.mem_singleton.1 he] at hb; exact .inl ⟨_, .head _, hb⟩
  · intro e he b' hb; rw [List.mem_singleton.1 he] at hb; cases hb
  · intro e he b' hb; rw [List.mem_singleton.1 he] at hb; cases hb

abbrev Trio := Int × Nat × ByteArray
def it (k : Trio) : List Value := [.int .i64 k.1, .int .u64 (k.2.1 : Int), .string k.2.2]
def its (ls : List Trio) : List Value := ls.flatMap it
def encI (k : Trio) : List UInt8 := laid k.1.toNat k.2.1 ++ (laid 2 k.2.2.size ++ k.2.2.data.toList)
def enc (ks : List Trio) : List UInt8 := ks.flatMap encI

variable {W : World} {K : Type} {enc' : TypeId × Value → K}
open Go.ChangeShapes Go.WideShapes Go.ChangeAt Go.RowKit

end Go.Kx
/- Own library, part X: arrays of bytes and structs are compared. -/
namespace Go.Kx
open Go
variable {P : Program} {w : World}

theorem part_u8 {e : Nat} {a : List UInt8} {i : Nat} (he : P.underlying e = some (.int .u8)) (hi : i < a.length) : (part e (bv a).toArray i).run P w = .ok (bV (a.getD i 0)) w := by
  simp [part, isAgg, run_underlying he, bv, hi, List.getD]

theorem eqItems_u8 {e : Nat} (he : P.underlying e = some (.int .u8)) (d : Nat) (a b : List UInt8) : ∀ is : List Nat, (∀ i, i ∈ is → i < a.length ∧ i < b.length) →
    (Op.eqItems (d + 1) e 1 (bv a).toArray (bv b).toArray is).run P w = .ok (is.all fun i => decide (a.getD i 0 = b.getD i 0)) w
  | [], _ => by simp [Op.eqItems]
  | i :: is, h => by
    obtain ⟨h1, h2⟩ := h i (.head _)
    have ih := eqItems_u8 he d a b is (fun j hj => h j (.tail _ hj))
    have hv : ∀ x y : UInt8, (Op.equalIn (d + 1) e (bV x) (bV y)).run P w = .ok (decide (x = y)) w := fun x y => by
      have : ((x.toNat : Int) == (y.toNat : Int)) = decide (x = y) := by
        rw [Bool.eq_iff_iff]
        simp only [beq_iff_eq, decide_eq_true_eq]
        rw [← UInt8.toNat_inj]
        omega
      simp [Op.equalIn, run_underlying he, bV, this]
    simp only [Op.eqItems, Nat.mul_one, Sem.run_bind, part_u8 he h1, part_u8 he h2, hv, Result.andThen_ok, List.all_cons]
    by_cases hxy : a.getD i 0 = b.getD i 0
    · simp only [hxy, decide_true, Bool.not_true, Bool.false_eq_true, if_false, Bool.true_and]
      exact ih
    · simp only [hxy, decide_false, Bool.not_false, if_true, Bool.false_and, Sem.run_pure]

theorem all_eq {a b : List UInt8} (h : a.length = b.length) : ((List.range a.length).all fun i => decide (a.getD i 0 = b.getD i 0)) = decide (a = b) := by
  rw [Bool.eq_iff_iff]
  simp only [List.all_eq_true, List.mem_range, decide_eq_true_eq]
  constructor
  · intro hh
    apply List.ext_getElem h
    intro i h1 h2
    have := hh i h1
    simpa [List.getD, h1, h2] using this
  · rintro rfl i _; rfl

/-- Two arrays of bytes. -/
theorem equal_u8s {t e n : Nat} {ie : TypeInfo} {a b : List UInt8} (ht : P.underlying t = some (.array n e)) (hie : P.info? e = some ie) (he : P.underlying e = some (.int .u8)) (hc : P.cellsOf e = 1) (ha : a.length = n) (hb : b.length = n) (d : Nat) :
    (Op.equalIn (d + 2) t (.agg (bv a).toArray) (.agg (bv b).toArray)).run P w = .ok (decide (a = b)) w := by
  rw [run_equalIn_array w (d + 1) _ _ ht hie, hc, ← ha, eqItems_u8 he d a b _ (fun i hi => by have := List.mem_range.1 hi; omega), all_eq (by omega)]

end Go.Kx
/- Own library, part H: words of 32 bits, arrays that are indexed by what is not known, closures' cells, drawn regions in two phases over memory. -/
namespace Go.Kx
open Go
variable {P : Program} {Q : Exit → Act → World → Prop} {D : Option (Nat → Prop)} {ops : Array Oper} {rest : List (Bool × Oper)} {a : Act} {w w0 w' : World} {n d : Nat} {L : List (Nat × Value)} {x y : Operand} {v u : Value} {M : List Nat} {H : List Ent} {ty : TypeId} {pos : String} {aft : Array Edge}

theorem wp_drawnM2 {id : Nat} {ops : Array Oper} (hM : Mem w0 M w H) (hm : P.follows .mixedOrders = true) (X1 X2 : Nat → Prop) (c1 c2 : List (Nat × Bool)) (T : List (Nat × List (Nat × Nat)))
    (hc : canonOk ops (c1 ++ c2) T = true) (hx : crossOk ops c1 c2 T = true) {l1 l2 : List (Bool × Oper)} (hl1 : theOps ops c1 = l1) (hl2 : theOps ops c2 = l2)
    (h : ∀ w', Mem w0 M w' H → w'.heap = w.heap → wpL P ops (some X1) (ph P ops (some X2) Q l2) l1 a w') : (Code.region id ops true).wp P Q a w :=
  wp_drawn2 hm X1 X2 c1 c2 T hc hx hl1 hl2 (h _ hM.drew rfl)

theorem wp_forkM {id : Nat} {ops : Array Oper} (hM : Mem w0 M w H) (hm : P.follows .mixedOrders = true) (X1 X2 : Nat → Prop) (pre : List (Nat × Bool)) (x y : Nat × Bool) (post c2 : List (Nat × Bool)) (T : List (Nat × List (Nat × Nat)))
    (hc : forkOk ops pre x y post c2 T = true) (hx : crossOk ops (pre ++ x :: y :: post) c2 T = true) {l1 l1' l2 : List (Bool × Oper)} (hl1 : theOps ops (pre ++ x :: y :: post) = l1) (hl1' : theOps ops (pre ++ y :: x :: post) = l1') (hl2 : theOps ops c2 = l2)
    (h : ∀ w', Mem w0 M w' H → w'.heap = w.heap → wpL P ops (some X1) (ph P ops (some X2) Q l2) l1 a w') (h' : ∀ w', Mem w0 M w' H → w'.heap = w.heap → wpL P ops (some X1) (ph P ops (some X2) Q l2) l1' a w') :
    (Code.region id ops true).wp P Q a w :=
  wp_fork hm X1 X2 pre x y post c2 T hc hx hl1 hl1' hl2 (h _ hM.drew rfl) (h' _ hM.drew rfl)

theorem q_ph {l : List (Bool × Oper)} (h : wpL P ops D Q l a w) : ph P ops D Q l .normal a w := h

/-! ## Words -/

def wV (x : UInt32) : Value := .int .u32 (x.toNat : Int)
def wd (l : List UInt32) : List Value := l.map wV
@[simp] theorem wd_length (l : List UInt32) : (wd l).length = l.length := by simp [wd]
theorem wd_one (l : List UInt32) : One (wd l) := fun v hv => by
  obtain ⟨x, _, rfl⟩ := List.mem_map.1 hv; rfl
theorem wd_get {l : List UInt32} {j : Nat} (h : j < l.length) : (wd l)[j]? = some (wV (l.getD j 0)) := by simp [wd, h]
theorem wd_set {l : List UInt32} {j : Nat} {x : UInt32} : (wd l).set j (wV x) = wd (l.set j x) := by simp [wd, List.map_set]
theorem bv_get {l : List UInt8} {j : Nat} (h : j < l.length) : (bv l)[j]? = some (bV (l.getD j 0)) := by simp [bv, h]
theorem bv_set' {l : List UInt8} {j : Nat} {x : UInt8} : (bv l).set j (bV x) = bv (l.set j x) := by simp [bv, List.map_set]

theorem bv_setI {l : List UInt8} {j : Nat} {x : UInt8} : (bv l).set j (.int .u8 (x.toNat : Int)) = bv (l.set j x) := bv_set'

theorem wrap_u32_ofNat (m : Nat) : IntKind.u32.wrap (m : Int) = ((UInt32.ofNat m).toNat : Int) := by
  rw [IntKind.wrap_u32]; simp

theorem bin_add32 {t : TypeId} {x y : UInt32} : Bin P .add t (wV x) (wV y) (wV (x + y)) :=
  bin_add (by
    have := wrap_u32_ofNat (x.toNat + y.toNat)
    rw [Int.natCast_add] at this
    rw [this, UInt32.ofNat_add]; simp)
theorem bin_mul32 {t : TypeId} {x y : UInt32} : Bin P .mul t (wV x) (wV y) (wV (x * y)) :=
  bin_mul (by
    have := wrap_u32_ofNat (x.toNat * y.toNat)
    rw [Int.natCast_mul] at this
    rw [this, UInt32.ofNat_mul]; simp)

theorem wrap_u32_lt {m : Nat} (h : m < 2 ^ 32) : IntKind.u32.wrap (m : Int) = (m : Int) := by
  rw [wrap_u32_ofNat, UInt32.toNat_ofNat_of_lt' h]

theorem bin_xor32 {t : TypeId} {x y : UInt32} : Bin P .xor t (wV x) (wV y) (wV (x ^^^ y)) := bin_of rfl fun w => by
  have e : (BitVec.ofInt IntKind.u32.bits (x.toNat : Int) ^^^ BitVec.ofInt IntKind.u32.bits (y.toNat : Int)).toNat = (x ^^^ y).toNat := by
    show (BitVec.ofInt 32 (x.toNat : Int) ^^^ BitVec.ofInt 32 (y.toNat : Int)).toNat = _
    simp [BitVec.toNat_xor]
  simp only [wV, binOp, Op.intBits]
  rw [if_neg (by simp), e, wrap_u32_lt (UInt32.toNat_lt _)]; rfl
theorem bin_and32 {t : TypeId} {x y : UInt32} : Bin P .and t (wV x) (wV y) (wV (x &&& y)) := bin_of rfl fun w => by
  have e : (BitVec.ofInt IntKind.u32.bits (x.toNat : Int) &&& BitVec.ofInt IntKind.u32.bits (y.toNat : Int)).toNat = (x &&& y).toNat := by
    show (BitVec.ofInt 32 (x.toNat : Int) &&& BitVec.ofInt 32 (y.toNat : Int)).toNat = _
    simp [BitVec.toNat_and]
  simp only [wV, binOp, Op.intBits]
  rw [if_neg (by simp), e, wrap_u32_lt (UInt32.toNat_lt _)]; rfl
theorem bin_or32 {t : TypeId} {x y : UInt32} : Bin P .or t (wV x) (wV y) (wV (x ||| y)) := bin_of rfl fun w => by
  have e : (BitVec.ofInt IntKind.u32.bits (x.toNat : Int) ||| BitVec.ofInt IntKind.u32.bits (y.toNat : Int)).toNat = (x ||| y).toNat := by
    show (BitVec.ofInt 32 (x.toNat : Int) ||| BitVec.ofInt 32 (y.toNat : Int)).toNat = _
    simp [BitVec.toNat_or]
  simp only [wV, binOp, Op.intBits]
  rw [if_neg (by simp), e, wrap_u32_lt (UInt32.toNat_lt _)]; rfl

def shrW (x : UInt32) (k : Nat) : UInt32 := UInt32.ofNat (x.toNat / 2 ^ k)
def shlW (x : UInt32) (k : Nat) : UInt32 := UInt32.ofNat (x.toNat * 2 ^ k)

theorem bin_shr32 {t : TypeId} {x : UInt32} {k' : IntKind} {s : Nat} {j : Int} (hj : j = (s : Int)) (hs : s ≤ 32) : Bin P .shr t (wV x) (.int k' j) (wV (shrW x s)) := by
  have h := bin_shr_nat (P := P) (t := t) (k := .u32) (k' := k') (m := x.toNat) hj hs
  have e : (shrW x s).toNat = x.toNat / 2 ^ s := UInt32.toNat_ofNat_of_lt' (Nat.lt_of_le_of_lt (Nat.div_le_self _ _) x.toNat_lt)
  unfold wV; rw [e]; exact h
theorem bin_shl32 {t : TypeId} {x : UInt32} {k' : IntKind} {s : Nat} {j : Int} (hj : j = (s : Int)) (hs : s ≤ 32) : Bin P .shl t (wV x) (.int k' j) (wV (shlW x s)) := bin_of rfl fun w => by
  subst hj
  have h1 : ¬ ((s : Int) < 0) := by omega
  have h2 : min (s : Int).toNat IntKind.u32.bits = s := by show min s 32 = s; omega
  simp only [wV, binOp, Op.shift, h1, if_false, h2]
  have e : (x.toNat : Int) * 2 ^ s = ((x.toNat * 2 ^ s : Nat) : Int) := by simp
  rw [e, wrap_u32_ofNat]; rfl

/-! ## Arrays -/

theorem cellsAt_elem {b m T j : Nat} {cs : List Value} (h : (blk b [cs] [m] T).holds w) (hj : cs[j]? = some v) : (cellsAt (.pointer (some ⟨b, j, none⟩)) [v]).holds w := by
  obtain ⟨hm, fr, hh, hf⟩ := h
  refine ⟨b, j, rfl, (Array.getElem?_eq_some_iff.1 hh).1, fun i x hx => ?_⟩
  cases i with
  | zero =>
    simp only [List.getElem?_cons_zero, Option.some.injEq] at hx
    subst hx
    rw [Nat.add_zero, cell_of_row w b j _ T fr hh]
    simpa using hj
  | succ i => simp at hx

theorem s_loadIdx {t b o m T j : Nat} {cs : List Value} (hE : Env a n L) (hx : ev L x = some (.pointer (some ⟨b, o, none⟩))) (ho : o = j) (hB : (blk b [cs] [m] T).holds w) (hj : cs[j]? = some v) (ht : OneT P t)
    (hX : ∀ X, D = some X → ¬ X b) (hn : Nat.blt d n = true) (k : ∀ a', Env a' n ((d, v) :: L) → wpL P ops D Q rest a' w) : wpL P ops D Q ((true, ⟨some d, .load t x, ty, pos, aft, none⟩) :: rest) a w := by
  subst ho
  exact s_loadAt1 hE hx (cellsAt_elem hB hj) ht (fun X hD b' hb => by simp [valBlocks] at hb; subst hb; exact hX X hD) hn k

theorem cellsAt_part {b j : Nat} {cs : List Value} (h : (cellsAt (.pointer (some ⟨b, 0, none⟩)) cs).holds w) (hj : cs[j]? = some v) : (cellsAt (.pointer (some ⟨b, j, none⟩)) [v]).holds w := by
  obtain ⟨b', o', e, h2, h3⟩ := h
  cases e
  refine ⟨b, j, rfl, h2, fun i x hx => ?_⟩
  cases i with
  | zero =>
    simp only [List.getElem?_cons_zero, Option.some.injEq] at hx
    subst hx
    have := h3 j v hj
    rwa [Nat.zero_add] at this
  | succ i => simp at hx

theorem s_loadCells {t b o j : Nat} {cs : List Value} (hE : Env a n L) (hx : ev L x = some (.pointer (some ⟨b, o, none⟩))) (ho : o = j) (hB : (cellsAt (.pointer (some ⟨b, 0, none⟩)) cs).holds w) (hj : cs[j]? = some v) (ht : OneT P t)
    (hX : ∀ X, D = some X → ¬ X b) (hn : Nat.blt d n = true) (k : ∀ a', Env a' n ((d, v) :: L) → wpL P ops D Q rest a' w) : wpL P ops D Q ((true, ⟨some d, .load t x, ty, pos, aft, none⟩) :: rest) a w := by
  subst ho
  exact s_loadAt1 hE hx (cellsAt_part hB hj) ht (fun X hD b' hb => by simp [valBlocks] at hb; subst hb; exact hX X hD) hn k

theorem s_storeIdx {t b o j m T : Nat} {cs : List Value} (hE : Env a n L) (hx : ev L x = some (.pointer (some ⟨b, o, none⟩))) (ho : o = j) (hy : ev L y = some u) (hM : Mem w0 M w (blk b [cs] [m] T :: H))
    (hv : u.cells = #[u]) (h1 : u.oneCell' = true) (ht : (P.info? t).map (·.size) = some 1) (hj : j < cs.length)
    (hX : ∀ X, D = some X → X b) (kk : ∀ w', Mem w0 M w' (blk b [cs.set j u] [m] T :: H) → wpL P ops D Q rest a w') : wpL P ops D Q ((false, ⟨none, .store t x y, ty, pos, aft, none⟩) :: rest) a w := by
  subst ho
  exact s_store (j := o) 0 (vs := [u]) (g := cs) hE hx hy hM hv ht rfl (one1 h1) rfl (by simp only [List.length_singleton]; omega) (by simp) (show [wr o [u] cs] = _ by rw [wr_set hj]) hX kk

theorem s_index1 {t l e j : Nat} {i : Int} {k' : IntKind} {cs : List Value} (hE : Env a n L) (hx : ev L x = some (.agg cs.toArray)) (hy : ev L y = some (.int k' i)) (hu : P.underlying t = some (.array l e)) (ho : OneT P e)
    (hi : i = (j : Int)) (hj : j < l) (hv : cs[j]? = some v) (hn : Nat.blt d n = true)
    (k : ∀ a', Env a' n ((d, v) :: L) → wpL P ops D Q rest a' w) : wpL P ops D Q ((true, ⟨some d, .index t x y, ty, pos, aft, none⟩) :: rest) a w := by
  subst hi
  refine s_val hE hn (Flo.of_all (fun w => ?_) w) k
  have h1 : (0 : Int) ≤ j ∧ (j : Int) < l := ⟨by omega, by omega⟩
  obtain ⟨⟨td, h2, h3⟩, h4⟩ := ho
  simp only [execOp, hE.eval hx, hE.eval hy, Instr.index, asIntOf, Sem.run_bind, Sem.run_pure, Result.andThen_ok, run_underlying hu, h1, and_self, if_true, run_sizeOf h4, part, run_isAgg h2, h3, Bool.false_eq_true, if_false, Int.toNat_natCast, Nat.mul_one, List.getElem?_toArray, hv]

theorem s_makeFn {fn : Fn} {xs : List Operand} {vs : List Value} (hE : Env a n L) (hv : evL L xs = some vs) (hn : Nat.blt d n = true) (k : ∀ a', Env a' n ((d, .func fn #[] vs.toArray) :: L) → wpL P ops D Q rest a' w) :
    wpL P ops D Q ((true, ⟨some d, .makeFunc fn #[] xs.toArray, ty, pos, aft, none⟩) :: rest) a w :=
  s_makeFunc hE hn (fun a' h => k a' (by
    have e : (xs.toArray.map a.eval) = vs.toArray := by rw [← hE.evals hv]; simp
    rw [e] at h
    simpa using h))

theorem s_calldynL {f : FuncId} {xs : List Operand} {ts : Array TypeId} {vs capl : List Value} {R : Ending → World → Prop} (hE : Env a n L) (hx : ev L x = some (.func (.func f) #[] capl.toArray)) (hv : evL L xs = some vs) (hf : ∀ args w, (callFunc f args).run P w = .ok (.enter f args) w)
    (hc : Calls P f (vs ++ capl).toArray w R) (hn : Nat.blt d n = true)
    (k : ∀ e w', R e w' → ∃ v, e = .returned v ∧ Sta D w w' ∧ ∀ a', Env a' n ((d, v) :: L) → wpL P ops D Q rest a' w') :
    wpL P ops D Q ((false, ⟨some d, .call { callee := .value x, args := xs.toArray, argTypes := ts }, ty, pos, aft, none⟩) :: rest) a w :=
  s_calldyn hE hx hv hf (by simpa using hc) hn k
end Go.Kx
