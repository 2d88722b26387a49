/- Own library: parts KxF, KxG, KxP. -/
import Derived.Test.YtacebdngbalkmaaDoorKc1
import Derived.Deep.LoopGhost
import Derived.Lib.Bytes
set_option linter.unusedSimpArgs false
set_option linter.unusedVariables false
/- Own library, part F: the steps that make or turn memory; calls; control; entering and leaving a function. -/
namespace Go.Kx
open Go
variable {P : Program} {ops : Array Oper} {D : Option (Nat → Prop)} {Q : Exit → Act → World → Prop} {w0 w w' : World} {M : List Nat} {H H' : List Ent}
  {a : Act} {n : Nat} {L : List (Nat × Value)} {rest : List (Bool × Oper)} {d : Nat} {ty : TypeId} {pos : String} {aft : Array Edge} {x y z : Operand} {u v r : Value}

/-! ## What does not float -/

theorem b_val {op : Op} (hE : Env a n L) (hn : Nat.blt d n = true) (hr : (execOp a.eval ⟨some d, op, ty, pos, aft, none⟩).run P w = .ok (.value v) w') (hs : Sta D w w')
    (k : ∀ a', Env a' n ((d, v) :: L) → wpL P ops D Q rest a' w') : wpL P ops D Q ((false, ⟨some d, op, ty, pos, aft, none⟩) :: rest) a w := by
  simp only [wpL]
  rw [if_pos (by simp [Region.wanted])]
  refine .inl ?_
  unfold Oper.wp
  rw [hr]
  exact ⟨hs, k _ (hE.put _ (blt_lt hn))⟩

theorem b_val0 {op : Op} (hr : (execOp a.eval ⟨none, op, ty, pos, aft, none⟩).run P w = .ok .skip w') (hs : Sta D w w')
    (k : wpL P ops D Q rest a w') : wpL P ops D Q ((false, ⟨none, op, ty, pos, aft, none⟩) :: rest) a w := by
  simp only [wpL]
  rw [if_pos (by simp [Region.wanted])]
  refine .inl ?_
  unfold Oper.wp
  rw [hr]
  exact ⟨hs, k⟩

theorem Sta.alloc (D : Option (Nat → Prop)) (w : World) (o : Obj) : Sta D w (w.alloc o) := by
  cases D with
  | none => trivial
  | some X => exact ⟨by simp, fun b hb _ => alloc_old w o b hb⟩

theorem Mem.alloc (hM : Mem w0 M w H) (ss : List (List Value)) (ns : List Nat) (T : TypeId) (hl : ss.map List.length = ns) : Mem w0 M (w.alloc (.cells ss.flatten.toArray T)) (blk w.heap.size ss ns T :: H) := by
  refine Mem.act (es := []) (es' := [blk w.heap.size ss ns T]) hM rfl rfl rfl (by simp) (fun b hb _ => alloc_old w _ b hb) ?_ ?_ ?_ ?_ (List.pairwise_singleton ..)
  · intro e he; rw [List.mem_singleton.1 he]; exact ⟨hl, (0, 0), heap_alloc_new w _, Fz.zero _⟩
  · intro e he b hb; rw [List.mem_singleton.1 he] at hb; right; simp [blk] at hb; omega
  · intro e he b hb; rw [List.mem_singleton.1 he] at hb; cases hb
  · intro e he b hb; rw [List.mem_singleton.1 he] at hb; cases hb

/-- The zero of a type, in parts. -/
def Zero (P : Program) (t : Nat) (ss : List (List Value)) : Prop := ∃ z, (P.info? t).bind (·.zero) = some z ∧ z.cells = ss.flatten.toArray

theorem run_zero {t : Nat} {ss : List (List Value)} (h : Zero P t ss) : ∃ z, (∀ w, (zeroValue t).run P w = .ok z w) ∧ z.cells = ss.flatten.toArray := by
  obtain ⟨z, hz, hc⟩ := h
  refine ⟨z, fun w => ?_, hc⟩
  cases hi : P.info? t with
  | none => simp [hi] at hz
  | some i => simp [hi] at hz; simp [zeroValue, typeInfo, hi, hz]

theorem s_alloc {t : Nat} {ss : List (List Value)} (ns : List Nat) (hE : Env a n L) (hM : Mem w0 M w H) (hz : Zero P t ss) (hl : ss.map List.length = ns) (hn : Nat.blt d n = true)
    (k : ∀ a' b w', Env a' n ((d, .pointer (some ⟨b, 0, none⟩)) :: L) → Mem w0 M w' (blk b ss ns t :: H) → wpL P ops D Q rest a' w') : wpL P ops D Q ((false, ⟨some d, .alloc t, ty, pos, aft, none⟩) :: rest) a w := by
  obtain ⟨z, hz, hc⟩ := run_zero hz
  refine b_val hE hn (v := .pointer (some ⟨w.heap.size, 0, none⟩)) (w' := w.alloc (.cells ss.flatten.toArray t)) ?_ (Sta.alloc D w _) (fun a' hE' => k a' _ _ hE' (hM.alloc ss ns t hl))
  simp [execOp, Instr.alloc, hz, newVar, newRow, hc]

theorem s_box {t : Nat} {ss : List (List Value)} (ns : List Nat) (hE : Env a n L) (hM : Mem w0 M w H) (hx : ev L x = some v) (hv : v.cells = ss.flatten.toArray) (hl : ss.map List.length = ns) (hn : Nat.blt d n = true)
    (k : ∀ a' b w', Env a' n ((d, .pointer (some ⟨b, 0, none⟩)) :: L) → Mem w0 M w' (blk b ss ns t :: H) → wpL P ops D Q rest a' w') : wpL P ops D Q ((false, ⟨some d, .box t x, ty, pos, aft, none⟩) :: rest) a w := by
  refine b_val hE hn (v := .pointer (some ⟨w.heap.size, 0, none⟩)) (w' := w.alloc (.cells ss.flatten.toArray t)) ?_ (Sta.alloc D w _) (fun a' hE' => k a' _ _ hE' (hM.alloc ss ns t hl))
  simp [execOp, hE.eval hx, Instr.box, newVar, newRow, hv]

/-! ## Building a struct or an array -/

/-- What 'build' gives: a closed fact, or by 'bld_struct'. -/
def Bld (P : Program) (t : Nat) (parts : Array (Nat × Value)) (r : Value) : Prop := ∀ w, (Instr.build t parts).run P w = .ok r w

theorem s_build {t : Nat} {ps : Array (Nat × Operand)} (vs : Array (Nat × Value)) (hE : Env a n L) (hv : ps.map (fun p => (p.1, a.eval p.2)) = vs) (hb : Bld P t vs r) (hn : Nat.blt d n = true)
    (k : ∀ a', Env a' n ((d, r) :: L) → wpL P ops D Q rest a' w) : wpL P ops D Q ((true, ⟨some d, .build t ps, ty, pos, aft, none⟩) :: rest) a w :=
  s_val hE hn (Flo.of_all (fun w => by
    have := hb w
    simp only [execOp]
    rw [Sem.run_bind, show (ps.map fun x => match x with | (i, x) => (i, a.eval x)) = vs from hv, this]; rfl) w) k

/-! ## Stores -/

def wr (o : Nat) (vs l : List Value) : List Value := l.take o ++ vs ++ l.drop (o + vs.length)

theorem wr_length {o : Nat} {vs l : List Value} (h : o + vs.length ≤ l.length) : (wr o vs l).length = l.length := by simp [wr]; omega

theorem wr_all {vs l : List Value} (h : vs.length = l.length) : wr 0 vs l = vs := by simp [wr, h]

theorem wr_append_left {o : Nat} {vs l r : List Value} (h : o + vs.length ≤ l.length) : wr o vs (l ++ r) = wr o vs l ++ r := by
  simp only [wr]
  rw [List.take_append_of_le_length (by omega), List.drop_append_of_le_length h]
  simp

theorem wr_append_right {o : Nat} {vs l r : List Value} : wr (l.length + o) vs (l ++ r) = l ++ wr o vs r := by
  simp only [wr]
  rw [List.take_length_add_append, Nat.add_assoc, List.drop_length_add_append]
  simp

/-- One part is written, from its j-th cell on. -/
def wrSeg : Nat → Nat → List Value → List (List Value) → List (List Value)
  | _, _, _, [] => []
  | 0, j, vs, g :: ss => wr j vs g :: ss
  | k + 1, j, vs, g :: ss => g :: wrSeg k j vs ss

theorem wrSeg_flatten : ∀ {ss : List (List Value)} {k j : Nat} {vs : List Value} {g : List Value}, ss[k]? = some g → j + vs.length ≤ g.length →
    wr ((ss.take k).flatten.length + j) vs ss.flatten = (wrSeg k j vs ss).flatten ∧ (wrSeg k j vs ss).map List.length = ss.map List.length
  | [], k, j, vs, g, h, _ => by simp at h
  | g' :: ss, 0, j, vs, g, h, hj => by
    simp at h; subst h
    simp only [List.take_zero, List.flatten_nil, List.length_nil, Nat.zero_add, List.flatten_cons, wrSeg, List.map_cons]
    exact ⟨wr_append_left hj, by rw [wr_length hj]⟩
  | g' :: ss, k + 1, j, vs, g, h, hj => by
    obtain ⟨h1, h2⟩ := wrSeg_flatten (ss := ss) (k := k) (by simpa using h) hj
    simp only [List.take_succ_cons, List.flatten_cons, List.length_append, wrSeg, List.map_cons, h2]
    refine ⟨?_, trivial⟩
    rw [Nat.add_assoc, wr_append_right, h1]

theorem take_flatten_length : ∀ (ss : List (List Value)) (k : Nat), (ss.take k).flatten.length = ((ss.map List.length).take k).sum
  | [], k => by simp
  | g :: ss, 0 => by simp
  | g :: ss, k + 1 => by simp [take_flatten_length ss k]

theorem sta_of_setBlk {b : Nat} {o : Obj} (hX : ∀ X, D = some X → X b) : Sta D w (setBlk w b o) := by
  cases D with
  | none => trivial
  | some X =>
    refine ⟨by simp, fun b' _ hx => setBlk_other fun e => hx (by subst e; exact hX X rfl)⟩

theorem blk_store {b k j T : Nat} {ss : List (List Value)} {ns : List Nat} {vs g : List Value} (hM : Mem w0 M w (blk b ss ns T :: H)) (hg : ss[k]? = some g) (hj : j + vs.length ≤ g.length) {o : Nat} (ho : (ns.take k).sum + j = o) :
    ∃ fr, w.heap[b]? = some (.cells ss.flatten.toArray T fr) ∧ Fz fr ss.flatten.length ∧ o + vs.length ≤ ss.flatten.length ∧
      Mem w0 M (setBlk w b (.cells (ss.flatten.take o ++ vs ++ ss.flatten.drop (o + vs.length)).toArray T fr)) (blk b (wrSeg k j vs ss) ns T :: H) := by
  obtain ⟨hm, fr, hh, hf⟩ := hM.holds _ (List.mem_cons_self ..)
  obtain ⟨h2, h3⟩ := wrSeg_flatten (ss := ss) (k := k) hg hj
  have ho' : (ss.take k).flatten.length + j = o := by rw [take_flatten_length, hm]; exact ho
  rw [ho'] at h2
  have hle : o + vs.length ≤ ss.flatten.length := by
    have hk : k < ss.length := (List.getElem?_eq_some_iff.1 hg).1
    have : ss.flatten.length = (ss.take k).flatten.length + (ss.drop k).flatten.length := by
      rw [← List.length_append, ← List.flatten_append, List.take_append_drop]
    rw [this, List.drop_eq_getElem_cons hk]
    have hgk : ss[k] = g := (List.getElem?_eq_some_iff.1 hg).2
    simp only [List.flatten_cons, List.length_append, hgk]
    omega
  refine ⟨fr, hh, hf, hle, ?_⟩
  have hb := (Array.getElem?_eq_some_iff.1 hh).1
  refine Mem.act (es := [blk b ss ns T]) (es' := [blk b (wrSeg k j vs ss) ns T]) hM rfl rfl rfl (by simp) (fun b' hb' hne => setBlk_other fun e => hne _ (List.mem_cons_self ..) (by simp [blk, e])) ?_ ?_ ?_ ?_ (List.pairwise_singleton ..)
  · intro e he; rw [List.mem_singleton.1 he]
    refine ⟨h3.trans hm, fr, ?_, ?_⟩
    · rw [setBlk_same hb, ← h2]; rfl
    · rw [← h2, wr_length hle]; exact hf
  · intro e he b' hb'; rw [List.mem_singleton.1 he] at hb'; left; exact ⟨_, List.mem_cons_self .., hb'⟩
  · intro e he b' hb'; rw [List.mem_singleton.1 he] at hb'; cases hb'
  · intro e he b' hb'; rw [List.mem_singleton.1 he] at hb'; cases hb'

/-- A store into part k of a block, from its j-th cell on. -/
theorem s_store {t b o j T s : Nat} (k : Nat) {ss ss' : List (List Value)} {ns : List Nat} {vs g : List Value} (hE : Env a n L) (hx : ev L x = some (.pointer (some ⟨b, o, none⟩))) (hy : ev L y = some v) (hM : Mem w0 M w (blk b ss ns T :: H))
    (hv : v.cells = vs.toArray) (ht : (P.info? t).map (·.size) = some s) (hl : vs.length = s) (h1 : One vs) (hg : ss[k]? = some g) (hj : j + vs.length ≤ g.length) (ho : (ns.take k).sum + j = o) (hss : wrSeg k j vs ss = ss')
    (hX : ∀ X, D = some X → X b) (kk : ∀ w', Mem w0 M w' (blk b ss' ns T :: H) → wpL P ops D Q rest a w') : wpL P ops D Q ((false, ⟨none, .store t x y, ty, pos, aft, none⟩) :: rest) a w := by
  subst hss
  obtain ⟨fr, hh, hf, hle, hM'⟩ := blk_store hM hg hj ho
  have hst := run_storeVar_blk (P := P) (o := o) ht hv hl h1 hh (by simpa using hf) (by simpa [hl] using hle)
  refine b_val0 ?_ (sta_of_setBlk hX) (kk _ hM')
  simp only [execOp, hE.eval hx, hE.eval hy, Instr.storeAt, Instr.sureAddr, Sem.run_bind, Sem.run_pure, Result.andThen_ok, hst, hl]

/-! ## Builtins -/

theorem s_builtin {bi : Builtin} {args : Array Operand} {ts : Array TypeId} {vs : Array Value} (hE : Env a n L) (hv : args.map a.eval = vs) (hf : ∀ cs, Flo P D (builtin bi ts ty cs vs) v w) (hn : Nat.blt d n = true)
    (k : ∀ a', Env a' n ((d, v) :: L) → wpL P ops D Q rest a' w) : wpL P ops D Q ((true, ⟨some d, .call { callee := .builtin bi, args := args, argTypes := ts }, ty, pos, aft, none⟩) :: rest) a w :=
  s_val hE hn (by simpa only [execOp, resolve, invoke, hv, pure_bind] using hf _) k

theorem s_len {t e m : Nat} (hE : Env a n L) (hx : ev L x = some v) (ht : P.underlying t = some (.slice e)) (hv : ∃ p c, v = .slice p m c) (hn : Nat.blt d n = true)
    (k : ∀ a', Env a' n ((d, .int .i64 m) :: L) → wpL P ops D Q rest a' w) : wpL P ops D Q ((true, ⟨some d, .call { callee := .builtin .len, args := #[x], argTypes := #[t] }, ty, pos, aft, none⟩) :: rest) a w := by
  obtain ⟨p, c, rfl⟩ := hv
  refine s_builtin hE (vs := #[.slice p m c]) (by simp [hE.eval hx]) (fun cs => Flo.of_all (fun w => ?_) w) hn k
  simp [builtin, Builtin.len_, run_underlying ht, goInt]

theorem rd_slice {es m c : Nat} {cs : List Value} (h : (rd v es m c cs).holds w) : ∃ p c, v = .slice p m c := by
  rcases h.2 with ⟨p, rfl, rfl, _⟩ | ⟨b, o, rfl, _⟩ <;> exact ⟨_, _, rfl⟩

theorem own_slice {es m : Nat} {cs : List Value} (h : (own v es m cs).holds w) : ∃ p c, v = .slice p m c := by
  rcases h.2 with ⟨rfl, rfl⟩ | ⟨b, cap, cur, T, fr, rfl, _⟩ <;> exact ⟨_, _, rfl⟩

theorem s_min {k' : IntKind} {i j : Int} {ts : Array TypeId} (hE : Env a n L) (hx : ev L x = some (.int k' i)) (hy : ev L y = some (.int k' j)) (hn : Nat.blt d n = true)
    (k : ∀ a', Env a' n ((d, .int k' (if j < i then j else i)) :: L) → wpL P ops D Q rest a' w) : wpL P ops D Q ((true, ⟨some d, .call { callee := .builtin .min, args := #[x, y], argTypes := ts }, ty, pos, aft, none⟩) :: rest) a w := by
  refine s_builtin hE (vs := #[.int k' i, .int k' j]) (by simp [hE.eval hx, hE.eval hy]) (fun cs => Flo.of_all (fun w => ?_) w) hn k
  simp [builtin, Builtin.min_, Builtin.min2]

theorem s_append {t xt e es bytes m m' : Nat} {cs news : List Value} (hE : Env a n L) (hx : ev L x = some v) (hy : ev L y = some u) (hM : Mem w0 M w (own v es m cs :: H)) (ht : SlT P t e es bytes) (hsrc : Src P es xt u m' news w)
    (h63 : m + m' ≤ maxLen) (hby : (m + m') * bytes ≤ 140737488355328) (hX : ∀ X, D = some X → ∀ b, b ∈ valBlocks v → X b) (hn : Nat.blt d n = true)
    (k : ∀ a' v' w', Env a' n ((d, v') :: L) → Mem w0 M w' (own v' es (m + m') (cs ++ news) :: H) → wpL P ops D Q rest a' w') :
    wpL P ops D Q ((false, ⟨some d, .call { callee := .builtin .append, args := #[x, y], argTypes := #[t, xt] }, ty, pos, aft, none⟩) :: rest) a w := by
  obtain ⟨v', w', hr, hA⟩ := run_append (ty := ty) ht (hM.holds _ (List.mem_cons_self ..)) hsrc h63 hby
  refine b_val hE hn (v := v') (w' := w') ?_ ?_ (fun a' hE' => k a' v' w' hE' (hM.append hA))
  · simp [execOp, resolve, invoke, builtin, hE.eval hx, hE.eval hy, hr]
  · cases D with
    | none => trivial
    | some X => exact ⟨hA.size, fun b hb hx => hA.frame b hb fun hb' => hx (hX X rfl b hb')⟩

/-! ## Calls -/

def evL (L : List (Nat × Value)) : List Operand → Option (List Value)
  | [] => some []
  | x :: r => match ev L x, evL L r with
    | some v, some l => some (v :: l)
    | _, _ => none

theorem Env.evals (hE : Env a n L) : ∀ {xs : List Operand} {vs : List Value}, evL L xs = some vs → xs.map a.eval = vs
  | [], vs, h => by simp [evL] at h; subst h; rfl
  | x :: r, vs, h => by
    simp only [evL] at h
    cases hx : ev L x with
    | none => simp [hx] at h
    | some v =>
      cases hr : evL L r with
      | none => simp [hx, hr] at h
      | some l =>
        simp [hx, hr] at h
        subst h
        rw [List.map_cons, hE.eval hx, hE.evals hr]

theorem s_call {f : FuncId} {xs : List Operand} {ts : Array TypeId} {vs : List Value} {R : Ending → World → Prop} (hE : Env a n L) (hv : evL L xs = some vs) (hf : ∀ args w, (callFunc f args).run P w = .ok (.enter f args) w)
    (hc : Calls P f vs.toArray w R) (hn : Nat.blt d n = true)
    (k : ∀ e w', R e w' → ∃ v, e = .returned v ∧ Sta D w w' ∧ ∀ a', Env a' n ((d, v) :: L) → wpL P ops D Q rest a' w') :
    wpL P ops D Q ((false, ⟨some d, .call { callee := .value (.func f), args := xs.toArray, argTypes := ts }, ty, pos, aft, none⟩) :: rest) a w := by
  simp only [wpL]
  rw [if_pos (by simp [Region.wanted])]
  refine .inl ?_
  unfold Oper.wp
  have hr : (execOp a.eval ⟨some d, .call { callee := .value (.func f), args := xs.toArray, argTypes := ts }, ty, pos, aft, none⟩).run P w = .ok (.enter f vs.toArray) w := by
    simp [execOp, resolve, Act.eval, Deferred.ofValue, invoke]
    rw [hE.evals hv, hf]
  rw [hr]
  refine Calls.mono hc fun e w' he => ?_
  obtain ⟨v, rfl, hs, hk⟩ := k e w' he
  exact ⟨hs, hk _ (hE.put _ (blt_lt hn))⟩

/-- A call of a function value: what it captured comes last. -/
theorem s_calldyn {f : FuncId} {xs : List Operand} {ts : Array TypeId} {vs : List Value} {cap : Array Value} {R : Ending → World → Prop} (hE : Env a n L) (hx : ev L x = some (.func (.func f) #[] cap)) (hv : evL L xs = some vs) (hf : ∀ args w, (callFunc f args).run P w = .ok (.enter f args) w)
    (hc : Calls P f (vs.toArray ++ cap) w R) (hn : Nat.blt d n = true)
    (k : ∀ e w', R e w' → ∃ v, e = .returned v ∧ Sta D w w' ∧ ∀ a', Env a' n ((d, v) :: L) → wpL P ops D Q rest a' w') :
    wpL P ops D Q ((false, ⟨some d, .call { callee := .value x, args := xs.toArray, argTypes := ts }, ty, pos, aft, none⟩) :: rest) a w := by
  simp only [wpL]
  rw [if_pos (by simp [Region.wanted])]
  refine .inl ?_
  unfold Oper.wp
  have hr : (execOp a.eval ⟨some d, .call { callee := .value x, args := xs.toArray, argTypes := ts }, ty, pos, aft, none⟩).run P w = .ok (.enter f (vs.toArray ++ cap)) w := by
    simp [execOp, resolve, hE.eval hx, Deferred.ofValue, invoke]
    rw [hE.evals hv, hf]
  rw [hr]
  refine Calls.mono hc fun e w' he => ?_
  obtain ⟨v, rfl, hs, hk⟩ := k e w' he
  exact ⟨hs, hk _ (hE.put _ (blt_lt hn))⟩

theorem Mem.drew (hM : Mem w0 M w H) : Mem w0 M { w with drawn := w.drawn + 1 } H :=
  Mem.act (es := []) (es' := []) hM rfl rfl rfl (Nat.le_refl _) (fun _ _ _ => rfl) (fun _ h => by cases h) (fun _ h => by cases h) (fun _ h => by cases h) (fun _ h => by cases h) .nil

theorem wp_drawnM {id : Nat} {ops : Array Oper} (hM : Mem w0 M w H) (hm : P.follows .mixedOrders = true) (X : Nat → Prop) (c : List (Nat × Bool)) (T : List (Nat × List (Nat × Nat)))
    (hc : canonOk ops c T = true) {l : List (Bool × Oper)} (hl : theOps ops c = l) (h : ∀ w', Mem w0 M w' H → w'.heap = w.heap → wpL P ops (some X) Q l a w') : (Code.region id ops true).wp P Q a w :=
  wp_drawn hm X c T hc hl (h _ hM.drew rfl)

/-! ## Control -/

theorem c_loop {γ : Type} {c : Code} (I : γ → Act → World → Prop) (μ : γ → Nat) (g : γ) (h0 : I g a w)
    (round : ∀ g a w, I g a w → c.wp P (Exit.then (fun a' w' => ∃ g', I g' a' w' ∧ μ g' < μ g) Q) a w) : (Code.loop c).wp P Q a w := by
  refine wp_loop_ghost (fun m a w => ∃ g, I g a w ∧ μ g = m) (μ g) ⟨g, h0, rfl⟩ fun m a w ⟨g, hI, hm⟩ => wp_mono (round g a w hI) ?_
  intro e a' w' hq
  cases e with
  | normal => obtain ⟨g', hI', hlt⟩ := hq; exact ⟨μ g', by omega, g', hI', rfl⟩
  | exit id => exact hq
  | goto l => exact hq
  | ret => exact hq
  | panic ch => exact hq
  | outgrown => exact hq

/-! ## Entering and leaving -/

theorem f_enter {f : FuncId} {fn : Func} {c : Code} {args : List Value} {w : World} {R : Ending → World → Prop} (n : Nat) (hf : P.funcs[f]? = some fn) (hb : fn.body = some c) (hn : fn.ntmps = n) (hle : Nat.ble args.length n = true)
    (h : ∀ a, Env a n (numb 0 args) → c.wp P (bodyPost P fn R) a w) : Calls P f args.toArray w R := by
  refine calls_of_wp hf hb (h _ ?_)
  rw [hn]
  exact Env.enter args n (Nat.le_of_ble_eq_true hle)

/-- What a result holds when a function leaves. -/
def ResOne (P : Program) (w : World) (L : List (Nat × Value)) (r : ResultVar) (v : Value) : Prop :=
  match r with
  | .tmp t => lk t L = some v
  | .cell p T => ∃ ad, lk p L = some (.pointer (some ad)) ∧ (loadVar T ad).run P w = .ok v w

theorem f_ret0 {fn : Func} {R : Ending → World → Prop} (hE : Env a n L) (hr : fn.results = #[]) (hR : R (.returned (.tuple #[])) w) : bodyPost P fn R .ret a w ∧ bodyPost P fn R .normal a w :=
  ⟨bodyPost_ret (results_none hr _ _ _) hE.defers hR, bodyPost_end (results_none hr _ _ _) hE.defers hR⟩

theorem f_ret1 {fn : Func} {R : Ending → World → Prop} {r1 : ResultVar} (hE : Env a n L) (hr : fn.results = #[r1]) (h : ResOne P w L r1 v) (hR : R (.returned v) w) : bodyPost P fn R .ret a w := by
  refine bodyPost_ret (v := v) ?_ hE.defers hR
  cases r1 with
  | tmp t => have := hE.at_ _ _ h; simp [results, hr, this]
  | cell p T => obtain ⟨ad, h1, h2⟩ := h; have := hE.at_ _ _ h1; simp [results, hr, this, asAddr, h2]

theorem f_ret2 {fn : Func} {R : Ending → World → Prop} {v1 v2 : Value} {r1 r2 : ResultVar} (hE : Env a n L) (hr : fn.results = #[r1, r2]) (h1 : ResOne P w L r1 v1) (h2 : ResOne P w L r2 v2) (hR : R (.returned (.tuple #[v1, v2])) w) : bodyPost P fn R .ret a w := by
  refine bodyPost_ret (v := .tuple #[v1, v2]) ?_ hE.defers hR
  cases r1 <;> cases r2 <;> simp only [ResOne] at h1 h2 <;>
    (try (obtain ⟨ad1, h1, h1'⟩ := h1)) <;> (try (obtain ⟨ad2, h2, h2'⟩ := h2)) <;> (have k1 := hE.at_ _ _ h1; have k2 := hE.at_ _ _ h2; simp [results, asAddr, *])

theorem res_cellN {p T b o s : Nat} {ss : List (List Value)} {ns : List Nat} {T' : Nat} {cs : List Value} (h : lk p L = some (.pointer (some ⟨b, o, none⟩))) (hB : (blk b ss ns T').holds w) (ht : RowT P T s) (hs : rdSeg o s ss ns = some cs) : ResOne P w L (.cell p T) (.agg cs.toArray) := by
  obtain ⟨b', o', e, h2, h3⟩ := cellsAt_blk hB hs
  cases e
  exact ⟨_, h, run_loadVar_row' (by rw [(rdSeg_spec hB.1 hs).1]; exact ht) h3⟩


/-! ## Ways out -/

theorem q_nil (h : Q .normal a w) : wpL P ops D Q [] a w := h
theorem q_then_e {K : Act → World → Prop} {id : Nat} (h : Q (.exit id) a w) : Exit.then K Q (.exit id) a w := h
theorem q_then_r {K : Act → World → Prop} (h : Q .ret a w) : Exit.then K Q .ret a w := h
theorem q_block_n {id : Nat} (h : Q .normal a w) : Exit.inBlock id Q .normal a w := h
theorem q_block_r {id : Nat} (h : Q .ret a w) : Exit.inBlock id Q .ret a w := h
theorem q_block_x {id : Nat} (h : Q .normal a w) : Exit.inBlock id Q (.exit id) a w := by simp only [Exit.inBlock, if_true]; exact h
theorem q_block_o {id id' : Nat} (hne : Nat.beq id' id = false) (h : Q (.exit id') a w) : Exit.inBlock id Q (.exit id') a w := by
  have : id' ≠ id := fun e => by subst e; simp at hne
  simp only [Exit.inBlock, if_neg this]; exact h

/-- What is known of a temporary is said in other words. -/
theorem Env.cast {v v' : Value} (hE : Env a n L) (t : Nat) (h : lk t L = some v) (e : v = v') : Env a n ((t, v') :: L) := by
  subst e
  refine ⟨hE.defers, hE.size, fun t' u hu => ?_⟩
  simp only [lk] at hu
  cases hb : Nat.beq t t' with
  | true =>
    have := Nat.eq_of_beq_eq_true hb
    subst this
    simp at hu
    rw [← hu]; exact hE.at_ _ _ h
  | false =>
    rw [hb] at hu
    exact hE.at_ _ _ hu

theorem Env.split {G : Prop} {b : Bool} (hE : Env a n L) (t : Nat) (h : lk t L = some (.bool b)) (ht : b = true → Env a n ((t, .bool true) :: L) → G) (hf : b = false → Env a n ((t, .bool false) :: L) → G) : G := by
  cases b with
  | true => exact ht rfl (hE.cast t h rfl)
  | false => exact hf rfl (hE.cast t h rfl)

end Go.Kx
/- Own library, part G: bytes; slices made of parts; slicing; more calls. -/
namespace Go.Kx
open Go
variable {P : Program} {ops : Array Oper} {D : Option (Nat → Prop)} {Q : Exit → Act → World → Prop} {w0 w w' : World} {M : List Nat} {H H' : List Ent}
  {a : Act} {n : Nat} {L : List (Nat × Value)} {rest : List (Bool × Oper)} {d : Nat} {ty : TypeId} {pos : String} {aft : Array Edge} {x y z : Operand} {u v r : Value}

/-! ## Bytes -/

def bV (b : UInt8) : Value := .int .u8 (b.toNat : Int)
def bv (bs : List UInt8) : List Value := bs.map bV

@[simp] theorem bv_length (bs : List UInt8) : (bv bs).length = bs.length := by simp [bv]
@[simp] theorem bv_append (a b : List UInt8) : bv (a ++ b) = bv a ++ bv b := by simp [bv]
@[simp] theorem bv_nil : bv [] = [] := rfl
theorem bv_cons (a : UInt8) (b : List UInt8) : bv (a :: b) = bV a :: bv b := rfl
theorem bv_take (bs : List UInt8) (i : Nat) : (bv bs).take i = bv (bs.take i) := by simp [bv, List.map_take]
theorem bv_drop (bs : List UInt8) (i : Nat) : (bv bs).drop i = bv (bs.drop i) := by simp [bv, List.map_drop]
theorem bv_one (bs : List UInt8) : One (bv bs) := fun v hv => by
  obtain ⟨b, _, rfl⟩ := List.mem_map.1 hv; rfl
theorem bv_elem {bs : List UInt8} {j : Nat} (h : j < bs.length) : ((bv bs).drop (j * 1)).take 1 = [bV (bs.getD j 0)] := by
  rw [Nat.mul_one, bv_drop, List.drop_eq_getElem_cons h, bv_cons]
  simp [h]
/-- A byte that an integer is, wrapped. -/
theorem wrap_u8_ofNat (m : Nat) : IntKind.u8.wrap (m : Int) = ((UInt8.ofNat m).toNat : Int) := by
  rw [IntKind.wrap_u8]; simp

/-! ## Slices made of parts -/

def enumV : Nat → List Value → List (Nat × Value)
  | _, [] => []
  | i, v :: r => (i, v) :: enumV (i + 1) r

theorem foldl_set (cs : List Value) : ∀ (o : Nat) (l : Array Value), o + cs.length ≤ l.size →
    (cs.toArray.zipIdx.foldl (fun a (c, j) => a.setIfInBounds (o + j) c) l) = (l.toList.take o ++ cs ++ l.toList.drop (o + cs.length)).toArray := by
  have key : ∀ (cs : List Value) (k o : Nat) (l : Array Value), o + k + cs.length ≤ l.size →
      ((cs.zipIdx k).foldl (fun a (c, j) => a.setIfInBounds (o + j) c) l) = (l.toList.take (o + k) ++ cs ++ l.toList.drop (o + k + cs.length)).toArray := by
    intro cs
    induction cs with
    | nil => intro k o l h; simp
    | cons c cs ih =>
      intro k o l h
      simp only [List.zipIdx_cons, List.foldl_cons]
      rw [ih (k + 1) o _ (by simp at h ⊢; omega)]
      congr 1
      have hlt : o + k < l.toList.length := by simp at h ⊢; omega
      simp only [Array.toList_setIfInBounds]
      have e2 : List.take (o + (k + 1)) (l.toList.set (o + k) c) = List.take (o + k) l.toList ++ [c] := by
        rw [show o + (k + 1) = (o + k) + 1 by omega, List.take_succ_eq_append_getElem (by simpa using hlt)]
        rw [List.take_set_of_le (Nat.le_refl _)]
        simp
      have e3 : List.drop (o + (k + 1) + cs.length) (l.toList.set (o + k) c) = List.drop (o + k + (c :: cs).length) l.toList := by
        rw [List.drop_set_of_lt (by omega)]
        congr 1; simp; omega
      rw [e2, e3]; simp
  intro o l h
  have := key cs 0 o l (by simpa using h)
  simpa using this

theorem fill_enum (size : Nat) : ∀ (vs : List Value) (i : Nat) (cells : Array Value), (∀ v, v ∈ vs → v.cells.size = size) → cells.size = (i + vs.length) * size →
    Instr.fill (fun i => some (i * size, size)) cells (enumV i vs) = some (cells.toList.take (i * size) ++ vs.flatMap (fun v => v.cells.toList)).toArray
  | [], i, cells, _, hs => by
    simp only [enumV, Instr.fill, List.flatMap_nil, List.append_nil]
    rw [List.take_of_length_le (by simp at hs ⊢; omega)]
  | v :: vs, i, cells, hv, hs => by
    have hsz := hv v (List.mem_cons_self ..)
    have hle : i * size + size ≤ cells.size := by
      rw [hs, List.length_cons, show i + (vs.length + 1) = (i + 1) + vs.length by omega, Nat.add_mul, Nat.add_mul]; omega
    simp only [enumV, Instr.fill]
    rw [if_neg (by simp [hsz]; omega)]
    have hf := foldl_set v.cells.toList (i * size) cells (by simpa [hsz] using hle)
    simp only [Array.toArray_toList, Array.length_toList] at hf
    rw [hf, fill_enum size vs (i + 1) _ (fun u hu => hv u (List.mem_cons_of_mem _ hu)) ?_]
    · congr 2
      have hl : (List.take (i * size) cells.toList ++ v.cells.toList).length = (i + 1) * size := by
        simp [hsz, Nat.add_mul]; omega
      simp only [List.flatMap_cons]
      rw [← List.append_assoc]
      congr 1
      rw [← hl, List.take_left]
    · simp [hsz]
      rw [hs, List.length_cons, show i + (vs.length + 1) = (i + 1) + vs.length by omega] at *
      omega

theorem run_buildSlice {t e es len bytes : Nat} {vs : List Value} (ht : SlT P t e es bytes) (hl : vs.length = len) (hv : ∀ v, v ∈ vs → v.cells.size = es) (hm : len * es ≤ 16777216) (w : World) :
    (Instr.buildSlice t len (enumV 0 vs).toArray).run P w = .ok (.slice (some ⟨w.heap.size, 0, none⟩) len len) (w.alloc (.cells (vs.flatMap (fun v => v.cells.toList)).toArray e)) := by
  obtain ⟨hu, hs, hb, z, hz, hzs⟩ := ht
  have hz0 : ∀ w, (zeroValue e).run P w = .ok z w := fun w => by
    cases hi : P.info? e with
    | none => simp [hi] at hs
    | some i => simp [hi] at hz; simp [zeroValue, typeInfo, hi, hz]
  have hm' : ¬ (len * es > 2 ^ 24) := by omega
  simp only [Instr.buildSlice, Sem.run_bind, run_underlying hu, Result.andThen_ok, run_sizeOf hs, hm', if_false]
  have key : ∀ zero : Array Value, Instr.fill (fun i => some (i * es, es)) ((Array.range (len * es)).map (zero[· % zero.size]!)) (enumV 0 vs) = some (vs.flatMap (fun v => v.cells.toList)).toArray := fun zero => by
    have := fill_enum es vs 0 ((Array.range (len * es)).map (zero[· % zero.size]!)) hv (by simp [hl])
    simpa using this
  have hfin : ∀ zero : Array Value, ((match Instr.fill (fun i => some (i * es, es)) ((Array.range (len * es)).map (zero[· % zero.size]!)) (enumV 0 vs) with
      | some cells => do pure (Value.slice (some (← newRow e cells)) len len)
      | _ => stuck "buildSlice: a part of the wrong size" : Sem Value)).run P w = .ok (.slice (some ⟨w.heap.size, 0, none⟩) len len) (w.alloc (.cells (vs.flatMap (fun v => v.cells.toList)).toArray e)) := fun zero => by
    rw [key]; simp [newRow]
  by_cases h0 : len * es = 0
  · simp only [h0, if_true]
    have := hfin #[]
    rw [h0] at this
    exact this
  · simp only [h0, if_false, Sem.run_bind, hz0, Result.andThen_ok, Sem.run_pure]
    exact hfin z.cells

theorem Mem.newSlice (hM : Mem w0 M w H) {es len T : Nat} {cs : List Value} (hl : cs.length = len * es) (hm : len ≤ maxLen) : Mem w0 M (w.alloc (.cells cs.toArray T)) (own (.slice (some ⟨w.heap.size, 0, none⟩) len len) es len cs :: H) := by
  refine Mem.act (es := []) (es' := [own (.slice (some ⟨w.heap.size, 0, none⟩) len len) es len cs]) hM rfl rfl rfl (by simp) (fun b hb _ => alloc_old w _ b hb) ?_ ?_ ?_ ?_ (List.pairwise_singleton ..)
  · intro e he; rw [List.mem_singleton.1 he]
    exact own_of_new w cs es len len T cs.toArray hl (Nat.le_refl _) hm (by simpa using hl) (by rw [← hl]; simp)
  · intro e he b hb; rw [List.mem_singleton.1 he] at hb; right; simp [own, valBlocks] at hb; omega
  · intro e he b hb; rw [List.mem_singleton.1 he] at hb; cases hb
  · intro e he b hb; rw [List.mem_singleton.1 he] at hb; cases hb

def enumO : Nat → List Operand → List (Nat × Operand)
  | _, [] => []
  | i, v :: r => (i, v) :: enumO (i + 1) r

theorem enumO_map (f : Operand → Value) : ∀ (xs : List Operand) (i : Nat), (enumO i xs).map (fun p => (p.1, f p.2)) = enumV i (xs.map f)
  | [], i => rfl
  | x :: xs, i => by simp [enumO, enumV, enumO_map f xs]

theorem s_buildSlice {t e es bytes len : Nat} {xs : List Operand} {vs : List Value} {ps : List (Nat × Operand)} (cs : List Value) (hE : Env a n L) (hM : Mem w0 M w H) (ht : SlT P t e es bytes) (hps : ps = enumO 0 xs) (hv : evL L xs = some vs)
    (hl : vs.length = len) (hz : ∀ v, v ∈ vs → v.cells.size = es) (hc : vs.flatMap (fun v => v.cells.toList) = cs) (hm : Nat.ble (len * es) 16777216 = true) (hn : Nat.blt d n = true) (hlm : Nat.ble len 16777216 = true)
    (k : ∀ a' v' w', Env a' n ((d, v') :: L) → Mem w0 M w' (own v' es len cs :: H) → wpL P ops D Q rest a' w') :
    wpL P ops D Q ((false, ⟨some d, .buildSlice t len ps.toArray, ty, pos, aft, none⟩) :: rest) a w := by
  subst hps
  have hm' : len * es ≤ 16777216 := Nat.le_of_ble_eq_true hm
  have hlm' : len ≤ 16777216 := Nat.le_of_ble_eq_true hlm
  have hcl : cs.length = len * es := by
    rw [← hc, List.length_flatMap, ← hl]
    clear hc hl hv
    induction vs with
    | nil => simp
    | cons v vs ih =>
      simp only [List.map_cons, List.sum_cons, List.length_cons]
      rw [ih (fun u hu => hz u (List.mem_cons_of_mem _ hu))]
      have := hz v (List.mem_cons_self ..)
      simp [this, Nat.add_mul]; omega
  refine b_val hE hn (v := .slice (some ⟨w.heap.size, 0, none⟩) len len) (w' := w.alloc (.cells cs.toArray e)) ?_ (Sta.alloc D w _) (fun a' hE' => k a' _ _ hE' (hM.newSlice hcl (by rw [maxLen_eq]; omega)))
  have := run_buildSlice (P := P) ht hl hz hm' w
  rw [hc] at this
  simp only [execOp, Sem.run_bind]
  rw [show ((enumO 0 xs).toArray.map fun x => match x with | (i, x) => (i, a.eval x)) = (enumV 0 vs).toArray by
    rw [← hE.evals hv, ← enumO_map]; simp]
  rw [this]; rfl

/-! ## Building a struct -/

theorem wrSeg_set : ∀ {ss : List (List Value)} {k : Nat} {vs g : List Value}, ss[k]? = some g → vs.length = g.length → wrSeg k 0 vs ss = ss.set k vs
  | [], k, vs, g, h, _ => by simp at h
  | g' :: ss, 0, vs, g, h, hl => by
    simp at h; subst h
    simp [wrSeg, wr_all hl]
  | g' :: ss, k + 1, vs, g, h, hl => by
    simp only [wrSeg, List.set_cons_succ]
    rw [wrSeg_set (by simpa using h) hl]



def fldPl (P : Program) (t : Nat) : Option (List (Nat × Nat)) :=
  match P.underlying t with
  | some (.struct fs) => fs.toList.mapM fun f => (P.info? f.type).map fun i => (f.offset, i.size)
  | _ => none

def plc : Nat → List Nat → List (Nat × Nat)
  | _, [] => []
  | o, n :: r => (o, n) :: plc (o + n) r

theorem plc_get : ∀ {ns : List Nat} {o i : Nat} {m : Nat}, ns[i]? = some m → (plc o ns)[i]? = some (o + (ns.take i).sum, m)
  | [], o, i, m, h => by simp at h
  | n :: r, o, 0, m, h => by simp at h; subst h; simp [plc]
  | n :: r, o, i + 1, m, h => by
    simp only [plc, List.getElem?_cons_succ, List.take_succ_cons, List.sum_cons]
    rw [plc_get (ns := r) (by simpa using h), Nat.add_assoc]

def setAll : List (List Value) → List (Nat × Value) → List (List Value) → List (List Value)
  | zs, (i, _) :: r, c :: cs => setAll (zs.set i c) r cs
  | zs, _, _ => zs

def PartsOk (ns : List Nat) : List (Nat × Value) → List (List Value) → Prop
  | [], [] => True
  | (i, v) :: r, c :: cs => v.cells = c.toArray ∧ ns[i]? = some c.length ∧ PartsOk ns r cs
  | _, _ => False

theorem fill_parts {ns : List Nat} : ∀ (ps : List (Nat × Value)) (cs zs : List (List Value)), zs.map List.length = ns → PartsOk ns ps cs →
    Instr.fill ((plc 0 ns).toArray[·]?) zs.flatten.toArray ps = some (setAll zs ps cs).flatten.toArray
  | [], [], zs, _, _ => by simp [Instr.fill, setAll]
  | (i, v) :: r, c :: cs, zs, hz, h => by
    obtain ⟨h1, h2, h3⟩ := h
    have hp : (plc 0 ns).toArray[i]? = some ((ns.take i).sum, c.length) := by
      have := plc_get (o := 0) h2
      simpa using this
    obtain ⟨g, hg⟩ : ∃ g, zs[i]? = some g := by
      have : (zs.map List.length)[i]? = some c.length := by rw [hz]; exact h2
      rw [List.getElem?_map] at this
      cases hzi : zs[i]? with
      | none => rw [hzi] at this; cases this
      | some g => exact ⟨g, rfl⟩
    have hgl : g.length = c.length := by
      have : (zs.map List.length)[i]? = some c.length := by rw [hz]; exact h2
      rw [List.getElem?_map, hg] at this
      simpa using this
    obtain ⟨w1, w2⟩ := wrSeg_flatten (j := 0) (vs := c) hg (by omega)
    rw [take_flatten_length, hz, Nat.add_zero, wrSeg_set hg hgl.symm] at w1
    rw [wrSeg_set hg hgl.symm] at w2
    have hle : (ns.take i).sum + c.length ≤ zs.flatten.length := by
      have hk : i < zs.length := (List.getElem?_eq_some_iff.1 hg).1
      have : zs.flatten.length = (zs.take i).flatten.length + (zs.drop i).flatten.length := by
        rw [← List.length_append, ← List.flatten_append, List.take_append_drop]
      rw [this, List.drop_eq_getElem_cons hk, take_flatten_length, hz]
      have hgk : zs[i] = g := (List.getElem?_eq_some_iff.1 hg).2
      simp only [List.flatten_cons, List.length_append, hgk]
      omega
    simp only [Instr.fill, hp, h1]
    rw [if_neg (by simp; simpa using hle)]
    have hf := foldl_set c (ns.take i).sum zs.flatten.toArray (by simpa using hle)
    rw [hf]
    have e : List.take (ns.take i).sum zs.flatten ++ c ++ List.drop ((ns.take i).sum + c.length) zs.flatten = (zs.set i c).flatten := w1
    simp only []
    rw [e, fill_parts r cs (zs.set i c) (w2.trans hz) h3]
    rfl
  | [], _ :: _, _, _, h => h.elim
  | _ :: _, [], _, _, h => h.elim

theorem mapM_fields {P : Program} (w : World) : ∀ (fs : List Field) (l : List (Nat × Nat)), fs.mapM (fun f => (P.info? f.type).map fun i => (f.offset, i.size)) = some l →
    (fs.mapM (fun f => (do pure (f.offset, ← sizeOf f.type) : Sem (Nat × Nat)))).run P w = .ok l w
  | [], l, h => by simp at h; subst h; rfl
  | f :: fs, l, h => by
    rw [List.mapM_cons] at h ⊢
    cases hi : P.info? f.type with
    | none => rw [hi] at h; cases h
    | some i =>
      rw [hi] at h
      simp only [Option.map_some, Option.bind_eq_bind, Option.bind_some] at h
      cases hr : fs.mapM (fun f => (P.info? f.type).map fun i => (f.offset, i.size)) with
      | none => rw [hr] at h; cases h
      | some l' =>
        rw [hr] at h
        simp at h
        subst h
        rw [Sem.run_bind, Sem.run_bind, run_sizeOf (by rw [hi]; rfl)]
        simp only [Result.andThen_ok, Sem.run_pure]
        rw [Sem.run_bind, mapM_fields w fs l' hr]
        rfl

theorem bld_struct {t : Nat} {zs cs : List (List Value)} {ns : List Nat} {ps : List (Nat × Value)} (hz : Zero P t zs) (hns : zs.map List.length = ns) (hp : fldPl P t = some (plc 0 ns)) (h : PartsOk ns ps cs) :
    Bld P t ps.toArray (.agg (setAll zs ps cs).flatten.toArray) := fun w => by
  obtain ⟨z, hz1, hz2⟩ := run_zero hz
  unfold fldPl at hp
  cases hu : P.underlying t with
  | none => simp [hu] at hp
  | some dsc =>
    rw [hu] at hp
    cases dsc <;> simp only at hp <;> try (cases hp; done)
    rename_i fs
    have hm := mapM_fields (P := P) w fs.toList _ hp
    have hm' : (fs.mapM (fun f => (do pure (f.offset, ← sizeOf f.type) : Sem (Nat × Nat)))).run P w = .ok (plc 0 ns).toArray w := by
      rw [← Array.toArray_toList (xs := fs), List.mapM_toArray]
      rw [Sem.run_map, hm]; rfl
    unfold Instr.build
    rw [Sem.run_bind, hz1, Result.andThen_ok, Sem.run_bind, run_underlying hu, Result.andThen_ok]
    simp only []
    rw [Sem.run_bind, hm', Result.andThen_ok, hz2]
    have := fill_parts ps cs zs hns h
    rw [this]; rfl

def evP (L : List (Nat × Value)) : List (Nat × Operand) → Option (List (Nat × Value))
  | [] => some []
  | (i, x) :: r => match ev L x, evP L r with
    | some v, some l => some ((i, v) :: l)
    | _, _ => none

theorem Env.evalsP (hE : Env a n L) : ∀ {xs : List (Nat × Operand)} {vs : List (Nat × Value)}, evP L xs = some vs → xs.map (fun p => (p.1, a.eval p.2)) = vs
  | [], vs, h => by simp [evP] at h; subst h; rfl
  | (i, x) :: r, vs, h => by
    simp only [evP] at h
    cases hx : ev L x with
    | none => simp [hx] at h
    | some v =>
      cases hr : evP L r with
      | none => simp [hx, hr] at h
      | some l =>
        simp [hx, hr] at h
        subst h
        rw [List.map_cons, hE.eval hx, hE.evalsP hr]

theorem s_buildS {t : Nat} {xs : List (Nat × Operand)} {ps : List (Nat × Value)} {zs : List (List Value)} {ns : List Nat} (cs : List (List Value)) (hE : Env a n L) (hv : evP L xs = some ps) (hz : Zero P t zs) (hns : zs.map List.length = ns) (hp : fldPl P t = some (plc 0 ns))
    (h : PartsOk ns ps cs) (hn : Nat.blt d n = true) (k : ∀ a', Env a' n ((d, .agg (setAll zs ps cs).flatten.toArray) :: L) → wpL P ops D Q rest a' w) : wpL P ops D Q ((true, ⟨some d, .build t xs.toArray, ty, pos, aft, none⟩) :: rest) a w :=
  s_build ps.toArray hE (by rw [← hE.evalsP hv]; simp) (bld_struct hz hns hp h) hn k

/-! ## nil slices -/

theorem Mem.addNil (hM : Mem w0 M w H) (es : Nat) : Mem w0 M w (own (.slice none 0 0) es 0 [] :: H) := by
  refine Mem.act (es := []) (es' := [own (.slice none 0 0) es 0 []]) hM rfl rfl rfl (Nat.le_refl _) (fun _ _ _ => rfl) ?_ ?_ ?_ ?_ (List.pairwise_singleton ..)
  · intro e he; rw [List.mem_singleton.1 he]; exact ⟨by simp, Or.inl ⟨rfl, rfl⟩⟩
  · intro e he b hb; rw [List.mem_singleton.1 he] at hb; simp [own, valBlocks] at hb
  · intro e he b hb; rw [List.mem_singleton.1 he] at hb; cases hb
  · intro e he b hb; rw [List.mem_singleton.1 he] at hb; cases hb

/-- What is read of memory, beside what is owned. -/
theorem Mem.addRd (hM : Mem w0 M w H) {f : Ent} (hf : f.holds w) (hfp : f.fp = []) (hro : ∀ b, b ∈ f.ro → ∀ e, e ∈ H → b ∉ e.fp) : Mem w0 M w (f :: H) := by
  refine ⟨hM.os, hM.tape, hM.output, hM.size, hM.frame, ?_, ?_, ?_, ?_⟩
  · intro e he; rcases List.mem_cons.1 he with rfl | he
    · exact hf
    · exact hM.holds e he
  · intro e he b hb; rcases List.mem_cons.1 he with rfl | he
    · rw [hfp] at hb; cases hb
    · exact hM.new e he b hb
  · intro e he b hb; rcases List.mem_cons.1 he with rfl | he
    · rw [hfp]; exact List.not_mem_nil
    · exact hM.self e he b hb
  · refine .cons (fun e he => ⟨fun b hb => (by rw [hfp] at hb; cases hb), fun b hb hbr => hro b hbr e he hb⟩) hM.apart

theorem Mem.start1 {v : Value} {es m : Nat} {cs : List Value} (h : (own v es m cs).holds w) : Mem w (valBlocks v) w [own v es m cs] :=
  Mem.start w (fun e he => by rw [List.mem_singleton.1 he]; exact h) (fun e he b hb => by rw [List.mem_singleton.1 he] at hb; exact hb) (fun e he b hb => by rw [List.mem_singleton.1 he] at hb; cases hb) (List.pairwise_singleton ..)

/-- The beginning of a function that only reads: what it was given to read. -/
theorem Mem.startR (w : World) : ∀ {es : List Ent}, (∀ e, e ∈ es → e.holds w ∧ e.fp = []) → Mem w [] w es
  | [], _ => Mem.start0 w
  | f :: es, h => (Mem.startR w (es := es) (fun e he => h e (List.mem_cons_of_mem _ he))).addRd (h f (List.mem_cons_self ..)).1 (h f (List.mem_cons_self ..)).2
      (fun b _ e he => by rw [(h e (List.mem_cons_of_mem _ he)).2]; exact List.not_mem_nil)

theorem Mem.startR1 {e : Ent} (h : e.holds w) (hf : e.fp = []) : Mem w [] w [e] := Mem.startR w (fun f hf' => by rw [List.mem_singleton.1 hf']; exact ⟨h, hf⟩)
theorem Mem.startR2 {e f : Ent} (h : e.holds w) (k : f.holds w) (he : e.fp = []) (hf : f.fp = []) : Mem w [] w [e, f] := Mem.startR w (fun g hg => by
  rcases List.mem_cons.1 hg with rfl | hg
  · exact ⟨h, he⟩
  · rw [List.mem_singleton.1 hg]; exact ⟨k, hf⟩)

/-- Behind a call that was given one entry to turn. -/
theorem Mem.call1 {e : Ent} {N : List Ent} (hM : Mem w0 M w (e :: H)) (hN : Mem w e.fp w' N) (hr : ∀ f, f ∈ N → ∀ b, b ∈ f.ro → b ∈ e.ro ∨ w.heap.size ≤ b) : Mem w0 M w' (N ++ H) :=
  Mem.call (es := [e]) hM hN (fun b hb => ⟨e, List.mem_cons_self .., hb⟩) (fun f hf b hb => by
    rcases hr f hf b hb with h | h
    · exact .inl ⟨e, List.mem_cons_self .., .inr h⟩
    · exact .inr (.inr h))

theorem Mem.call1' {e : Ent} {N : List Ent} (hM : Mem w0 M w (e :: H)) (hN : Mem w e.fp w' N) (hr : NoRo N) : Mem w0 M w' (N ++ H) :=
  hM.call1 hN (fun f hf b hb => absurd hb (hr.spec f hf b))


/-! ## Slicing -/

/-- A bound of a slice expression: what stands there, or the default. -/
def SArg (L : List (Nat × Value)) (o : Option Operand) (dft m : Nat) : Prop :=
  match o with
  | none => m = dft
  | some x => ∃ k, ev L x = some (.int k (m : Int))

theorem sliceBound_ok {k : IntKind} {m y : Nat} {c : BoundsCode} (h : m ≤ y) (w : World) : (Instr.sliceBound (.int k m) y c).run P w = .ok m w := by
  have h1 : (0 : Int) ≤ m ∧ (m : Int) ≤ y := ⟨by omega, by omega⟩
  simp only [Instr.sliceBound, asIntOf, Sem.run_bind, Sem.run_pure, Result.andThen_ok, h1, and_self, if_true]
  simp

theorem sliceBounds_ok {lo hi mx : Option Operand} {l h m len cap : Nat} {b : Bool} (hE : Env a n L) (hl : SArg L lo 0 l) (hh : SArg L hi len h) (hm : SArg L mx cap m) (hmh : mx.isSome = true → hi.isSome = true) (h1 : l ≤ h) (h2 : h ≤ m) (h3 : m ≤ cap) (w : World) :
    (Instr.sliceBounds b len cap (lo.map a.eval) (hi.map a.eval) (mx.map a.eval)).run P w = .ok (l, h, m) w := by
  unfold Instr.sliceBounds
  cases lo <;> cases hi <;> cases mx <;> simp only [SArg] at hl hh hm <;>
    (try (obtain ⟨k1, hl⟩ := hl)) <;> (try (obtain ⟨k2, hh⟩ := hh)) <;> (try (obtain ⟨k3, hm⟩ := hm)) <;> (try (simp at hmh; done)) <;>
    (try subst hl) <;> (try subst hh) <;> (try subst hm) <;>
    (try replace hl := hE.eval hl) <;> (try replace hh := hE.eval hh) <;> (try replace hm := hE.eval hm) <;>
    simp only [Option.map_some, Option.map_none, Sem.run_bind, Sem.run_pure, Result.andThen_ok, sliceBound_ok h1, sliceBound_ok h2, sliceBound_ok h3, *]

theorem s_slice {t es m c l h mx' : Nat} {lo hi mx : Option Operand} {cs : List Value} (hE : Env a n L) (hx : ev L x = some v) (hr : (rd v es m c cs).holds w) (ht : slT P t = some es)
    (hl : SArg L lo 0 l) (hh : SArg L hi m h) (hm : SArg L mx c mx') (hmh : mx.isSome = true → hi.isSome = true) (h1 : l ≤ h) (h2 : h ≤ m) (h2' : h ≤ mx') (h3 : mx' ≤ c) (hn : Nat.blt d n = true)
    (k : ∀ a' v', Env a' n ((d, v') :: L) → (rd v' es (h - l) (mx' - l) ((cs.drop (l * es)).take ((h - l) * es))).holds w → (∀ b, b ∈ rdB v' (mx' - l) → b ∈ rdB v c) → wpL P ops D Q rest a' w) :
    wpL P ops D Q ((true, ⟨some d, .slice t x lo hi mx, ty, pos, aft, none⟩) :: rest) a w := by
  obtain ⟨e, hu, hs⟩ := slT_spec ht
  have hrun : ∀ (p : Option Addr) (w : World), v = .slice p m c → (execOp a.eval ⟨some d, .slice t x lo hi mx, ty, pos, aft, none⟩).run P w = .ok (.value (.slice (if mx' = l then p else p.map (·.add (l * es))) (h - l) (mx' - l))) w := by
    intro p w hv
    subst hv
    simp only [execOp, Instr.sliceAt, Instr.slice, hE.eval hx, Sem.run_bind, run_underlying hu, Result.andThen_ok, sliceBounds_ok hE hl hh hm hmh h1 h2' h3, run_sizeOf hs, Sem.run_pure]
  rcases hr with ⟨hcl, ⟨p, rfl, rfl, rfl⟩ | ⟨b, o, rfl, hmc, hb, hc⟩⟩
  · have hl0 : l = 0 := by omega
    have hh0 : h = 0 := by omega
    have hm0 : mx' = 0 := by omega
    subst hl0 hh0 hm0
    refine s_val hE hn (Flo.of_all (fun w => hrun p w rfl) w) (fun a' hE' => k a' _ hE' ⟨by simp, .inl ⟨_, rfl, rfl, rfl⟩⟩ (fun y hy => by simp [rdB] at hy))
  · have hsub : ((cs.drop (l * es)).take ((h - l) * es)).length = (h - l) * es := by
      rw [List.length_take, List.length_drop, hcl]
      have : (h - l) * es ≤ m * es - l * es := by rw [← Nat.sub_mul]; exact Nat.mul_le_mul_right _ (by omega)
      omega
    refine s_val hE hn (Flo.of_all (fun w => hrun _ w rfl) w) (fun a' hE' => k a' _ hE' ⟨hsub, .inr ?_⟩ ?_)
    · by_cases e : mx' = l
      · refine ⟨b, o, by simp [e], by omega, hb, fun i x hx => ?_⟩
        rw [List.getElem?_take] at hx
        split at hx
        · have : h - l = 0 := by omega
          rename_i hlt; rw [this] at hlt; omega
        · cases hx
      · refine ⟨b, o + l * es, by simp [e, Addr.add_mid], by omega, hb, fun i x hx => ?_⟩
        rw [List.getElem?_take] at hx
        split at hx
        · rw [List.getElem?_drop] at hx
          have := hc _ x hx
          rwa [← Nat.add_assoc] at this
        · cases hx
    · intro y hy
      unfold rdB at hy ⊢
      split at hy
      · cases hy
      · rename_i hne
        rw [if_neg (show ¬ c = 0 by omega)]
        by_cases e : mx' = l
        · omega
        · simpa [e, valBlocks, Addr.add_mid] using hy

/-- A slice of an array that lies in a block. -/
theorem s_sliceArr {t al es b o l h mx' : Nat} {lo hi mx : Option Operand} (hE : Env a n L) (hx : ev L x = some (.pointer (some ⟨b, o, none⟩))) (ht : arrT P t = some (al, es))
    (hl : SArg L lo 0 l) (hh : SArg L hi al h) (hm : SArg L mx al mx') (hmh : mx.isSome = true → hi.isSome = true) (h1 : l ≤ h) (h2 : h ≤ mx') (h3 : mx' ≤ al) (hn : Nat.blt d n = true)
    (k : ∀ a', Env a' n ((d, .slice (some ⟨b, if mx' = l then o else o + l * es, none⟩) (h - l) (mx' - l)) :: L) → wpL P ops D Q rest a' w) :
    wpL P ops D Q ((true, ⟨some d, .slice t x lo hi mx, ty, pos, aft, none⟩) :: rest) a w := by
  obtain ⟨e, hu, hs⟩ := arrT_spec ht
  refine s_val hE hn (Flo.of_all (fun w => ?_) w) k
  simp only [execOp, Instr.sliceAt, hE.eval hx, Sem.run_bind, run_underlying hu, Result.andThen_ok, Instr.sureAddr, Sem.run_pure, sliceBounds_ok hE hl hh hm hmh h1 h2 h3, run_sizeOf hs]
  by_cases e : mx' = l <;> simp [e, Addr.add_mid]

/-- A slice into a block may be read. -/
theorem rd_of_blk {b o s T es m c : Nat} {ss : List (List Value)} {ns : List Nat} {cs : List Value} (h : (blk b ss ns T).holds w) (hs : rdSeg o s ss ns = some cs) (hm : s = m * es) (hc : m ≤ c) : (rd (.slice (some ⟨b, o, none⟩) m c) es m c cs).holds w := by
  obtain ⟨b', o', e, h2, h3⟩ := cellsAt_blk h hs
  cases e
  exact ⟨by rw [(rdSeg_spec h.1 hs).1, hm], .inr ⟨b, o, rfl, hc, h2, h3⟩⟩

/-! ## A store of a whole part -/

/-- A store of a whole part of a block. -/
theorem s_storeSeg {t b o T s : Nat} (k : Nat) {ss : List (List Value)} {ns : List Nat} {vs g : List Value} (hE : Env a n L) (hx : ev L x = some (.pointer (some ⟨b, o, none⟩))) (hy : ev L y = some v) (hM : Mem w0 M w (blk b ss ns T :: H))
    (hv : v.cells = vs.toArray) (ht : (P.info? t).map (·.size) = some s) (hl : vs.length = s) (h1 : One vs) (hg : ss[k]? = some g) (hgl : g.length = s) (ho : (ns.take k).sum = o)
    (hX : ∀ X, D = some X → X b) (kk : ∀ w', Mem w0 M w' (blk b (ss.set k vs) ns T :: H) → wpL P ops D Q rest a w') : wpL P ops D Q ((false, ⟨none, .store t x y, ty, pos, aft, none⟩) :: rest) a w :=
  s_store (j := 0) k hE hx hy hM hv ht hl h1 hg (by omega) (by simpa using ho) (wrSeg_set hg (by omega)) hX kk

theorem one1 {v : Value} (h : v.oneCell' = true) : One [v] := fun u hu => by rw [List.mem_singleton.1 hu]; exact h

theorem s_store1 {t b o T : Nat} (k : Nat) {ss : List (List Value)} {ns : List Nat} {u' : Value} (hE : Env a n L) (hx : ev L x = some (.pointer (some ⟨b, o, none⟩))) (hy : ev L y = some v) (hM : Mem w0 M w (blk b ss ns T :: H))
    (hv : v.cells = #[v]) (h1 : v.oneCell' = true) (ht : (P.info? t).map (·.size) = some 1) (hg : ss[k]? = some [u']) (ho : (ns.take k).sum = o)
    (hX : ∀ X, D = some X → X b) (kk : ∀ w', Mem w0 M w' (blk b (ss.set k [v]) ns T :: H) → wpL P ops D Q rest a w') : wpL P ops D Q ((false, ⟨none, .store t x y, ty, pos, aft, none⟩) :: rest) a w :=
  s_storeSeg k hE hx hy hM hv ht rfl (one1 h1) hg rfl ho hX kk

theorem sl_one {p : Option Addr} {i j : Nat} (h : v = .slice p i j) : v.cells = #[v] ∧ v.oneCell' = true := by subst h; exact ⟨rfl, rfl⟩
theorem rd_one {es m c : Nat} {cs : List Value} (h : (rd v es m c cs).holds w) : v.cells = #[v] ∧ v.oneCell' = true := by obtain ⟨p, c, h⟩ := rd_slice h; exact sl_one h
theorem own_one {es m : Nat} {cs : List Value} (h : (own v es m cs).holds w) : v.cells = #[v] ∧ v.oneCell' = true := by obtain ⟨p, c, h⟩ := own_slice h; exact sl_one h

/-! ## A block that is read alone -/

def blkR (b : Nat) (ss : List (List Value)) (ns : List Nat) (T : TypeId) : Ent where
  fp := []
  ro := [b]
  holds := (blk b ss ns T).holds
  loc w w' h hb := (blk b ss ns T).loc w w' h fun b' hb' => hb b' (by simpa [blk] using hb')
  old w h b' hb := (blk b ss ns T).old w h b' (by simpa [blk] using hb)

theorem blkR_blk {b T : Nat} {ss : List (List Value)} {ns : List Nat} (h : (blkR b ss ns T).holds w) : (blk b ss ns T).holds w := h

end Go.Kx
/- Own library, part P: plain functions that the bytes layer comes to, and small laws for its walks. -/
namespace Go.Kx
open Go
variable {P : Program} {w0 w w' : World} {M : List Nat} {H : List Ent}

def laid (k m : Nat) : List UInt8 := (List.range k).map fun i => UInt8.ofNat (m / 2 ^ (8 * (k - 1 - i)))

@[simp] theorem laid_length (k m : Nat) : (laid k m).length = k := by simp [laid]

theorem laid_take_succ {k m i : Nat} (h : i < k) : (laid k m).take (i + 1) = (laid k m).take i ++ [UInt8.ofNat (m / 2 ^ (8 * (k - 1 - i)))] := by
  rw [List.take_succ_eq_append_getElem (by simpa using h)]
  simp [laid]

theorem bin_shr_nat {t : TypeId} {k k' : IntKind} {m s : Nat} {j : Int} (hj : j = (s : Int)) (hs : s ≤ k.bits) : Bin P .shr t (.int k m) (.int k' j) (.int k ((m / 2 ^ s : Nat) : Int)) := bin_of rfl fun w => by
  subst hj
  have h1 : ¬ ((s : Int) < 0) := by omega
  have h2 : min (s : Int).toNat k.bits = s := by simp; omega
  simp only [binOp, Op.shift, h1, if_false, h2]
  have e : (m : Int).fdiv (2 ^ s) = ((m / 2 ^ s : Nat) : Int) := by
    rw [Int.fdiv_eq_ediv_of_nonneg _ (Int.le_of_lt (Int.pow_pos (by omega)))]
    simp
  rw [e]; rfl

/-- A test of '!'. -/
theorem not_true {b : Bool} (h : (!b) = true) : b = false := by simpa using h
theorem not_false' {b : Bool} (h : (!b) = false) : b = true := by simpa using h

theorem len47 {m : Nat} (h : m ≤ 140737488355328) : m ≤ maxLen := by rw [maxLen_eq]; omega


/-! ## Numbers out of bytes -/

def val (bs : List UInt8) : Nat := bs.foldl (fun n b => n * 256 + b.toNat) 0

/-! ## Strings -/

variable {ops : Array Oper} {D : Option (Nat → Prop)} {Q : Exit → Act → World → Prop}
  {a : Act} {n : Nat} {L : List (Nat × Value)} {rest : List (Bool × Oper)} {d : Nat} {ty : TypeId} {pos : String} {aft : Array Edge} {x y z : Operand} {u v r : Value}

def str (bs : List UInt8) : ByteArray := ⟨bs.toArray⟩

@[simp] theorem str_size (bs : List UInt8) : (str bs).size = bs.length := by simp [str, ByteArray.size]
@[simp] theorem str_data (bs : List UInt8) : (str bs).data.toList = bs := by simp [str]
theorem Src.str {xt : Nat} (hk : P.underlying xt = some .string) (s : ByteArray) : Src P 1 xt (.string s) s.size (bv s.data.toList) w := Src.ofString w hk s

/-! ## A tape -/

/-- Blocks that are there, and that nobody writes. -/
def shr (bb : List Nat) : Ent where
  fp := []
  ro := bb
  holds w := ∀ x, x ∈ bb → x < w.heap.size
  loc w w' h hb := fun x hx => by
    have h1 := h x hx
    have h2 := hb x (.inr hx)
    rw [Array.getElem?_eq_getElem h1] at h2
    exact (Array.getElem?_eq_some_iff.1 h2).1
  old w h x hx := by
    simp only [List.not_mem_nil, false_or] at hx
    exact h x hx

/-- A part of a slice that is read is read too. -/
theorem Mem.addPart {v v' : Value} {es m c es' m' c' : Nat} {cs cs' : List Value} (hM : Mem w0 M w H) (i : Nat) (hi : H[i]? = some (rd v es m c cs)) (hr : (rd v' es' m' c' cs').holds w) (hvb : ∀ x, x ∈ rdB v' c' → x ∈ rdB v c) : Mem w0 M w (rd v' es' m' c' cs' :: H) := by
  refine hM.addRd hr rfl (fun b hb e he hbe => ?_)
  have hm := List.mem_of_getElem? hi
  have hb' : b ∈ (rd v es m c cs).ro := hvb b hb
  by_cases e' : e = rd v es m c cs
  · subst e'; cases hbe
  · obtain ⟨j, hj⟩ := List.getElem?_of_mem he
    have := apart_of_get hM.apart hj hi (fun hij => e' (by subst hij; rw [hi] at hj; exact (Option.some.inj hj).symm))
    exact (this.1 b hbe).2 hb'

theorem rd_drop {v : Value} {k m c : Nat} {bs : List UInt8} (hm : m = bs.length) (_h : k ≤ bs.length) (hr : (rd v 1 (m - k) c (((bv bs).drop (k * 1)).take ((m - k) * 1))).holds w) : (rd v 1 (bs.drop k).length c (bv (bs.drop k))).holds w := by
  subst hm
  have e : ((bv bs).drop (k * 1)).take ((bs.length - k) * 1) = bv (bs.drop k) := by
    rw [Nat.mul_one, Nat.mul_one, bv_drop, List.take_of_length_le (by simp)]
  rw [e] at hr
  simpa using hr

theorem rd_take {v : Value} {k c : Nat} {bs : List UInt8} (h : k ≤ bs.length) (hr : (rd v 1 (k - 0) c (((bv bs).drop (0 * 1)).take ((k - 0) * 1))).holds w) : (rd v 1 (bs.take k).length c (bv (bs.take k))).holds w := by
  have e : ((bv bs).drop (0 * 1)).take ((k - 0) * 1) = bv (bs.take k) := by simp [bv_take]
  rw [e] at hr
  have : (bs.take k).length = k - 0 := by simp; omega
  rw [this]; exact hr

theorem rd_mid {v : Value} {l h c : Nat} {bs : List UInt8} (h2 : h ≤ bs.length) (hr : (rd v 1 (h - l) c (((bv bs).drop (l * 1)).take ((h - l) * 1))).holds w) : (rd v 1 ((bs.drop l).take (h - l)).length c (bv ((bs.drop l).take (h - l)))).holds w := by
  have e : ((bv bs).drop (l * 1)).take ((h - l) * 1) = bv ((bs.drop l).take (h - l)) := by simp [bv_take, bv_drop]
  rw [e] at hr
  have : ((bs.drop l).take (h - l)).length = h - l := by simp; omega
  rw [this]; exact hr

theorem rd_len {v : Value} {es m c : Nat} {cs : List Value} (h : (rd v es m c cs).holds w) : m ≤ c := by
  rcases h.2 with ⟨p, _, h1, h2⟩ | ⟨b, o, _, h1, _⟩ <;> omega


/-! ## What is taken of a tape -/

/-- Slices of bytes that are read alone, each with what it reads as; bb: the blocks that they may lie in. -/
def rdv (bb : List Nat) (vs : List Value) (ps : List (List UInt8)) : Ent where
  fp := []
  ro := bb
  holds w := (shr bb).holds w ∧ vs.length = ps.length ∧ ∀ (i : Nat) (v : Value) (p : List UInt8), vs[i]? = some v → ps[i]? = some p → ∃ c, (∀ x, x ∈ rdB v c → x ∈ bb) ∧ (rd v 1 p.length c (bv p)).holds w
  loc w w' h hb := by
    refine ⟨(shr bb).loc w w' h.1 (fun x hx => hb x (.inr (by simpa [shr] using hx))), h.2.1, fun i v p hv hp => ?_⟩
    obtain ⟨c, h1, hc⟩ := h.2.2 i v p hv hp
    exact ⟨c, h1, (rd v 1 _ c _).loc w w' hc fun x hx => hb x (.inr (h1 x (by simpa [rd] using hx)))⟩
  old w h x hx := by
    simp only [List.not_mem_nil, false_or] at hx
    exact h.1 x hx

theorem rdv_get {bb : List Nat} {vs : List Value} {ps : List (List UInt8)} (h : (rdv bb vs ps).holds w) {i : Nat} (hi : i < ps.length) : ∃ c, (rd (vs.getD i undef) 1 (ps.getD i []).length c (bv (ps.getD i []))).holds w := by
  have hv : i < vs.length := by rw [h.2.1]; exact hi
  obtain ⟨c, _, hc⟩ := h.2.2 i _ _ (List.getElem?_eq_getElem hv) (List.getElem?_eq_getElem hi)
  exact ⟨c, by simpa [hv, hi] using hc⟩

theorem rdv_cons {bb : List Nat} {vs : List Value} {ps : List (List UInt8)} {v : Value} {p : List UInt8} {c : Nat} (h : (rd v 1 p.length c (bv p)).holds w) (k : (rdv bb vs ps).holds w) : (rdv (rdB v c ++ bb) (v :: vs) (p :: ps)).holds w := by
  refine ⟨fun x hx => ?_, by simp [k.2.1], fun i u q hu hq => ?_⟩
  · rcases List.mem_append.1 hx with hx | hx
    · exact (rd v 1 p.length c (bv p)).old w h x (.inr hx)
    · exact k.1 x hx
  · cases i with
    | zero => simp at hu hq; subst hu hq; exact ⟨c, fun x hx => List.mem_append_left _ hx, h⟩
    | succ i =>
      obtain ⟨c', h1, h2⟩ := k.2.2 i u q (by simpa using hu) (by simpa using hq)
      exact ⟨c', fun x hx => List.mem_append_right _ (h1 x hx), h2⟩

theorem rdv_nil (w : World) : (rdv [] [] []).holds w := ⟨fun x hx => (by cases hx), rfl, fun i v p h => (by simp at h)⟩

/-! ## What is laid -/

def rowPart (p : List UInt8) : List UInt8 := laid 4 p.length ++ p
def rowBs (dm : UInt8) (ps : List (List UInt8)) (i : Nat) : List UInt8 := [dm, UInt8.ofNat ps.length] ++ (ps.take i).flatMap rowPart
def pRow (dm : UInt8) (ps : List (List UInt8)) : List UInt8 × Nat := if 16 < ps.length then ([], 3) else (rowBs dm ps ps.length, 0)

theorem rowBs_succ {dm : UInt8} {ps : List (List UInt8)} {i : Nat} (h : i < ps.length) : rowBs dm ps (i + 1) = rowBs dm ps i ++ laid 4 (ps.getD i []).length ++ ps.getD i [] := by
  unfold rowBs
  rw [List.take_succ_eq_append_getElem h, List.flatMap_append]
  simp [rowPart, h]

def rowBytes (ps : List (List UInt8)) : Nat := 2 + (ps.map fun p => p.length + 4).sum

theorem rowPart_length (ps : List (List UInt8)) : (ps.flatMap rowPart).length = (ps.map fun p => p.length + 4).sum := by
  induction ps with
  | nil => rfl
  | cons p ps ih => simp [rowPart, ih]; omega

theorem rowBs_le (dm : UInt8) (ps : List (List UInt8)) (i : Nat) : (rowBs dm ps i).length ≤ rowBytes ps := by
  unfold rowBs rowBytes
  rw [List.length_append, rowPart_length]
  have : ∀ (l : List (List UInt8)) (i : Nat), ((l.take i).map fun p => p.length + 4).sum ≤ (l.map fun p => p.length + 4).sum := by
    intro l
    induction l with
    | nil => intro i; simp
    | cons p l ih => intro i; cases i with
      | zero => simp
      | succ i => have := ih i; simp only [List.take_succ_cons, List.map_cons, List.sum_cons]; omega
  have := this ps i
  simp only [List.length_cons, List.length_nil]; omega

theorem elem1 {vs : List Value} {i : Nat} (h : i < vs.length) : (vs.drop (i * 1)).take 1 = [vs.getD i undef] := by
  rw [Nat.mul_one, List.drop_eq_getElem_cons h, List.take_succ_cons, List.take_zero]; simp [h]

end Go.Kx
