/- Own library, part F: the steps that make or turn memory; calls; control; entering and leaving a function. -/
import Derived.Test.YtamjaacddbecaaaKxE
import Derived.Deep.LoopGhost
set_option linter.unusedSimpArgs false
set_option linter.unusedVariables false
namespace Go.Kx
open Go
variable {P : Program} {ops : Array Oper} {D : Option (Nat → Prop)} {Q : Exit → Act → World → Prop} {w0 w w' : World} {M : List Nat} {H H' : List Ent}
  {a : Act} {n : Nat} {L : List (Nat × Value)} {rest : List (Bool × Oper)} {d : Nat} {ty : TypeId} {pos : String} {aft : Array Edge} {x y z : Operand} {u v r : Value}

/-! ## What does not float -/

theorem b_val {op : Op} (hE : Env a n L) (hn : Nat.blt d n = true) (hr : (execOp a.eval ⟨some d, op, ty, pos, aft, none⟩).run P w = .ok (.value v) w') (hs : Sta D w w')
    (k : ∀ a', Env a' n ((d, v) :: L) → wpL P ops D Q rest a' w') : wpL P ops D Q ((false, ⟨some d, op, ty, pos, aft, none⟩) :: rest) a w := by
  simp only [wpL]
  rw [if_pos (by simp [Region.wanted])]
  refine .inl ?_
  unfold Oper.wp
  rw [hr]
  exact ⟨hs, k _ (hE.put _ (blt_lt hn))⟩

theorem b_val0 {op : Op} (hr : (execOp a.eval ⟨none, op, ty, pos, aft, none⟩).run P w = .ok .skip w') (hs : Sta D w w')
    (k : wpL P ops D Q rest a w') : wpL P ops D Q ((false, ⟨none, op, ty, pos, aft, none⟩) :: rest) a w := by
  simp only [wpL]
  rw [if_pos (by simp [Region.wanted])]
  refine .inl ?_
  unfold Oper.wp
  rw [hr]
  exact ⟨hs, k⟩

theorem Sta.alloc (D : Option (Nat → Prop)) (w : World) (o : Obj) : Sta D w (w.alloc o) := by
  cases D with
  | none => trivial
  | some X => exact ⟨by simp, fun b hb _ => alloc_old w o b hb⟩

theorem Mem.alloc (hM : Mem w0 M w H) (ss : List (List Value)) (ns : List Nat) (T : TypeId) (hl : ss.map List.length = ns) : Mem w0 M (w.alloc (.cells ss.flatten.toArray T)) (blk w.heap.size ss ns T :: H) := by
  refine Mem.act (es := []) (es' := [blk w.heap.size ss ns T]) hM rfl rfl rfl (by simp) (fun b hb _ => alloc_old w _ b hb) ?_ ?_ ?_ ?_ (List.pairwise_singleton ..)
  · intro e he; rw [List.mem_singleton.1 he]; exact ⟨hl, (0, 0), heap_alloc_new w _, Fz.zero _⟩
  · intro e he b hb; rw [List.mem_singleton.1 he] at hb; right; simp [blk] at hb; omega
  · intro e he b hb; rw [List.mem_singleton.1 he] at hb; cases hb
  · intro e he b hb; rw [List.mem_singleton.1 he] at hb; cases hb

/-- The zero of a type, in parts. -/
def Zero (P : Program) (t : Nat) (ss : List (List Value)) : Prop := ∃ z, (P.info? t).bind (·.zero) = some z ∧ z.cells = ss.flatten.toArray

theorem run_zero {t : Nat} {ss : List (List Value)} (h : Zero P t ss) : ∃ z, (∀ w, (zeroValue t).run P w = .ok z w) ∧ z.cells = ss.flatten.toArray := by
  obtain ⟨z, hz, hc⟩ := h
  refine ⟨z, fun w => ?_, hc⟩
  cases hi : P.info? t with
  | none => simp [hi] at hz
  | some i => simp [hi] at hz; simp [zeroValue, typeInfo, hi, hz]

theorem s_alloc {t : Nat} {ss : List (List Value)} (ns : List Nat) (hE : Env a n L) (hM : Mem w0 M w H) (hz : Zero P t ss) (hl : ss.map List.length = ns) (hn : Nat.blt d n = true)
    (k : ∀ a' b w', Env a' n ((d, .pointer (some ⟨b, 0, none⟩)) :: L) → Mem w0 M w' (blk b ss ns t :: H) → wpL P ops D Q rest a' w') : wpL P ops D Q ((false, ⟨some d, .alloc t, ty, pos, aft, none⟩) :: rest) a w := by
  obtain ⟨z, hz, hc⟩ := run_zero hz
  refine b_val hE hn (v := .pointer (some ⟨w.heap.size, 0, none⟩)) (w' := w.alloc (.cells ss.flatten.toArray t)) ?_ (Sta.alloc D w _) (fun a' hE' => k a' _ _ hE' (hM.alloc ss ns t hl))
  simp [execOp, Instr.alloc, hz, newVar, newRow, hc]

theorem s_box {t : Nat} {ss : List (List Value)} (ns : List Nat) (hE : Env a n L) (hM : Mem w0 M w H) (hx : ev L x = some v) (hv : v.cells = ss.flatten.toArray) (hl : ss.map List.length = ns) (hn : Nat.blt d n = true)
    (k : ∀ a' b w', Env a' n ((d, .pointer (some ⟨b, 0, none⟩)) :: L) → Mem w0 M w' (blk b ss ns t :: H) → wpL P ops D Q rest a' w') : wpL P ops D Q ((false, ⟨some d, .box t x, ty, pos, aft, none⟩) :: rest) a w := by
  refine b_val hE hn (v := .pointer (some ⟨w.heap.size, 0, none⟩)) (w' := w.alloc (.cells ss.flatten.toArray t)) ?_ (Sta.alloc D w _) (fun a' hE' => k a' _ _ hE' (hM.alloc ss ns t hl))
  simp [execOp, hE.eval hx, Instr.box, newVar, newRow, hv]

/-! ## Building a struct or an array -/

/-- What 'build' gives: a closed fact, or by 'bld_struct'. -/
def Bld (P : Program) (t : Nat) (parts : Array (Nat × Value)) (r : Value) : Prop := ∀ w, (Instr.build t parts).run P w = .ok r w

theorem s_build {t : Nat} {ps : Array (Nat × Operand)} (vs : Array (Nat × Value)) (hE : Env a n L) (hv : ps.map (fun p => (p.1, a.eval p.2)) = vs) (hb : Bld P t vs r) (hn : Nat.blt d n = true)
    (k : ∀ a', Env a' n ((d, r) :: L) → wpL P ops D Q rest a' w) : wpL P ops D Q ((true, ⟨some d, .build t ps, ty, pos, aft, none⟩) :: rest) a w :=
  s_val hE hn (Flo.of_all (fun w => by
    have := hb w
    simp only [execOp]
    rw [Sem.run_bind, show (ps.map fun x => match x with | (i, x) => (i, a.eval x)) = vs from hv, this]; rfl) w) k

/-! ## Stores -/

def wr (o : Nat) (vs l : List Value) : List Value := l.take o ++ vs ++ l.drop (o + vs.length)

theorem wr_length {o : Nat} {vs l : List Value} (h : o + vs.length ≤ l.length) : (wr o vs l).length = l.length := by simp [wr]; omega

theorem wr_all {vs l : List Value} (h : vs.length = l.length) : wr 0 vs l = vs := by simp [wr, h]

theorem wr_append_left {o : Nat} {vs l r : List Value} (h : o + vs.length ≤ l.length) : wr o vs (l ++ r) = wr o vs l ++ r := by
  simp only [wr]
  rw [List.take_append_of_le_length (by omega), List.drop_append_of_le_length h]
  simp

theorem wr_append_right {o : Nat} {vs l r : List Value} : wr (l.length + o) vs (l ++ r) = l ++ wr o vs r := by
  simp only [wr]
  rw [List.take_length_add_append, Nat.add_assoc, List.drop_length_add_append]
  simp

/-- One part is written, from its j-th cell on. -/
def wrSeg : Nat → Nat → List Value → List (List Value) → List (List Value)
  | _, _, _, [] => []
  | 0, j, vs, g :: ss => wr j vs g :: ss
  | k + 1, j, vs, g :: ss => g :: wrSeg k j vs ss

theorem wrSeg_flatten : ∀ {ss : List (List Value)} {k j : Nat} {vs : List Value} {g : List Value}, ss[k]? = some g → j + vs.length ≤ g.length →
    wr ((ss.take k).flatten.length + j) vs ss.flatten = (wrSeg k j vs ss).flatten ∧ (wrSeg k j vs ss).map List.length = ss.map List.length
  | [], k, j, vs, g, h, _ => by simp at h
  | g' :: ss, 0, j, vs, g, h, hj => by
    simp at h; subst h
    simp only [List.take_zero, List.flatten_nil, List.length_nil, Nat.zero_add, List.flatten_cons, wrSeg, List.map_cons]
    exact ⟨wr_append_left hj, by rw [wr_length hj]⟩
  | g' :: ss, k + 1, j, vs, g, h, hj => by
    obtain ⟨h1, h2⟩ := wrSeg_flatten (ss := ss) (k := k) (by simpa using h) hj
    simp only [List.take_succ_cons, List.flatten_cons, List.length_append, wrSeg, List.map_cons, h2]
    refine ⟨?_, trivial⟩
    rw [Nat.add_assoc, wr_append_right, h1]

theorem take_flatten_length : ∀ (ss : List (List Value)) (k : Nat), (ss.take k).flatten.length = ((ss.map List.length).take k).sum
  | [], k => by simp
  | g :: ss, 0 => by simp
  | g :: ss, k + 1 => by simp [take_flatten_length ss k]

theorem sta_of_setBlk {b : Nat} {o : Obj} (hX : ∀ X, D = some X → X b) : Sta D w (setBlk w b o) := by
  cases D with
  | none => trivial
  | some X =>
    refine ⟨by simp, fun b' _ hx => setBlk_other fun e => hx (by subst e; exact hX X rfl)⟩

theorem blk_store {b k j T : Nat} {ss : List (List Value)} {ns : List Nat} {vs g : List Value} (hM : Mem w0 M w (blk b ss ns T :: H)) (hg : ss[k]? = some g) (hj : j + vs.length ≤ g.length) {o : Nat} (ho : (ns.take k).sum + j = o) :
    ∃ fr, w.heap[b]? = some (.cells ss.flatten.toArray T fr) ∧ Fz fr ss.flatten.length ∧ o + vs.length ≤ ss.flatten.length ∧
      Mem w0 M (setBlk w b (.cells (ss.flatten.take o ++ vs ++ ss.flatten.drop (o + vs.length)).toArray T fr)) (blk b (wrSeg k j vs ss) ns T :: H) := by
  obtain ⟨hm, fr, hh, hf⟩ := hM.holds _ (List.mem_cons_self ..)
  obtain ⟨h2, h3⟩ := wrSeg_flatten (ss := ss) (k := k) hg hj
  have ho' : (ss.take k).flatten.length + j = o := by rw [take_flatten_length, hm]; exact ho
  rw [ho'] at h2
  have hle : o + vs.length ≤ ss.flatten.length := by
    have hk : k < ss.length := (List.getElem?_eq_some_iff.1 hg).1
    have : ss.flatten.length = (ss.take k).flatten.length + (ss.drop k).flatten.length := by
      rw [← List.length_append, ← List.flatten_append, List.take_append_drop]
    rw [this, List.drop_eq_getElem_cons hk]
    have hgk : ss[k] = g := (List.getElem?_eq_some_iff.1 hg).2
    simp only [List.flatten_cons, List.length_append, hgk]
    omega
  refine ⟨fr, hh, hf, hle, ?_⟩
  have hb := (Array.getElem?_eq_some_iff.1 hh).1
  refine Mem.act (es := [blk b ss ns T]) (es' := [blk b (wrSeg k j vs ss) ns T]) hM rfl rfl rfl (by simp) (fun b' hb' hne => setBlk_other fun e => hne _ (List.mem_cons_self ..) (by simp [blk, e])) ?_ ?_ ?_ ?_ (List.pairwise_singleton ..)
  · intro e he; rw [List.mem_singleton.1 he]
    refine ⟨h3.trans hm, fr, ?_, ?_⟩
    · rw [setBlk_same hb, ← h2]; rfl
    · rw [← h2, wr_length hle]; exact hf
  · intro e he b' hb'; rw [List.mem_singleton.1 he] at hb'; left; exact ⟨_, List.mem_cons_self .., hb'⟩
  · intro e he b' hb'; rw [List.mem_singleton.1 he] at hb'; cases hb'
  · intro e he b' hb'; rw [List.mem_singleton.1 he] at hb'; cases hb'

/-- A store into part k of a block, from its j-th cell on. -/
theorem s_store {t b o j T s : Nat} (k : Nat) {ss ss' : List (List Value)} {ns : List Nat} {vs g : List Value} (hE : Env a n L) (hx : ev L x = some (.pointer (some ⟨b, o, none⟩))) (hy : ev L y = some v) (hM : Mem w0 M w (blk b ss ns T :: H))
    (hv : v.cells = vs.toArray) (ht : (P.info? t).map (·.size) = some s) (hl : vs.length = s) (h1 : One vs) (hg : ss[k]? = some g) (hj : j + vs.length ≤ g.length) (ho : (ns.take k).sum + j = o) (hss : wrSeg k j vs ss = ss')
    (hX : ∀ X, D = some X → X b) (kk : ∀ w', Mem w0 M w' (blk b ss' ns T :: H) → wpL P ops D Q rest a w') : wpL P ops D Q ((false, ⟨none, .store t x y, ty, pos, aft, none⟩) :: rest) a w := by
  subst hss
  obtain ⟨fr, hh, hf, hle, hM'⟩ := blk_store hM hg hj ho
  have hst := run_storeVar_blk (P := P) (o := o) ht hv hl h1 hh (by simpa using hf) (by simpa [hl] using hle)
  refine b_val0 ?_ (sta_of_setBlk hX) (kk _ hM')
  simp only [execOp, hE.eval hx, hE.eval hy, Instr.storeAt, Instr.sureAddr, Sem.run_bind, Sem.run_pure, Result.andThen_ok, hst, hl]

/-! ## Builtins -/

theorem s_builtin {bi : Builtin} {args : Array Operand} {ts : Array TypeId} {vs : Array Value} (hE : Env a n L) (hv : args.map a.eval = vs) (hf : ∀ cs, Flo P D (builtin bi ts ty cs vs) v w) (hn : Nat.blt d n = true)
    (k : ∀ a', Env a' n ((d, v) :: L) → wpL P ops D Q rest a' w) : wpL P ops D Q ((true, ⟨some d, .call { callee := .builtin bi, args := args, argTypes := ts }, ty, pos, aft, none⟩) :: rest) a w :=
  s_val hE hn (by simpa only [execOp, resolve, invoke, hv, pure_bind] using hf _) k

theorem s_len {t e m : Nat} (hE : Env a n L) (hx : ev L x = some v) (ht : P.underlying t = some (.slice e)) (hv : ∃ p c, v = .slice p m c) (hn : Nat.blt d n = true)
    (k : ∀ a', Env a' n ((d, .int .i64 m) :: L) → wpL P ops D Q rest a' w) : wpL P ops D Q ((true, ⟨some d, .call { callee := .builtin .len, args := #[x], argTypes := #[t] }, ty, pos, aft, none⟩) :: rest) a w := by
  obtain ⟨p, c, rfl⟩ := hv
  refine s_builtin hE (vs := #[.slice p m c]) (by simp [hE.eval hx]) (fun cs => Flo.of_all (fun w => ?_) w) hn k
  simp [builtin, Builtin.len_, run_underlying ht, goInt]

theorem rd_slice {es m c : Nat} {cs : List Value} (h : (rd v es m c cs).holds w) : ∃ p c, v = .slice p m c := by
  rcases h.2 with ⟨p, rfl, rfl, _⟩ | ⟨b, o, rfl, _⟩ <;> exact ⟨_, _, rfl⟩

theorem own_slice {es m : Nat} {cs : List Value} (h : (own v es m cs).holds w) : ∃ p c, v = .slice p m c := by
  rcases h.2 with ⟨rfl, rfl⟩ | ⟨b, cap, cur, T, fr, rfl, _⟩ <;> exact ⟨_, _, rfl⟩

theorem s_append {t xt e es bytes m m' : Nat} {cs news : List Value} (hE : Env a n L) (hx : ev L x = some v) (hy : ev L y = some u) (hM : Mem w0 M w (own v es m cs :: H)) (ht : SlT P t e es bytes) (hsrc : Src P es xt u m' news w)
    (h63 : m + m' ≤ maxLen) (hby : (m + m') * bytes ≤ 140737488355328) (hX : ∀ X, D = some X → ∀ b, b ∈ valBlocks v → X b) (hn : Nat.blt d n = true)
    (k : ∀ a' v' w', Env a' n ((d, v') :: L) → Mem w0 M w' (own v' es (m + m') (cs ++ news) :: H) → wpL P ops D Q rest a' w') :
    wpL P ops D Q ((false, ⟨some d, .call { callee := .builtin .append, args := #[x, y], argTypes := #[t, xt] }, ty, pos, aft, none⟩) :: rest) a w := by
  obtain ⟨v', w', hr, hA⟩ := run_append (ty := ty) ht (hM.holds _ (List.mem_cons_self ..)) hsrc h63 hby
  refine b_val hE hn (v := v') (w' := w') ?_ ?_ (fun a' hE' => k a' v' w' hE' (hM.append hA))
  · simp [execOp, resolve, invoke, builtin, hE.eval hx, hE.eval hy, hr]
  · cases D with
    | none => trivial
    | some X => exact ⟨hA.size, fun b hb hx => hA.frame b hb fun hb' => hx (hX X rfl b hb')⟩

/-! ## Calls -/

def evL (L : List (Nat × Value)) : List Operand → Option (List Value)
  | [] => some []
  | x :: r => match ev L x, evL L r with
    | some v, some l => some (v :: l)
    | _, _ => none

theorem Env.evals (hE : Env a n L) : ∀ {xs : List Operand} {vs : List Value}, evL L xs = some vs → xs.map a.eval = vs
  | [], vs, h => by simp [evL] at h; subst h; rfl
  | x :: r, vs, h => by
    simp only [evL] at h
    cases hx : ev L x with
    | none => simp [hx] at h
    | some v =>
      cases hr : evL L r with
      | none => simp [hx, hr] at h
      | some l =>
        simp [hx, hr] at h
        subst h
        rw [List.map_cons, hE.eval hx, hE.evals hr]

theorem s_call {f : FuncId} {xs : List Operand} {ts : Array TypeId} {vs : List Value} {R : Ending → World → Prop} (hE : Env a n L) (hv : evL L xs = some vs) (hf : ∀ args w, (callFunc f args).run P w = .ok (.enter f args) w)
    (hc : Calls P f vs.toArray w R) (hn : Nat.blt d n = true)
    (k : ∀ e w', R e w' → ∃ v, e = .returned v ∧ Sta D w w' ∧ ∀ a', Env a' n ((d, v) :: L) → wpL P ops D Q rest a' w') :
    wpL P ops D Q ((false, ⟨some d, .call { callee := .value (.func f), args := xs.toArray, argTypes := ts }, ty, pos, aft, none⟩) :: rest) a w := by
  simp only [wpL]
  rw [if_pos (by simp [Region.wanted])]
  refine .inl ?_
  unfold Oper.wp
  have hr : (execOp a.eval ⟨some d, .call { callee := .value (.func f), args := xs.toArray, argTypes := ts }, ty, pos, aft, none⟩).run P w = .ok (.enter f vs.toArray) w := by
    simp [execOp, resolve, Act.eval, Deferred.ofValue, invoke]
    rw [hE.evals hv, hf]
  rw [hr]
  refine Calls.mono hc fun e w' he => ?_
  obtain ⟨v, rfl, hs, hk⟩ := k e w' he
  exact ⟨hs, hk _ (hE.put _ (blt_lt hn))⟩

theorem Mem.drew (hM : Mem w0 M w H) : Mem w0 M { w with drawn := w.drawn + 1 } H :=
  Mem.act (es := []) (es' := []) hM rfl rfl rfl (Nat.le_refl _) (fun _ _ _ => rfl) (fun _ h => by cases h) (fun _ h => by cases h) (fun _ h => by cases h) (fun _ h => by cases h) .nil

theorem wp_drawnM {id : Nat} {ops : Array Oper} (hM : Mem w0 M w H) (hm : P.follows .mixedOrders = true) (X : Nat → Prop) (c : List (Nat × Bool)) (T : List (Nat × List (Nat × Nat)))
    (hc : canonOk ops c T = true) {l : List (Bool × Oper)} (hl : theOps ops c = l) (h : ∀ w', Mem w0 M w' H → w'.heap = w.heap → wpL P ops (some X) Q l a w') : (Code.region id ops true).wp P Q a w :=
  wp_drawn hm X c T hc hl (h _ hM.drew rfl)

/-! ## Control -/

theorem c_loop {γ : Type} {c : Code} (I : γ → Act → World → Prop) (μ : γ → Nat) (g : γ) (h0 : I g a w)
    (round : ∀ g a w, I g a w → c.wp P (Exit.then (fun a' w' => ∃ g', I g' a' w' ∧ μ g' < μ g) Q) a w) : (Code.loop c).wp P Q a w := by
  refine wp_loop_ghost (fun m a w => ∃ g, I g a w ∧ μ g = m) (μ g) ⟨g, h0, rfl⟩ fun m a w ⟨g, hI, hm⟩ => wp_mono (round g a w hI) ?_
  intro e a' w' hq
  cases e with
  | normal => obtain ⟨g', hI', hlt⟩ := hq; exact ⟨μ g', by omega, g', hI', rfl⟩
  | exit id => exact hq
  | goto l => exact hq
  | ret => exact hq
  | panic ch => exact hq
  | outgrown => exact hq

/-! ## Entering and leaving -/

theorem f_enter {f : FuncId} {fn : Func} {c : Code} {args : List Value} {w : World} {R : Ending → World → Prop} (n : Nat) (hf : P.funcs[f]? = some fn) (hb : fn.body = some c) (hn : fn.ntmps = n) (hle : Nat.ble args.length n = true)
    (h : ∀ a, Env a n (numb 0 args) → c.wp P (bodyPost P fn R) a w) : Calls P f args.toArray w R := by
  refine calls_of_wp hf hb (h _ ?_)
  rw [hn]
  exact Env.enter args n (Nat.le_of_ble_eq_true hle)

/-- What a result holds when a function leaves. -/
def ResOne (P : Program) (w : World) (L : List (Nat × Value)) (r : ResultVar) (v : Value) : Prop :=
  match r with
  | .tmp t => lk t L = some v
  | .cell p T => ∃ ad, lk p L = some (.pointer (some ad)) ∧ (loadVar T ad).run P w = .ok v w

theorem f_ret0 {fn : Func} {R : Ending → World → Prop} (hE : Env a n L) (hr : fn.results = #[]) (hR : R (.returned (.tuple #[])) w) : bodyPost P fn R .ret a w ∧ bodyPost P fn R .normal a w :=
  ⟨bodyPost_ret (results_none hr _ _ _) hE.defers hR, bodyPost_end (results_none hr _ _ _) hE.defers hR⟩

theorem f_ret1 {fn : Func} {R : Ending → World → Prop} {r1 : ResultVar} (hE : Env a n L) (hr : fn.results = #[r1]) (h : ResOne P w L r1 v) (hR : R (.returned v) w) : bodyPost P fn R .ret a w := by
  refine bodyPost_ret (v := v) ?_ hE.defers hR
  cases r1 with
  | tmp t => have := hE.at_ _ _ h; simp [results, hr, this]
  | cell p T => obtain ⟨ad, h1, h2⟩ := h; have := hE.at_ _ _ h1; simp [results, hr, this, asAddr, h2]

theorem f_ret2 {fn : Func} {R : Ending → World → Prop} {v1 v2 : Value} {r1 r2 : ResultVar} (hE : Env a n L) (hr : fn.results = #[r1, r2]) (h1 : ResOne P w L r1 v1) (h2 : ResOne P w L r2 v2) (hR : R (.returned (.tuple #[v1, v2])) w) : bodyPost P fn R .ret a w := by
  refine bodyPost_ret (v := .tuple #[v1, v2]) ?_ hE.defers hR
  cases r1 <;> cases r2 <;> simp only [ResOne] at h1 h2 <;>
    (try (obtain ⟨ad1, h1, h1'⟩ := h1)) <;> (try (obtain ⟨ad2, h2, h2'⟩ := h2)) <;> (have k1 := hE.at_ _ _ h1; have k2 := hE.at_ _ _ h2; simp [results, asAddr, *])

theorem f_ret3 {fn : Func} {R : Ending → World → Prop} {v1 v2 v3 : Value} {r1 r2 r3 : ResultVar} (hE : Env a n L) (hr : fn.results = #[r1, r2, r3]) (h1 : ResOne P w L r1 v1) (h2 : ResOne P w L r2 v2) (h3 : ResOne P w L r3 v3) (hR : R (.returned (.tuple #[v1, v2, v3])) w) : bodyPost P fn R .ret a w := by
  refine bodyPost_ret (v := .tuple #[v1, v2, v3]) ?_ hE.defers hR
  cases r1 <;> cases r2 <;> cases r3 <;> simp only [ResOne] at h1 h2 h3 <;>
    (try (obtain ⟨ad1, h1, h1'⟩ := h1)) <;> (try (obtain ⟨ad2, h2, h2'⟩ := h2)) <;> (try (obtain ⟨ad3, h3, h3'⟩ := h3)) <;> (have k1 := hE.at_ _ _ h1; have k2 := hE.at_ _ _ h2; have k3 := hE.at_ _ _ h3; simp [results, asAddr, *])

theorem res_cellN {p T b o s : Nat} {ss : List (List Value)} {ns : List Nat} {T' : Nat} {cs : List Value} (h : lk p L = some (.pointer (some ⟨b, o, none⟩))) (hB : (blk b ss ns T').holds w) (ht : RowT P T s) (hs : rdSeg o s ss ns = some cs) : ResOne P w L (.cell p T) (.agg cs.toArray) := by
  obtain ⟨b', o', e, h2, h3⟩ := cellsAt_blk hB hs
  cases e
  exact ⟨_, h, run_loadVar_row' (by rw [(rdSeg_spec hB.1 hs).1]; exact ht) h3⟩


/-! ## Ways out -/

theorem q_nil (h : Q .normal a w) : wpL P ops D Q [] a w := h
theorem q_then_e {K : Act → World → Prop} {id : Nat} (h : Q (.exit id) a w) : Exit.then K Q (.exit id) a w := h
theorem q_then_r {K : Act → World → Prop} (h : Q .ret a w) : Exit.then K Q .ret a w := h
theorem q_then_n {K : Act → World → Prop} (h : K a w) : Exit.then K Q .normal a w := h
theorem q_block_n {id : Nat} (h : Q .normal a w) : Exit.inBlock id Q .normal a w := h
theorem q_block_r {id : Nat} (h : Q .ret a w) : Exit.inBlock id Q .ret a w := h
theorem q_block_x {id : Nat} (h : Q .normal a w) : Exit.inBlock id Q (.exit id) a w := by simp only [Exit.inBlock, if_true]; exact h
/-- What is known of a temporary is said in other words. -/
theorem Env.cast {v v' : Value} (hE : Env a n L) (t : Nat) (h : lk t L = some v) (e : v = v') : Env a n ((t, v') :: L) := by
  subst e
  refine ⟨hE.defers, hE.size, fun t' u hu => ?_⟩
  simp only [lk] at hu
  cases hb : Nat.beq t t' with
  | true =>
    have := Nat.eq_of_beq_eq_true hb
    subst this
    simp at hu
    rw [← hu]; exact hE.at_ _ _ h
  | false =>
    rw [hb] at hu
    exact hE.at_ _ _ hu

theorem Env.split {G : Prop} {b : Bool} (hE : Env a n L) (t : Nat) (h : lk t L = some (.bool b)) (ht : b = true → Env a n ((t, .bool true) :: L) → G) (hf : b = false → Env a n ((t, .bool false) :: L) → G) : G := by
  cases b with
  | true => exact ht rfl (hE.cast t h rfl)
  | false => exact hf rfl (hE.cast t h rfl)

end Go.Kx
