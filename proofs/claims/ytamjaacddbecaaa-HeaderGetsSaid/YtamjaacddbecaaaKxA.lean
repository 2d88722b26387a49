/- Own library, part A: an environment of known temporaries; a list of operations in a canonical order, with floating ones; regions that draw their order. -/
import Derived.WalkKit
import Derived.Deep.MidRow
set_option linter.unusedSimpArgs false
set_option linter.unusedVariables false
namespace Go.Kx
open Go

/-! ## The temporaries that are known -/

def lk (t : Nat) : List (Nat × Value) → Option Value
  | [] => none
  | (k, v) :: r => cond (Nat.beq k t) (some v) (lk t r)

structure Env (a : Act) (n : Nat) (L : List (Nat × Value)) : Prop where
  defers : a.defers = []
  size : a.tmps.size = n
  at_ : ∀ t v, lk t L = some v → a.tmps[t]? = some v

def ev (L : List (Nat × Value)) : Operand → Option Value
  | .tmp t => lk t L
  | .const v => some v
  | .global g => some (.pointer (some ⟨g, 0, none⟩))
  | .func f => some (.func (.func f) #[] #[])

theorem Env.eval {a : Act} {n : Nat} {L : List (Nat × Value)} (h : Env a n L) {x : Operand} {v : Value} (hx : ev L x = some v) : a.eval x = v := by
  cases x with
  | tmp t =>
    have := h.at_ t v hx
    simp [Act.eval, this]
  | const c => simpa [ev, Act.eval] using hx
  | global g => simpa [ev, Act.eval] using hx
  | func f => simpa [ev, Act.eval] using hx

theorem Env.put {a : Act} {n : Nat} {L : List (Nat × Value)} (h : Env a n L) {d : Nat} (v : Value) (hd : d < n) : Env (a.put (some d) v) n ((d, v) :: L) := by
  refine ⟨h.defers, by simp [Act.put, h.size], fun t u hu => ?_⟩
  simp only [lk] at hu
  by_cases e : d = t
  · subst e
    simp only [Nat.beq_refl, cond_true, Option.some.injEq] at hu
    subst hu
    have hs := h.size
    simp [Act.put, hs, hd]
  · have hb : Nat.beq d t = false := by
      rw [Bool.eq_false_iff]; intro hc; exact e (Nat.eq_of_beq_eq_true hc)
    rw [hb, cond_false] at hu
    simp only [Act.put]
    rw [Array.getElem?_setIfInBounds_ne e]
    exact h.at_ t u hu

/-- Keep just these. -/
def sel (L : List (Nat × Value)) : List Nat → Option (List (Nat × Value))
  | [] => some []
  | k :: r => match lk k L, sel L r with
    | some v, some l => some ((k, v) :: l)
    | _, _ => none

theorem lk_sel {L : List (Nat × Value)} : ∀ {ks : List Nat} {L' : List (Nat × Value)}, sel L ks = some L' → ∀ t v, lk t L' = some v → lk t L = some v
  | [], L', h, t, v, hv => by simp [sel] at h; subst h; simp [lk] at hv
  | k :: r, L', h, t, v, hv => by
    simp only [sel] at h
    cases hk : lk k L with
    | none => simp [hk] at h
    | some x =>
      cases hr : sel L r with
      | none => simp [hk, hr] at h
      | some l =>
        simp [hk, hr] at h
        subst h
        simp only [lk] at hv
        cases hb : Nat.beq k t with
        | true =>
          rw [hb] at hv
          have := Nat.eq_of_beq_eq_true hb
          subst this
          simp at hv
          rw [hk, hv]
        | false =>
          rw [hb] at hv
          exact lk_sel hr t v hv

theorem Env.sel {a : Act} {n : Nat} {L L' : List (Nat × Value)} (h : Env a n L) (ks : List Nat) (hs : sel L ks = some L') : Env a n L' :=
  ⟨h.defers, h.size, fun t v hv => h.at_ t v (lk_sel hs t v hv)⟩

/-- The frame in which a function begins. -/
def numb : Nat → List Value → List (Nat × Value)
  | _, [] => []
  | i, v :: r => (i, v) :: numb (i + 1) r

theorem lk_numb : ∀ (l : List Value) (i t : Nat) (v : Value), lk t (numb i l) = some v → i ≤ t ∧ l[t - i]? = some v
  | [], i, t, v, h => by simp [numb, lk] at h
  | x :: r, i, t, v, h => by
    simp only [numb, lk] at h
    cases hb : Nat.beq i t with
    | true =>
      have := Nat.eq_of_beq_eq_true hb
      subst this
      rw [hb] at h
      simp at h
      simp [h]
    | false =>
      rw [hb] at h
      obtain ⟨h1, h2⟩ := lk_numb r (i + 1) t v h
      refine ⟨by omega, ?_⟩
      rw [show t - i = (t - (i + 1)) + 1 by omega]
      simpa using h2

theorem Env.enter (args : List Value) (n : Nat) (hn : args.length ≤ n) : Env ⟨args.toArray ++ Array.replicate (n - args.toArray.size) undef, []⟩ n (numb 0 args) := by
  refine ⟨rfl, by simp; omega, fun t v h => ?_⟩
  obtain ⟨_, h2⟩ := lk_numb args 0 t v h
  have ht : t < args.length := by
    rcases Nat.lt_or_ge t args.length with h' | h'
    · exact h'
    · rw [List.getElem?_eq_none (by omega : args.length ≤ t - 0)] at h2
      cases h2
  show (args.toArray ++ Array.replicate (n - args.toArray.size) undef)[t]? = some v
  rw [Array.getElem?_append_left (by simpa using ht)]
  simpa using h2

/-! ## Operations in a canonical order -/

/-- Only 'the memory ran out' leaves. -/
def NP (Q : Exit → Act → World → Prop) : Exit → Act → World → Prop
  | .outgrown, a, w => Q .outgrown a w
  | _, _, _ => False

theorem NP.imp {Q : Exit → Act → World → Prop} : ∀ e a w, NP Q e a w → Q e a w := fun e a w h => by
  cases e <;> first | exact h | exact (h : False).elim

/-- What the operations that float may see turn: blocks of X, and new ones. -/
def Sta (D : Option (Nat → Prop)) (w w' : World) : Prop :=
  match D with
  | none => True
  | some X => w.heap.size ≤ w'.heap.size ∧ ∀ b, b < w.heap.size → ¬ X b → w'.heap[b]? = w.heap[b]?

theorem Sta.refl (D : Option (Nat → Prop)) (w : World) : Sta D w w := by
  cases D with
  | none => trivial
  | some X => exact ⟨Nat.le_refl _, fun _ _ _ => rfl⟩

theorem Sta.trans {D : Option (Nat → Prop)} {w w' w'' : World} (h : Sta D w w') (k : Sta D w' w'') : Sta D w w'' := by
  cases D with
  | none => trivial
  | some X => exact ⟨Nat.le_trans h.1 k.1, fun b hb hx => (k.2 b (Nat.lt_of_lt_of_le hb h.1) hx).trans (h.2 b hb hx)⟩

/-- A floating operation yields v here, and in every world that may come of this one. -/
def Flo (P : Program) (D : Option (Nat → Prop)) (s : Sem Next) (v : Value) (w : World) : Prop :=
  s.run P w = .ok (.value v) w ∧ ∀ X, D = some X → ∀ w', Sta D w w' → s.run P w' = .ok (.value v) w'

theorem Flo.of_all {P : Program} {D : Option (Nat → Prop)} {s : Sem Next} {v : Value} (h : ∀ w, s.run P w = .ok (.value v) w) (w : World) : Flo P D s v w :=
  ⟨h w, fun _ _ w' _ => h w'⟩

theorem Flo.later {P : Program} {D : Option (Nat → Prop)} {s : Sem Next} {v : Value} {w w' : World} {X : Nat → Prop} (hD : D = some X) (h : Flo P D s v w) (hs : Sta D w w') : Flo P D s v w' :=
  ⟨h.2 X hD w' hs, fun Y hY w'' hs' => h.2 Y hY w'' (hs.trans hs')⟩

def wpL (P : Program) (ops : Array Oper) (D : Option (Nat → Prop)) (Q : Exit → Act → World → Prop) : List (Bool × Oper) → Act → World → Prop
  | [], a, w => Q .normal a w
  | (f, o) :: rest, a, w =>
    if Region.wanted o (yielded ops a.tmps) then
      match f with
      | true => ∃ v, Flo P D (execOp a.eval o) v w ∧ wpL P ops D Q rest (a.put o.dst v) w
      | false => o.wp P a w (fun a' w' => Sta D w w' ∧ wpL P ops D Q rest a' w') (NP Q) ∨ (o.asks P a w ∧ LetsOut Q)
    else wpL P ops D Q rest (a.put o.dst undef) w

variable {P : Program} {ops : Array Oper} {D : Option (Nat → Prop)} {Q : Exit → Act → World → Prop}

theorem Oper.wp_monoQ {o : Oper} {a : Act} {w : World} {K K' : Act → World → Prop} {Q Q' : Exit → Act → World → Prop} (h : ∀ a w, K a w → K' a w)
    (hq : ∀ e a w, Q e a w → Q' e a w) (hh : o.wp P a w K Q) : o.wp P a w K' Q' := by
  unfold Oper.wp at *
  generalize (execOp a.eval o).run P w = r at *
  cases r with
  | ok n w' =>
    cases n <;> simp only [Oper.upon] at hh ⊢ <;>
      first
        | exact h _ _ hh
        | exact Calls.mono hh (fun e w'' he => by
            cases e <;> first | exact h _ _ he | exact hq _ _ _ he | (obtain ⟨a, w, he⟩ := he; exact ⟨a, w, hq _ _ _ he⟩))
        | exact Rows.mono hh (fun _ _ he => h _ _ he)
  | halt x w' => cases x <;> simp only [Oper.upon] at hh ⊢ <;> first | exact hq _ _ _ hh | exact hh

/-- One operation, whatever flag it bears: as the kit's own step. -/
theorem wpL_wpOp {i : Nat} {o : Oper} (hi : ops[i]? = some o) {f : Bool} {rest : List (Bool × Oper)} {a : Act} {w : World}
    (h : wpL P ops D Q ((f, o) :: rest) a w) : wpOp P ops Q i (fun a' w' => Sta D w w' ∧ wpL P ops D Q rest a' w') a w := by
  unfold Go.wpOp
  simp only [hi]
  simp only [wpL] at h
  by_cases hw : Region.wanted o (yielded ops a.tmps) = true
  · simp only [hw, if_true] at h ⊢
    cases f with
    | true =>
      obtain ⟨v, hf, hr⟩ := h
      refine .inl ?_
      unfold Oper.wp
      rw [hf.1]
      exact ⟨Sta.refl _ _, hr⟩
    | false => exact h.imp (Oper.wp_monoQ (fun _ _ h => h) NP.imp) id
  · simp only [hw] at h ⊢
    exact ⟨Sta.refl _ _, h⟩

theorem wpList_of_wpL : ∀ (l : List (Bool × Oper)) (a : Act) (w : World), wpL P ops D Q l a w → wpList P ops Q (l.map (·.2)) a w
  | [], _, _, h => h
  | (f, o) :: rest, a, w, h => by
    simp only [wpL] at h
    simp only [List.map_cons, wpList]
    by_cases hw : Region.wanted o (yielded ops a.tmps) = true
    · simp only [hw, if_true] at h ⊢
      cases f with
      | true =>
        obtain ⟨v, hf, hr⟩ := h
        refine .inl ?_
        unfold Oper.wp
        rw [hf.1]
        exact wpList_of_wpL rest _ _ hr
      | false => exact h.imp (Oper.wp_monoQ (fun _ _ h => wpList_of_wpL rest _ _ h.2) NP.imp) id
    · simp only [hw] at h ⊢
      exact wpList_of_wpL rest _ _ h

/-- A region in the order of the text. -/
theorem wp_plain {id : Nat} {ops : Array Oper} {a : Act} {w : World} (fs : List Bool) {l : List (Bool × Oper)} (_hl : List.zip fs ops.toList = l) (hs : l.map (·.2) = ops.toList)
    (h : wpL P ops none Q l a w) : (Code.region id ops false).wp P Q a w :=
  wp_region_list (by rw [← hs]; exact wpList_of_wpL l a w h)

/-! ## A region that draws its order -/

def noSelect (o : Oper) : Prop := ∀ cs b, o.op ≠ .select cs b

/-- A floating operation ahead of another one that has nothing to do with it may come behind it. -/
theorem wpL_swap {f x : Oper} {b : Bool} {rest : List (Bool × Oper)} {a : Act} {w : World} {X : Nat → Prop} (hD : D = some X) (hap : f.apart ops x = true) (hf : noSelect f) (hx : noSelect x)
    (h : wpL P ops D Q ((true, f) :: (b, x) :: rest) a w) : wpL P ops D Q ((b, x) :: (true, f) :: rest) a w := by
  obtain ⟨h1, h2, h3⟩ := Oper.apart_spec hap
  have hwx : ∀ (a : Act) v, Region.wanted x (yielded ops (a.put f.dst v).tmps) = Region.wanted x (yielded ops a.tmps) := fun a v => wanted_put x a f.dst v h1
  have hex : ∀ (a : Act) v, execOp (a.put f.dst v).eval x = execOp a.eval x := fun a v => execOp_put x hx a f.dst v h1
  have hwf : ∀ (a : Act) v, Region.wanted f (yielded ops (a.put x.dst v).tmps) = Region.wanted f (yielded ops a.tmps) := fun a v => wanted_put f a x.dst v h3
  have hef : ∀ (a : Act) v, execOp (a.put x.dst v).eval f = execOp a.eval f := fun a v => execOp_put f hf a x.dst v h3
  have comm : ∀ (a : Act) (v u : Value), (a.put f.dst v).put x.dst u = (a.put x.dst u).put f.dst v := fun a v u => Act.put_comm a v u h2
  simp only [wpL] at h ⊢
  by_cases hw : Region.wanted f (yielded ops a.tmps) = true
  · simp only [hw, if_true] at h
    obtain ⟨v, hv, hr⟩ := h
    rw [hwx] at hr
    by_cases hw' : Region.wanted x (yielded ops a.tmps) = true
    · simp only [hw', if_true] at hr ⊢
      cases b with
      | true =>
        obtain ⟨u, hu, hr⟩ := hr
        rw [hex] at hu
        refine ⟨u, hu, ?_⟩
        rw [hwf, hw, if_pos rfl]
        refine ⟨v, by rw [hef]; exact hv, ?_⟩
        rw [← comm]; exact hr
      | false =>
        rcases hr with hr | ⟨hr, hl⟩
        · refine .inl ?_
          unfold Oper.wp at hr ⊢
          rw [hex] at hr
          generalize (execOp a.eval x).run P w = r at *
          have fin : ∀ (a' : Act) (w' : World), execOp a'.eval f = execOp a.eval f → Region.wanted f (yielded ops a'.tmps) = Region.wanted f (yielded ops a.tmps) →
              Sta D w w' → wpL P ops D Q rest (a'.put f.dst v) w' →
              (if Region.wanted f (yielded ops a'.tmps) then ∃ v, Flo P D (execOp a'.eval f) v w' ∧ wpL P ops D Q rest (a'.put f.dst v) w' else wpL P ops D Q rest (a'.put f.dst undef) w') := by
            intro a' w' he hwa hs hr
            rw [hwa, hw, if_pos rfl]
            exact ⟨v, by rw [he]; exact hv.later hD hs, hr⟩
          cases r with
          | ok n w' =>
            cases n <;> simp only [Oper.upon] at hr ⊢
            case value u => exact ⟨hr.1, fin _ _ (hef a u) (hwf a u) hr.1 (by rw [← comm]; exact hr.2)⟩
            case skip => exact ⟨hr.1, fin _ _ (hef a _) (hwf a _) hr.1 (by rw [← comm]; exact hr.2)⟩
            case defer d =>
              refine ⟨hr.1, fin _ _ ?_ ?_ hr.1 ?_⟩
              · rw [hef]; rfl
              · rw [hwf]
              · have hr2 := hr.2
                rw [Act.put_defers, comm] at hr2
                exact hr2
            case enter g args =>
              refine Calls.mono hr fun e w'' he => ?_
              cases e with
              | returned u => exact ⟨he.1, fin _ _ (hef a u) (hwf a u) he.1 (by rw [← comm]; exact he.2)⟩
              | panicked c => exact he
              | outgrown => exact he
            case row row args => exact Rows.mono hr fun u w'' he => ⟨he.1, fin _ _ (hef a u) (hwf a u) he.1 (by rw [← comm]; exact he.2)⟩
          | halt y w' => cases y <;> simp only [Oper.upon] at hr ⊢ <;> exact hr
        · exact .inr ⟨by unfold Oper.asks at *; rw [hex] at hr; exact hr, hl⟩
    · simp only [hw'] at hr ⊢
      rw [hwf, hw]
      simp only [if_true]
      refine ⟨v, by rw [hef]; exact hv, ?_⟩
      rw [← comm]; exact hr
  · simp only [hw] at h
    rw [if_neg (by simp)] at h
    rw [hwx] at h
    by_cases hw' : Region.wanted x (yielded ops a.tmps) = true
    · simp only [hw', if_true] at h ⊢
      cases b with
      | true =>
        obtain ⟨u, hu, hr⟩ := h
        rw [hex] at hu
        refine ⟨u, hu, ?_⟩
        rw [hwf, if_neg hw, ← comm]; exact hr
      | false =>
        rcases h with hr | ⟨hr, hl⟩
        · refine .inl ?_
          unfold Oper.wp at hr ⊢
          rw [hex] at hr
          generalize (execOp a.eval x).run P w = r at *
          cases r with
          | ok n w' =>
            cases n <;> simp only [Oper.upon] at hr ⊢
            case value u => exact ⟨hr.1, by rw [hwf, if_neg hw, ← comm]; exact hr.2⟩
            case skip => exact ⟨hr.1, by rw [hwf, if_neg hw, ← comm]; exact hr.2⟩
            case defer d =>
              refine ⟨hr.1, ?_⟩
              have hr2 := hr.2
              rw [Act.put_defers, comm] at hr2
              rw [hwf, if_neg (by exact hw)]
              exact hr2
            case enter g args =>
              refine Calls.mono hr fun e w'' he => ?_
              cases e with
              | returned u => exact ⟨he.1, by rw [hwf, if_neg hw, ← comm]; exact he.2⟩
              | panicked c => exact he
              | outgrown => exact he
            case row row args => exact Rows.mono hr fun u w'' he => ⟨he.1, by rw [hwf, if_neg hw, ← comm]; exact he.2⟩
          | halt y w' => cases y <;> simp only [Oper.upon] at hr ⊢ <;> exact hr
        · exact .inr ⟨by unfold Oper.asks at *; rw [hex] at hr; exact hr, hl⟩
    · simp only [hw'] at h ⊢
      rw [hwf, if_neg hw, ← comm]; exact h

end Go.Kx
