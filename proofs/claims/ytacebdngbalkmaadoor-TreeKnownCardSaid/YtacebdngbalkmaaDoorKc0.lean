/- Own library: parts KxA, KxB, KxB2, KxC. -/
import Derived.WalkKit
import Derived.Deep.MidRow
set_option linter.unusedSimpArgs false
set_option linter.unusedVariables false
/- Own library, part A: an environment of known temporaries; a list of operations in a canonical order, with floating ones; regions that draw their order. -/
namespace Go.Kx
open Go

/-! ## The temporaries that are known -/

def lk (t : Nat) : List (Nat × Value) → Option Value
  | [] => none
  | (k, v) :: r => cond (Nat.beq k t) (some v) (lk t r)

structure Env (a : Act) (n : Nat) (L : List (Nat × Value)) : Prop where
  defers : a.defers = []
  size : a.tmps.size = n
  at_ : ∀ t v, lk t L = some v → a.tmps[t]? = some v

def ev (L : List (Nat × Value)) : Operand → Option Value
  | .tmp t => lk t L
  | .const v => some v
  | .global g => some (.pointer (some ⟨g, 0, none⟩))
  | .func f => some (.func (.func f) #[] #[])

theorem Env.eval {a : Act} {n : Nat} {L : List (Nat × Value)} (h : Env a n L) {x : Operand} {v : Value} (hx : ev L x = some v) : a.eval x = v := by
  cases x with
  | tmp t =>
    have := h.at_ t v hx
    simp [Act.eval, this]
  | const c => simpa [ev, Act.eval] using hx
  | global g => simpa [ev, Act.eval] using hx
  | func f => simpa [ev, Act.eval] using hx

theorem Env.put {a : Act} {n : Nat} {L : List (Nat × Value)} (h : Env a n L) {d : Nat} (v : Value) (hd : d < n) : Env (a.put (some d) v) n ((d, v) :: L) := by
  refine ⟨h.defers, by simp [Act.put, h.size], fun t u hu => ?_⟩
  simp only [lk] at hu
  by_cases e : d = t
  · subst e
    simp only [Nat.beq_refl, cond_true, Option.some.injEq] at hu
    subst hu
    have hs := h.size
    simp [Act.put, hs, hd]
  · have hb : Nat.beq d t = false := by
      rw [Bool.eq_false_iff]; intro hc; exact e (Nat.eq_of_beq_eq_true hc)
    rw [hb, cond_false] at hu
    simp only [Act.put]
    rw [Array.getElem?_setIfInBounds_ne e]
    exact h.at_ t u hu

/-- Keep just these. -/
def sel (L : List (Nat × Value)) : List Nat → Option (List (Nat × Value))
  | [] => some []
  | k :: r => match lk k L, sel L r with
    | some v, some l => some ((k, v) :: l)
    | _, _ => none

theorem lk_sel {L : List (Nat × Value)} : ∀ {ks : List Nat} {L' : List (Nat × Value)}, sel L ks = some L' → ∀ t v, lk t L' = some v → lk t L = some v
  | [], L', h, t, v, hv => by simp [sel] at h; subst h; simp [lk] at hv
  | k :: r, L', h, t, v, hv => by
    simp only [sel] at h
    cases hk : lk k L with
    | none => simp [hk] at h
    | some x =>
      cases hr : sel L r with
      | none => simp [hk, hr] at h
      | some l =>
        simp [hk, hr] at h
        subst h
        simp only [lk] at hv
        cases hb : Nat.beq k t with
        | true =>
          rw [hb] at hv
          have := Nat.eq_of_beq_eq_true hb
          subst this
          simp at hv
          rw [hk, hv]
        | false =>
          rw [hb] at hv
          exact lk_sel hr t v hv

theorem Env.sel {a : Act} {n : Nat} {L L' : List (Nat × Value)} (h : Env a n L) (ks : List Nat) (hs : sel L ks = some L') : Env a n L' :=
  ⟨h.defers, h.size, fun t v hv => h.at_ t v (lk_sel hs t v hv)⟩

/-- The frame in which a function begins. -/
def numb : Nat → List Value → List (Nat × Value)
  | _, [] => []
  | i, v :: r => (i, v) :: numb (i + 1) r

theorem lk_numb : ∀ (l : List Value) (i t : Nat) (v : Value), lk t (numb i l) = some v → i ≤ t ∧ l[t - i]? = some v
  | [], i, t, v, h => by simp [numb, lk] at h
  | x :: r, i, t, v, h => by
    simp only [numb, lk] at h
    cases hb : Nat.beq i t with
    | true =>
      have := Nat.eq_of_beq_eq_true hb
      subst this
      rw [hb] at h
      simp at h
      simp [h]
    | false =>
      rw [hb] at h
      obtain ⟨h1, h2⟩ := lk_numb r (i + 1) t v h
      refine ⟨by omega, ?_⟩
      rw [show t - i = (t - (i + 1)) + 1 by omega]
      simpa using h2

theorem Env.enter (args : List Value) (n : Nat) (hn : args.length ≤ n) : Env ⟨args.toArray ++ Array.replicate (n - args.toArray.size) undef, []⟩ n (numb 0 args) := by
  refine ⟨rfl, by simp; omega, fun t v h => ?_⟩
  obtain ⟨_, h2⟩ := lk_numb args 0 t v h
  have ht : t < args.length := by
    rcases Nat.lt_or_ge t args.length with h' | h'
    · exact h'
    · rw [List.getElem?_eq_none (by omega : args.length ≤ t - 0)] at h2
      cases h2
  show (args.toArray ++ Array.replicate (n - args.toArray.size) undef)[t]? = some v
  rw [Array.getElem?_append_left (by simpa using ht)]
  simpa using h2

/-! ## Operations in a canonical order -/

/-- Only 'the memory ran out' leaves. -/
def NP (Q : Exit → Act → World → Prop) : Exit → Act → World → Prop
  | .outgrown, a, w => Q .outgrown a w
  | _, _, _ => False

theorem NP.imp {Q : Exit → Act → World → Prop} : ∀ e a w, NP Q e a w → Q e a w := fun e a w h => by
  cases e <;> first | exact h | exact (h : False).elim

/-- What the operations that float may see turn: blocks of X, and new ones. -/
def Sta (D : Option (Nat → Prop)) (w w' : World) : Prop :=
  match D with
  | none => True
  | some X => w.heap.size ≤ w'.heap.size ∧ ∀ b, b < w.heap.size → ¬ X b → w'.heap[b]? = w.heap[b]?

theorem Sta.refl (D : Option (Nat → Prop)) (w : World) : Sta D w w := by
  cases D with
  | none => trivial
  | some X => exact ⟨Nat.le_refl _, fun _ _ _ => rfl⟩

theorem Sta.trans {D : Option (Nat → Prop)} {w w' w'' : World} (h : Sta D w w') (k : Sta D w' w'') : Sta D w w'' := by
  cases D with
  | none => trivial
  | some X => exact ⟨Nat.le_trans h.1 k.1, fun b hb hx => (k.2 b (Nat.lt_of_lt_of_le hb h.1) hx).trans (h.2 b hb hx)⟩

/-- A floating operation yields v here, and in every world that may come of this one. -/
def Flo (P : Program) (D : Option (Nat → Prop)) (s : Sem Next) (v : Value) (w : World) : Prop :=
  s.run P w = .ok (.value v) w ∧ ∀ X, D = some X → ∀ w', Sta D w w' → s.run P w' = .ok (.value v) w'

theorem Flo.of_all {P : Program} {D : Option (Nat → Prop)} {s : Sem Next} {v : Value} (h : ∀ w, s.run P w = .ok (.value v) w) (w : World) : Flo P D s v w :=
  ⟨h w, fun _ _ w' _ => h w'⟩

theorem Flo.later {P : Program} {D : Option (Nat → Prop)} {s : Sem Next} {v : Value} {w w' : World} {X : Nat → Prop} (hD : D = some X) (h : Flo P D s v w) (hs : Sta D w w') : Flo P D s v w' :=
  ⟨h.2 X hD w' hs, fun Y hY w'' hs' => h.2 Y hY w'' (hs.trans hs')⟩

def wpL (P : Program) (ops : Array Oper) (D : Option (Nat → Prop)) (Q : Exit → Act → World → Prop) : List (Bool × Oper) → Act → World → Prop
  | [], a, w => Q .normal a w
  | (f, o) :: rest, a, w =>
    if Region.wanted o (yielded ops a.tmps) then
      match f with
      | true => ∃ v, Flo P D (execOp a.eval o) v w ∧ wpL P ops D Q rest (a.put o.dst v) w
      | false => o.wp P a w (fun a' w' => Sta D w w' ∧ wpL P ops D Q rest a' w') (NP Q) ∨ (o.asks P a w ∧ LetsOut Q)
    else wpL P ops D Q rest (a.put o.dst undef) w

variable {P : Program} {ops : Array Oper} {D : Option (Nat → Prop)} {Q : Exit → Act → World → Prop}

theorem Oper.wp_monoQ {o : Oper} {a : Act} {w : World} {K K' : Act → World → Prop} {Q Q' : Exit → Act → World → Prop} (h : ∀ a w, K a w → K' a w)
    (hq : ∀ e a w, Q e a w → Q' e a w) (hh : o.wp P a w K Q) : o.wp P a w K' Q' := by
  unfold Oper.wp at *
  generalize (execOp a.eval o).run P w = r at *
  cases r with
  | ok n w' =>
    cases n <;> simp only [Oper.upon] at hh ⊢ <;>
      first
        | exact h _ _ hh
        | exact Calls.mono hh (fun e w'' he => by
            cases e <;> first | exact h _ _ he | exact hq _ _ _ he | (obtain ⟨a, w, he⟩ := he; exact ⟨a, w, hq _ _ _ he⟩))
        | exact Rows.mono hh (fun _ _ he => h _ _ he)
  | halt x w' => cases x <;> simp only [Oper.upon] at hh ⊢ <;> first | exact hq _ _ _ hh | exact hh

/-- One operation, whatever flag it bears: as the kit's own step. -/
theorem wpL_wpOp {i : Nat} {o : Oper} (hi : ops[i]? = some o) {f : Bool} {rest : List (Bool × Oper)} {a : Act} {w : World}
    (h : wpL P ops D Q ((f, o) :: rest) a w) : wpOp P ops Q i (fun a' w' => Sta D w w' ∧ wpL P ops D Q rest a' w') a w := by
  unfold Go.wpOp
  simp only [hi]
  simp only [wpL] at h
  by_cases hw : Region.wanted o (yielded ops a.tmps) = true
  · simp only [hw, if_true] at h ⊢
    cases f with
    | true =>
      obtain ⟨v, hf, hr⟩ := h
      refine .inl ?_
      unfold Oper.wp
      rw [hf.1]
      exact ⟨Sta.refl _ _, hr⟩
    | false => exact h.imp (Oper.wp_monoQ (fun _ _ h => h) NP.imp) id
  · simp only [hw] at h ⊢
    exact ⟨Sta.refl _ _, h⟩

theorem wpList_of_wpL : ∀ (l : List (Bool × Oper)) (a : Act) (w : World), wpL P ops D Q l a w → wpList P ops Q (l.map (·.2)) a w
  | [], _, _, h => h
  | (f, o) :: rest, a, w, h => by
    simp only [wpL] at h
    simp only [List.map_cons, wpList]
    by_cases hw : Region.wanted o (yielded ops a.tmps) = true
    · simp only [hw, if_true] at h ⊢
      cases f with
      | true =>
        obtain ⟨v, hf, hr⟩ := h
        refine .inl ?_
        unfold Oper.wp
        rw [hf.1]
        exact wpList_of_wpL rest _ _ hr
      | false => exact h.imp (Oper.wp_monoQ (fun _ _ h => wpList_of_wpL rest _ _ h.2) NP.imp) id
    · simp only [hw] at h ⊢
      exact wpList_of_wpL rest _ _ h

/-- A region in the order of the text. -/
theorem wp_plain {id : Nat} {ops : Array Oper} {a : Act} {w : World} (fs : List Bool) {l : List (Bool × Oper)} (_hl : List.zip fs ops.toList = l) (hs : l.map (·.2) = ops.toList)
    (h : wpL P ops none Q l a w) : (Code.region id ops false).wp P Q a w :=
  wp_region_list (by rw [← hs]; exact wpList_of_wpL l a w h)

/-! ## A region that draws its order -/

def noSelect (o : Oper) : Prop := ∀ cs b, o.op ≠ .select cs b

/-- A floating operation ahead of another one that has nothing to do with it may come behind it. -/
theorem wpL_swap {f x : Oper} {b : Bool} {rest : List (Bool × Oper)} {a : Act} {w : World} {X : Nat → Prop} (hD : D = some X) (hap : f.apart ops x = true) (hf : noSelect f) (hx : noSelect x)
    (h : wpL P ops D Q ((true, f) :: (b, x) :: rest) a w) : wpL P ops D Q ((b, x) :: (true, f) :: rest) a w := by
  obtain ⟨h1, h2, h3⟩ := Oper.apart_spec hap
  have hwx : ∀ (a : Act) v, Region.wanted x (yielded ops (a.put f.dst v).tmps) = Region.wanted x (yielded ops a.tmps) := fun a v => wanted_put x a f.dst v h1
  have hex : ∀ (a : Act) v, execOp (a.put f.dst v).eval x = execOp a.eval x := fun a v => execOp_put x hx a f.dst v h1
  have hwf : ∀ (a : Act) v, Region.wanted f (yielded ops (a.put x.dst v).tmps) = Region.wanted f (yielded ops a.tmps) := fun a v => wanted_put f a x.dst v h3
  have hef : ∀ (a : Act) v, execOp (a.put x.dst v).eval f = execOp a.eval f := fun a v => execOp_put f hf a x.dst v h3
  have comm : ∀ (a : Act) (v u : Value), (a.put f.dst v).put x.dst u = (a.put x.dst u).put f.dst v := fun a v u => Act.put_comm a v u h2
  simp only [wpL] at h ⊢
  by_cases hw : Region.wanted f (yielded ops a.tmps) = true
  · simp only [hw, if_true] at h
    obtain ⟨v, hv, hr⟩ := h
    rw [hwx] at hr
    by_cases hw' : Region.wanted x (yielded ops a.tmps) = true
    · simp only [hw', if_true] at hr ⊢
      cases b with
      | true =>
        obtain ⟨u, hu, hr⟩ := hr
        rw [hex] at hu
        refine ⟨u, hu, ?_⟩
        rw [hwf, hw, if_pos rfl]
        refine ⟨v, by rw [hef]; exact hv, ?_⟩
        rw [← comm]; exact hr
      | false =>
        rcases hr with hr | ⟨hr, hl⟩
        · refine .inl ?_
          unfold Oper.wp at hr ⊢
          rw [hex] at hr
          generalize (execOp a.eval x).run P w = r at *
          have fin : ∀ (a' : Act) (w' : World), execOp a'.eval f = execOp a.eval f → Region.wanted f (yielded ops a'.tmps) = Region.wanted f (yielded ops a.tmps) →
              Sta D w w' → wpL P ops D Q rest (a'.put f.dst v) w' →
              (if Region.wanted f (yielded ops a'.tmps) then ∃ v, Flo P D (execOp a'.eval f) v w' ∧ wpL P ops D Q rest (a'.put f.dst v) w' else wpL P ops D Q rest (a'.put f.dst undef) w') := by
            intro a' w' he hwa hs hr
            rw [hwa, hw, if_pos rfl]
            exact ⟨v, by rw [he]; exact hv.later hD hs, hr⟩
          cases r with
          | ok n w' =>
            cases n <;> simp only [Oper.upon] at hr ⊢
            case value u => exact ⟨hr.1, fin _ _ (hef a u) (hwf a u) hr.1 (by rw [← comm]; exact hr.2)⟩
            case skip => exact ⟨hr.1, fin _ _ (hef a _) (hwf a _) hr.1 (by rw [← comm]; exact hr.2)⟩
            case defer d =>
              refine ⟨hr.1, fin _ _ ?_ ?_ hr.1 ?_⟩
              · rw [hef]; rfl
              · rw [hwf]
              · have hr2 := hr.2
                rw [Act.put_defers, comm] at hr2
                exact hr2
            case enter g args =>
              refine Calls.mono hr fun e w'' he => ?_
              cases e with
              | returned u => exact ⟨he.1, fin _ _ (hef a u) (hwf a u) he.1 (by rw [← comm]; exact he.2)⟩
              | panicked c => exact he
              | outgrown => exact he
            case row row args => exact Rows.mono hr fun u w'' he => ⟨he.1, fin _ _ (hef a u) (hwf a u) he.1 (by rw [← comm]; exact he.2)⟩
          | halt y w' => cases y <;> simp only [Oper.upon] at hr ⊢ <;> exact hr
        · exact .inr ⟨by unfold Oper.asks at *; rw [hex] at hr; exact hr, hl⟩
    · simp only [hw'] at hr ⊢
      rw [hwf, hw]
      simp only [if_true]
      refine ⟨v, by rw [hef]; exact hv, ?_⟩
      rw [← comm]; exact hr
  · simp only [hw] at h
    rw [if_neg (by simp)] at h
    rw [hwx] at h
    by_cases hw' : Region.wanted x (yielded ops a.tmps) = true
    · simp only [hw', if_true] at h ⊢
      cases b with
      | true =>
        obtain ⟨u, hu, hr⟩ := h
        rw [hex] at hu
        refine ⟨u, hu, ?_⟩
        rw [hwf, if_neg hw, ← comm]; exact hr
      | false =>
        rcases h with hr | ⟨hr, hl⟩
        · refine .inl ?_
          unfold Oper.wp at hr ⊢
          rw [hex] at hr
          generalize (execOp a.eval x).run P w = r at *
          cases r with
          | ok n w' =>
            cases n <;> simp only [Oper.upon] at hr ⊢
            case value u => exact ⟨hr.1, by rw [hwf, if_neg hw, ← comm]; exact hr.2⟩
            case skip => exact ⟨hr.1, by rw [hwf, if_neg hw, ← comm]; exact hr.2⟩
            case defer d =>
              refine ⟨hr.1, ?_⟩
              have hr2 := hr.2
              rw [Act.put_defers, comm] at hr2
              rw [hwf, if_neg (by exact hw)]
              exact hr2
            case enter g args =>
              refine Calls.mono hr fun e w'' he => ?_
              cases e with
              | returned u => exact ⟨he.1, by rw [hwf, if_neg hw, ← comm]; exact he.2⟩
              | panicked c => exact he
              | outgrown => exact he
            case row row args => exact Rows.mono hr fun u w'' he => ⟨he.1, by rw [hwf, if_neg hw, ← comm]; exact he.2⟩
          | halt y w' => cases y <;> simp only [Oper.upon] at hr ⊢ <;> exact hr
        · exact .inr ⟨by unfold Oper.asks at *; rw [hex] at hr; exact hr, hl⟩
    · simp only [hw'] at h ⊢
      rw [hwf, if_neg hw, ← comm]; exact h

end Go.Kx
/- Own library, part B: a region that draws its order comes to the canonical order. -/
namespace Go.Kx
open Go
variable {P : Program} {ops : Array Oper} {D : Option (Nat → Prop)} {Q : Exit → Act → World → Prop}

def waits (ops : Array Oper) (j e : Nat) : Bool :=
  match ops[j]? with
  | some o => o.after.any fun x => Nat.beq x.on e && Region.binds .any x
  | none => false

inductive Reach (ops : Array Oper) : Nat → Nat → Prop
  | one {j e : Nat} (h : waits ops j e = true) : Reach ops j e
  | more {j e i : Nat} (h : waits ops j e = true) (h' : Reach ops e i) : Reach ops j i

def chainOk (ops : Array Oper) (i : Nat) : List (Nat × Nat) → List Nat → Bool
  | [], _ => true
  | (j, e) :: r, seen => waits ops j e && (Nat.beq e i || seen.any (Nat.beq e)) && chainOk ops i r (j :: seen)

theorem chainOk_spec {i : Nat} : ∀ (l : List (Nat × Nat)) (seen : List Nat), chainOk ops i l seen = true → (∀ s ∈ seen, Reach ops s i) → ∀ j e, (j, e) ∈ l → Reach ops j i
  | [], _, _, _, _, _, h => by cases h
  | (j, e) :: r, seen, h, hs, j', e', hm => by
    simp only [chainOk, Bool.and_eq_true, Bool.or_eq_true] at h
    obtain ⟨⟨h1, h2⟩, h3⟩ := h
    have hj : Reach ops j i := by
      rcases h2 with h2 | h2
      · have := Nat.eq_of_beq_eq_true h2; subst this; exact .one h1
      · obtain ⟨s, hsm, hse⟩ := List.any_eq_true.1 h2
        have := Nat.eq_of_beq_eq_true hse; subst this
        exact .more h1 (hs _ hsm)
    rcases List.mem_cons.1 hm with hm | hm
    · cases hm; exact hj
    · exact chainOk_spec r (j :: seen) h3 (fun s hs' => by
        rcases List.mem_cons.1 hs' with rfl | hs'
        · exact hj
        · exact hs s hs') j' e' hm

def tabHas (T : List (Nat × List (Nat × Nat))) (i j : Nat) : Bool := T.any fun x => Nat.beq x.1 i && x.2.any fun y => Nat.beq y.1 j

def apartAt (ops : Array Oper) (i j : Nat) : Bool :=
  match ops[i]?, ops[j]? with
  | some x, some y => x.apart ops y
  | _, _ => false

def pairOk (ops : Array Oper) (T : List (Nat × List (Nat × Nat))) (p q : Nat × Bool) : Bool :=
  !(waits ops p.1 q.1) && (match p.2 with
    | true => waits ops q.1 p.1 || tabHas T p.1 q.1 || apartAt ops p.1 q.1
    | false => tabHas T p.1 q.1)

def pairsOk (r : Nat × Bool → Nat × Bool → Bool) : List (Nat × Bool) → Bool
  | [] => true
  | p :: l => l.all (fun q => r p q && !(Nat.beq p.1 q.1)) && pairsOk r l

theorem pairsOk_spec {r : Nat × Bool → Nat × Bool → Bool} : ∀ {l : List (Nat × Bool)}, pairsOk r l = true → l.Pairwise (fun p q => r p q = true ∧ p.1 ≠ q.1)
  | [], _ => .nil
  | p :: l, h => by
    simp only [pairsOk, Bool.and_eq_true, List.all_eq_true] at h
    refine .cons (fun q hq => ?_) (pairsOk_spec h.2)
    have := h.1 q hq
    refine ⟨this.1, fun e => ?_⟩
    have h2 := this.2
    rw [e] at h2
    simp at h2

def noSel (o : Oper) : Bool := match o.op with | .select .. => false | _ => true

theorem noSel_spec {o : Oper} (h : noSel o = true) : noSelect o := fun cs b e => by simp [noSel, e] at h

def canonOk (ops : Array Oper) (c : List (Nat × Bool)) (T : List (Nat × List (Nat × Nat))) : Bool :=
  c.all (fun p => Nat.blt p.1 ops.size && !(waits ops p.1 p.1)) && Nat.beq c.length ops.size && pairsOk (pairOk ops T) c && T.all (fun x => chainOk ops x.1 x.2 []) &&
  ops.toList.all (fun o => noSel o && o.after.all fun e => Nat.blt e.on ops.size || !Region.binds .any e) &&
  (List.range ops.size).all (fun i => c.any fun p => Nat.beq p.1 i)

def theOps (ops : Array Oper) (c : List (Nat × Bool)) : List (Bool × Oper) := c.map fun p => (p.2, ops.getD p.1 default)

structure Rem (ops : Array Oper) (T : List (Nat × List (Nat × Nat))) (listed : Array Bool) (c : List (Nat × Bool)) : Prop where
  un : ∀ p ∈ c, p.1 < ops.size ∧ listed.getD p.1 true = false ∧ waits ops p.1 p.1 = false
  all : ∀ i, i < ops.size → listed.getD i false = true ∨ ∃ p ∈ c, p.1 = i
  pairs : c.Pairwise (fun p q => pairOk ops T p q = true ∧ p.1 ≠ q.1)
  closed : ∀ j e, listed.getD j false = true → waits ops j e = true → listed.getD e false = true

theorem waits_spec {j e : Nat} : waits ops j e = true ↔ ∃ o, ops[j]? = some o ∧ ∃ x ∈ o.after, x.on = e ∧ Region.binds .any x = true := by
  unfold waits
  cases h : ops[j]? with
  | none => simp
  | some o =>
    simp only [Option.some.injEq, exists_eq_left', Array.any_eq_true']
    constructor
    · rintro ⟨x, hx, hb⟩
      simp only [Bool.and_eq_true] at hb
      exact ⟨x, hx, Nat.eq_of_beq_eq_true hb.1, hb.2⟩
    · rintro ⟨x, hx, rfl, hb⟩
      exact ⟨x, hx, by simp [hb]⟩

theorem getD_false_of_true {listed : Array Bool} {i : Nat} (h : listed.getD i true = false) : listed.getD i false = false := by
  rcases Nat.lt_or_ge i listed.size with h' | h'
  · simpa [h'] using h
  · simp [h']

theorem Reach.listed {listed : Array Bool} (hc : ∀ j e, listed.getD j false = true → waits ops j e = true → listed.getD e false = true) {j i : Nat} (h : Reach ops j i)
    (hj : ∀ e, waits ops j e = true → listed.getD e false = true) : listed.getD i false = true := by
  induction h with
  | one h => exact hj _ h
  | more h _ ih => exact ih fun e he => hc _ e (hj _ h) he

theorem ready_waits {listed : Array Bool} {j : Nat} (h : j ∈ Region.ready .any ops listed) : listed.getD j true = false ∧ j < ops.size ∧ ∀ e, waits ops j e = true → listed.getD e false = true := by
  obtain ⟨h0, o, ho, hall⟩ := mem_ready.1 h
  refine ⟨h0, (Array.getElem?_eq_some_iff.1 ho).1, fun e he => ?_⟩
  obtain ⟨o', ho', x, hx, rfl, hb⟩ := waits_spec.1 he
  rw [ho] at ho'; cases ho'
  exact hall x hx hb

theorem wpL_front {X : Nat → Prop} (hD : D = some X) {x : Bool × Oper} (hx : noSelect x.2) : ∀ (pre post : List (Bool × Oper)) (a : Act) (w : World), (∀ p ∈ pre, p.1 = true ∧ p.2.apart ops x.2 = true ∧ noSelect p.2) →
    wpL P ops D Q (pre ++ x :: post) a w → wpL P ops D Q (x :: (pre ++ post)) a w
  | [], _, _, _, _, h => h
  | (f, o) :: pre, post, a, w, hp, h => by
    obtain ⟨rfl, hap, hs⟩ : f = true ∧ o.apart ops x.2 = true ∧ noSelect o := hp (f, o) (List.mem_cons_self ..)
    have h' : wpL P ops D Q ((true, o) :: x :: (pre ++ post)) a w := by
      simp only [List.cons_append] at h
      have ih := fun a w => wpL_front hD hx pre post a w (fun p hp' => hp p (List.mem_cons_of_mem _ hp'))
      simp only [wpL] at h ⊢
      split
      · rename_i hw
        simp only [hw, if_true] at h
        obtain ⟨v, hv, hr⟩ := h
        exact ⟨v, hv, ih _ _ hr⟩
      · rename_i hw
        simp only [hw] at h
        exact ih _ _ h
    exact wpL_swap hD hap hs hx h'

theorem tabHas_listed {T : List (Nat × List (Nat × Nat))} (hT : ∀ x ∈ T, chainOk ops x.1 x.2 [] = true) {listed : Array Bool} (hcl : ∀ j e, listed.getD j false = true → waits ops j e = true → listed.getD e false = true) {i : Nat}
    (hi : i ∈ Region.ready .any ops listed) {p : Nat} (h : tabHas T p i = true) : listed.getD p false = true := by
  obtain ⟨h0, hlt, hw⟩ := ready_waits hi
  obtain ⟨x, hx, hx'⟩ := List.any_eq_true.1 h
  simp only [Bool.and_eq_true] at hx'
  obtain ⟨y, hy, hy'⟩ := List.any_eq_true.1 hx'.2
  have e1 := Nat.eq_of_beq_eq_true hx'.1
  have e2 := Nat.eq_of_beq_eq_true hy'
  have hr := chainOk_spec x.2 [] (hT x hx) (fun _ h => by cases h) y.1 y.2 hy
  rw [e1, e2] at hr
  exact hr.listed hcl hw

def opsOk (ops : Array Oper) : Prop := ∀ o ∈ ops.toList, noSel o = true ∧ ∀ e ∈ o.after, Region.binds .any e = true → e.on < ops.size

theorem opsOk.nos (h : opsOk ops) (i : Nat) (hi : i < ops.size) : noSelect (ops.getD i default) := by
  have : ops.getD i default ∈ ops.toList := by simp [hi]
  exact noSel_spec (h _ this).1

theorem Rem.mem {T : List (Nat × List (Nat × Nat))} {listed : Array Bool} {c : List (Nat × Bool)} (hR : Rem ops T listed c) {i : Nat} (hi : i ∈ Region.ready .any ops listed) : ∃ p ∈ c, p.1 = i := by
  obtain ⟨h0, hlt, hw⟩ := ready_waits hi
  exact (hR.all i hlt).resolve_left (by rw [getD_false_of_true h0]; simp)

theorem Rem.before {T : List (Nat × List (Nat × Nat))} (hT : ∀ x ∈ T, chainOk ops x.1 x.2 [] = true) {listed : Array Bool} {pre post : List (Nat × Bool)} {p : Nat × Bool} (hR : Rem ops T listed (pre ++ p :: post)) (hi : p.1 ∈ Region.ready .any ops listed) :
    ∀ q ∈ pre, q.2 = true ∧ apartAt ops q.1 p.1 = true := by
  intro q hq
  obtain ⟨h0, hlt, hw⟩ := ready_waits hi
  have hpw := (List.pairwise_append.1 hR.pairs).2.2 q hq p (List.mem_cons_self ..)
  have hun : listed.getD q.1 false = false := getD_false_of_true (hR.un q (List.mem_append_left _ hq)).2.1
  obtain ⟨hpair, _⟩ := hpw
  simp only [pairOk, Bool.and_eq_true] at hpair
  have hno : ¬ tabHas T q.1 p.1 = true := fun h => by
    have := tabHas_listed hT hR.closed hi h
    rw [hun] at this; cases this
  cases hf : q.2 with
  | true =>
    rw [hf] at hpair
    simp only [Bool.or_eq_true] at hpair
    refine ⟨rfl, ?_⟩
    rcases hpair.2 with (h | h) | h
    · have := hw _ h
      rw [hun] at this; cases this
    · exact absurd h hno
    · exact h
  | false =>
    rw [hf] at hpair
    exact absurd hpair.2 hno

theorem Rem.some_ready {T : List (Nat × List (Nat × Nat))} (hops : opsOk ops) {listed : Array Bool} {p : Nat × Bool} {c : List (Nat × Bool)} (hR : Rem ops T listed (p :: c)) : Region.ready .any ops listed ≠ [] := by
  intro hr
  have hp := hR.un p (List.mem_cons_self ..)
  have : p.1 ∈ Region.ready .any ops listed := by
    rw [mem_ready]
    refine ⟨hp.2.1, ops.getD p.1 default, by simp [hp.1], fun e he hb => ?_⟩
    have hwt : waits ops p.1 e.on = true := waits_spec.2 ⟨_, by simp [hp.1], e, he, rfl, hb⟩
    have hlt := (hops (ops.getD p.1 default) (by simp [hp.1])).2 e he hb
    rcases hR.all e.on hlt with h1 | ⟨q, hq, hqe⟩
    · exact h1
    · exfalso
      rcases List.mem_cons.1 hq with rfl | hq
      · rw [← hqe, hp.2.2] at hwt
        cases hwt
      · have hpw := (List.pairwise_cons.1 hR.pairs).1 q hq
        have h2 := hpw.1
        simp only [pairOk, Bool.and_eq_true, Bool.not_eq_true'] at h2
        rw [hqe] at h2
        rw [hwt] at h2
        cases h2.1
  rw [hr] at this
  cases this

theorem Rem.step {T : List (Nat × List (Nat × Nat))} {listed : Array Bool} {pre post : List (Nat × Bool)} {i : Nat} {f : Bool} (hR : Rem ops T listed (pre ++ (i, f) :: post)) (hsz : listed.size = ops.size) (hi : i ∈ Region.ready .any ops listed) :
    Rem ops T (listed.setIfInBounds i true) (pre ++ post) := by
  obtain ⟨h0, hlt, hw⟩ := ready_waits hi
  have hne : ∀ p ∈ pre ++ post, p.1 ≠ i := fun p hp e => by
    rcases List.mem_append.1 hp with hp | hp
    · exact ((List.pairwise_append.1 hR.pairs).2.2 p hp (i, f) (List.mem_cons_self ..)).2 e
    · exact ((List.pairwise_cons.1 (List.pairwise_append.1 hR.pairs).2.1).1 p hp).2 e.symm
  refine ⟨fun p hp => ?_, fun j hj => ?_, ?_, fun j e hj he => ?_⟩
  · have hm : p ∈ pre ++ (i, f) :: post := by
      rcases List.mem_append.1 hp with hp | hp
      · exact List.mem_append_left _ hp
      · exact List.mem_append_right _ (List.mem_cons_of_mem _ hp)
    refine ⟨(hR.un p hm).1, ?_, (hR.un p hm).2.2⟩
    rw [getD_set_ne true (Ne.symm (hne p hp))]
    exact (hR.un p hm).2.1
  · by_cases e : i = j
    · subst e; left; simp [hsz, hlt]
    · rcases hR.all j hj with h1 | ⟨p, hp, hpj⟩
      · left; exact getD_set_true h1
      · right
        refine ⟨p, ?_, hpj⟩
        rcases List.mem_append.1 hp with hp | hp
        · exact List.mem_append_left _ hp
        · rcases List.mem_cons.1 hp with rfl | hp
          · exact absurd hpj e
          · exact List.mem_append_right _ hp
  · obtain ⟨p1, p2, p3⟩ := List.pairwise_append.1 hR.pairs
    exact List.pairwise_append.2 ⟨p1, (List.pairwise_cons.1 p2).2, fun x hx y hy => p3 x hx y (List.mem_cons_of_mem _ hy)⟩
  · by_cases e' : i = j
    · subst e'; exact getD_set_true (hw e he)
    · rw [getD_set_ne false e'] at hj
      exact getD_set_true (hR.closed j e hj he)

theorem wpL_ready {X : Nat → Prop} (hD : D = some X) (hops : opsOk ops) {pre post : List (Nat × Bool)} {i : Nat} {f : Bool} (hlt : i < ops.size) (hin : ∀ q ∈ pre, q.1 < ops.size) (hpre : ∀ q ∈ pre, q.2 = true ∧ apartAt ops q.1 i = true)
    {a : Act} {w : World} (h : wpL P ops D Q (theOps ops (pre ++ (i, f) :: post)) a w) : wpL P ops D Q ((f, ops.getD i default) :: theOps ops (pre ++ post)) a w := by
  have hth : theOps ops (pre ++ (i, f) :: post) = theOps ops pre ++ (f, ops.getD i default) :: theOps ops post := by simp [theOps]
  rw [hth] at h
  have hfront := wpL_front hD (x := (f, ops.getD i default)) (hops.nos i hlt) (theOps ops pre) (theOps ops post) a w (fun p hp => by
    obtain ⟨q, hq, rfl⟩ := List.mem_map.1 hp
    have hql := hin q hq
    refine ⟨(hpre q hq).1, ?_, hops.nos q.1 hql⟩
    have := (hpre q hq).2
    simpa [apartAt, hql, hlt] using this) h
  simpa [theOps] using hfront

theorem wpAny_of_wpL {X : Nat → Prop} (hD : D = some X) {T : List (Nat × List (Nat × Nat))} (hT : ∀ x ∈ T, chainOk ops x.1 x.2 [] = true) (hops : opsOk ops) :
    ∀ (fuel : Nat) (listed : Array Bool) (c : List (Nat × Bool)) (a : Act) (w : World), fuel = c.length → listed.size = ops.size → Rem ops T listed c → wpL P ops D Q (theOps ops c) a w → wpAny P .any ops Q fuel listed a w := by
  intro fuel
  induction fuel with
  | zero =>
    intro listed c a w hl hsz hR h
    have hc : c = [] := List.eq_nil_of_length_eq_zero hl.symm
    subst hc
    refine ⟨?_, h⟩
    cases hr : Region.ready .any ops listed with
    | nil => rfl
    | cons i r =>
      exfalso
      obtain ⟨p, hp, _⟩ := hR.mem (i := i) (by rw [hr]; exact List.mem_cons_self ..)
      cases hp
  | succ fuel ih =>
    intro listed c a w hl hsz hR h
    refine ⟨fun hr => ?_, fun i hi => ?_⟩
    · exfalso
      cases c with
      | nil => simp at hl
      | cons p c => exact hR.some_ready hops hr
    · obtain ⟨p, hp, rfl⟩ := hR.mem hi
      obtain ⟨pre, post, rfl⟩ := List.append_of_mem hp
      obtain ⟨i, f⟩ := p
      have hlt := (ready_waits hi).2.1
      have hfront := wpL_ready hD hops hlt (fun q hq => (hR.un q (List.mem_append_left _ hq)).1) (hR.before hT hi) h
      have hop := wpL_wpOp (i := i) (by simp [hlt]) hfront
      exact wpOp_mono (fun a' w' h' => ih _ (pre ++ post) a' w' (by simp at hl ⊢; omega) (by simpa using hsz) (hR.step hsz hi) h'.2) hop

/-! ## Two phases: what floats in the first one is done before anything of the second one that changes the world -/

def isMove (o : Oper) : Bool := match o.op with | .move _ => true | _ => false

theorem isMove_run {o : Oper} (h : isMove o = true) (env : Operand → Value) : ∃ v, ∀ w, (execOp env o).run P w = .ok (.value v) w := by
  unfold isMove at h
  split at h
  · rename_i x hx
    exact ⟨env x, fun w => by simp [execOp, hx]⟩
  · cases h

def ph (P : Program) (ops : Array Oper) (D : Option (Nat → Prop)) (Q : Exit → Act → World → Prop) (l : List (Bool × Oper)) : Exit → Act → World → Prop
  | .normal, a, w => wpL P ops D Q l a w
  | e, a, w => Q e a w

theorem wpL_moves {D1 D2 : Option (Nat → Prop)} {l2 : List (Bool × Oper)} : ∀ (l1 : List (Bool × Oper)) (a : Act) (w : World), (∀ p ∈ l1, p.1 = true ∧ isMove p.2 = true) → wpL P ops D1 (ph P ops D2 Q l2) l1 a w → wpL P ops D2 Q (l1 ++ l2) a w
  | [], _, _, _, h => h
  | (f, o) :: rest, a, w, hm, h => by
    obtain ⟨rfl, hmo⟩ : f = true ∧ isMove o = true := hm (f, o) (List.mem_cons_self ..)
    have ih := fun a w => wpL_moves (D1 := D1) (D2 := D2) (l2 := l2) rest a w (fun p hp => hm p (List.mem_cons_of_mem _ hp))
    simp only [List.cons_append, wpL] at h ⊢
    split
    · rename_i hw
      simp only [hw, if_true] at h
      obtain ⟨v, hv, hr⟩ := h
      obtain ⟨u, hu⟩ := isMove_run (P := P) hmo a.eval
      obtain rfl : u = v := by
        have h1 := hv.1
        rw [hu w] at h1
        cases h1; rfl
      exact ⟨u, Flo.of_all hu w, ih _ _ hr⟩
    · rename_i hw
      simp only [hw] at h
      exact ih _ _ h

theorem wpL_wpOp2 {Q' : Exit → Act → World → Prop} (hq : ∀ a w, Q' .outgrown a w → Q .outgrown a w) {i : Nat} {o : Oper} (hi : ops[i]? = some o) {f : Bool} {rest : List (Bool × Oper)} {a : Act} {w : World}
    (h : wpL P ops D Q' ((f, o) :: rest) a w) : wpOp P ops Q i (fun a' w' => Sta D w w' ∧ wpL P ops D Q' rest a' w') a w := by
  unfold Go.wpOp
  simp only [hi]
  simp only [wpL] at h
  by_cases hw : Region.wanted o (yielded ops a.tmps) = true
  · simp only [hw, if_true] at h ⊢
    cases f with
    | true =>
      obtain ⟨v, hf, hr⟩ := h
      refine .inl ?_
      unfold Oper.wp
      rw [hf.1]
      exact ⟨Sta.refl _ _, hr⟩
    | false => exact h.imp (Oper.wp_monoQ (fun _ _ h => h) (fun e a w he => by
        cases e <;> first | exact hq _ _ he | exact (he : False).elim)) (fun h => ⟨h.1, h.2.imp fun a h => h.imp fun w h => hq a w h⟩)
  · simp only [hw] at h ⊢
    exact ⟨Sta.refl _ _, h⟩

def moveAt (ops : Array Oper) (p : Nat × Bool) : Bool := p.2 && isMove (ops.getD p.1 default)

theorem wpAny_of_ph {X1 X2 : Nat → Prop} {T : List (Nat × List (Nat × Nat))} (hT : ∀ x ∈ T, chainOk ops x.1 x.2 [] = true) (hops : opsOk ops) :
    ∀ (fuel : Nat) (listed : Array Bool) (c1 c2 : List (Nat × Bool)) (a : Act) (w : World), fuel = (c1 ++ c2).length → listed.size = ops.size → Rem ops T listed (c1 ++ c2) →
      (∀ p ∈ c1, ∀ q ∈ c2, moveAt ops p = true ∨ tabHas T p.1 q.1 = true) → wpL P ops (some X1) (ph P ops (some X2) Q (theOps ops c2)) (theOps ops c1) a w → wpAny P .any ops Q fuel listed a w := by
  intro fuel
  have fin : ∀ (fuel : Nat) (listed : Array Bool) (c1 c2 : List (Nat × Bool)) (a : Act) (w : World), fuel = (c1 ++ c2).length → listed.size = ops.size → Rem ops T listed (c1 ++ c2) →
      (∀ p ∈ c1, moveAt ops p = true) → wpL P ops (some X1) (ph P ops (some X2) Q (theOps ops c2)) (theOps ops c1) a w → wpAny P .any ops Q fuel listed a w := by
    intro fuel listed c1 c2 a w hl hsz hR hall h
    refine wpAny_of_wpL (X := X2) rfl hT hops fuel listed (c1 ++ c2) a w hl hsz hR ?_
    have : theOps ops (c1 ++ c2) = theOps ops c1 ++ theOps ops c2 := by simp [theOps]
    rw [this]
    refine wpL_moves _ _ _ (fun p hp => ?_) h
    obtain ⟨q, hq, rfl⟩ := List.mem_map.1 hp
    have := hall q hq
    simp only [moveAt, Bool.and_eq_true] at this
    exact this
  induction fuel with
  | zero =>
    intro listed c1 c2 a w hl hsz hR hx h
    refine fin 0 listed c1 c2 a w hl hsz hR (fun p hp => ?_) h
    have : c1 = [] := List.eq_nil_of_length_eq_zero (by rw [List.length_append] at hl; omega)
    subst this; cases hp
  | succ fuel ih =>
    intro listed c1 c2 a w hl hsz hR hx h
    by_cases hall : ∀ p ∈ c1, moveAt ops p = true
    · exact fin _ listed c1 c2 a w hl hsz hR hall h
    · obtain ⟨r, hr1, hr2⟩ : ∃ r, r ∈ c1 ∧ ¬ moveAt ops r = true := by
        apply Classical.byContradiction
        intro hn
        exact hall fun p hp => Classical.byContradiction fun h => hn ⟨p, hp, h⟩
      have hrun : listed.getD r.1 false = false := getD_false_of_true (hR.un r (List.mem_append_left _ hr1)).2.1
      refine ⟨fun hr => ?_, fun i hi => ?_⟩
      · exfalso
        cases c1 with
        | nil => cases hr1
        | cons p c => exact hR.some_ready hops hr
      · obtain ⟨p, hp, rfl⟩ := hR.mem hi
        have hp1 : p ∈ c1 := by
          rcases List.mem_append.1 hp with hp | hp
          · exact hp
          · exfalso
            have := tabHas_listed hT hR.closed hi ((hx r hr1 p hp).resolve_left hr2)
            rw [hrun] at this; cases this
        obtain ⟨pre, post, rfl⟩ := List.append_of_mem hp1
        obtain ⟨i, f⟩ := p
        have hlt := (ready_waits hi).2.1
        have hR' : Rem ops T listed (pre ++ (i, f) :: (post ++ c2)) := by simpa using hR
        have hfront := wpL_ready rfl hops hlt (fun q hq => (hR'.un q (List.mem_append_left _ hq)).1) (hR'.before hT hi) h
        have hop := wpL_wpOp2 (ops := ops) (Q := Q) (Q' := ph P ops (some X2) Q (theOps ops c2)) (fun _ _ h => h) (i := i) (o := ops.getD i default) (by simp [hlt]) hfront
        refine wpOp_mono (fun a' w' h' => ih _ (pre ++ post) c2 a' w' (by simp only [List.length_append, List.length_cons] at hl ⊢; omega) (by simpa using hsz) (by have := hR'.step hsz hi; simpa using this) (fun p hp q hq => hx p ?_ q hq) h'.2) hop
        rcases List.mem_append.1 hp with hp | hp
        · exact List.mem_append_left _ hp
        · exact List.mem_append_right _ (List.mem_cons_of_mem _ hp)

def crossOk (ops : Array Oper) (c1 c2 : List (Nat × Bool)) (T : List (Nat × List (Nat × Nat))) : Bool :=
  c1.all fun p => c2.all fun q => moveAt ops p || tabHas T p.1 q.1

theorem canonOk_spec {c : List (Nat × Bool)} {T : List (Nat × List (Nat × Nat))} (hc : canonOk ops c T = true) :
    (∀ x ∈ T, chainOk ops x.1 x.2 [] = true) ∧ opsOk ops ∧ c.length = ops.size ∧ Rem ops T (Array.replicate ops.size false) c := by
  simp only [canonOk, Bool.and_eq_true, List.all_eq_true] at hc
  obtain ⟨⟨⟨⟨⟨h1, h2⟩, h3⟩, h4⟩, h5⟩, h6⟩ := hc
  have hlen := Nat.eq_of_beq_eq_true h2
  have hpw := pairsOk_spec h3
  have hin : ∀ p ∈ c, p.1 < ops.size := fun p hp => by have := (h1 p hp).1; simpa using this
  refine ⟨h4, fun o ho => ⟨(h5 o ho).1, fun e he hb => ?_⟩, hlen, ?_⟩
  · have := (h5 o ho).2
    have := Array.all_eq_true_iff_forall_mem.1 this e he
    simpa [hb] using this
  · refine ⟨fun p hp => ⟨hin p hp, by simp [hin p hp], by have := (h1 p hp).2; simpa using this⟩, fun i hi => .inr ?_, hpw, fun j e hj => ?_⟩
    · obtain ⟨p, hp, he⟩ := List.any_eq_true.1 (h6 i (List.mem_range.2 hi))
      exact ⟨p, hp, Nat.eq_of_beq_eq_true he⟩
    · exfalso
      rcases Nat.lt_or_ge j ops.size with h' | h' <;> simp [h'] at hj

/-- **A region that draws its order**: in a canonical order c (floating operations: true), under a closed check. T: for each that does not float, which operations hang on it, and by which of their own edges. -/
theorem wp_drawn {id : Nat} {ops : Array Oper} {a : Act} {w : World} (hm : P.follows .mixedOrders = true) (X : Nat → Prop) (c : List (Nat × Bool)) (T : List (Nat × List (Nat × Nat)))
    (hc : canonOk ops c T = true) {l : List (Bool × Oper)} (hl : theOps ops c = l) (h : wpL P ops (some X) Q l a { w with drawn := w.drawn + 1 }) : (Code.region id ops true).wp P Q a w := by
  subst hl
  obtain ⟨h4, hops, hlen, hR⟩ := canonOk_spec hc
  exact wp_region_any hm (wpAny_of_wpL rfl h4 hops ops.size _ c a _ hlen.symm (by simp) hR h)

/-- The same in two phases. -/
theorem wp_drawn2 {id : Nat} {ops : Array Oper} {a : Act} {w : World} (hm : P.follows .mixedOrders = true) (X1 X2 : Nat → Prop) (c1 c2 : List (Nat × Bool)) (T : List (Nat × List (Nat × Nat)))
    (hc : canonOk ops (c1 ++ c2) T = true) (hx : crossOk ops c1 c2 T = true) {l1 l2 : List (Bool × Oper)} (hl1 : theOps ops c1 = l1) (hl2 : theOps ops c2 = l2) (h : wpL P ops (some X1) (ph P ops (some X2) Q l2) l1 a { w with drawn := w.drawn + 1 }) :
    (Code.region id ops true).wp P Q a w := by
  subst hl1 hl2
  obtain ⟨h4, hops, hlen, hR⟩ := canonOk_spec hc
  refine wp_region_any hm (wpAny_of_ph h4 hops ops.size _ c1 c2 a _ hlen.symm (by simp) hR (fun p hp q hq => ?_) h)
  have := List.all_eq_true.1 (List.all_eq_true.1 hx p hp) q hq
  simpa using this

end Go.Kx
/- Own library, part B2: a region that draws its order, of which two operations that do not float have no order. -/
namespace Go.Kx
open Go
variable {P : Program} {ops : Array Oper} {D : Option (Nat → Prop)} {Q : Exit → Act → World → Prop}

theorem wpL_float {X : Nat → Prop} {Q' : Exit → Act → World → Prop} {i : Nat} (hlt : i < ops.size) {c1 c2 : List (Bool × Oper)} {a : Act} {w : World}
    (h1 : wpL P ops (some X) Q' ((true, ops.getD i default) :: c1) a w) (h2 : wpL P ops (some X) Q' ((true, ops.getD i default) :: c2) a w) :
    wpOp P ops Q i (fun a' w' => wpL P ops (some X) Q' c1 a' w' ∧ wpL P ops (some X) Q' c2 a' w') a w := by
  unfold Go.wpOp
  have hi : ops[i]? = some (ops.getD i default) := by simp [hlt]
  simp only [hi]
  simp only [wpL] at h1 h2
  by_cases hw : Region.wanted (ops.getD i default) (yielded ops a.tmps) = true
  · simp only [hw, if_true] at h1 h2 ⊢
    obtain ⟨v, hv, r1⟩ := h1
    obtain ⟨u, hu, r2⟩ := h2
    have e : u = v := by
      have := hu.1
      rw [hv.1] at this
      cases this; rfl
    subst e
    refine .inl ?_
    unfold Oper.wp
    rw [hv.1]
    exact ⟨r1, r2⟩
  · simp only [hw] at h1 h2 ⊢
    exact ⟨h1, h2⟩

structure Fork (ops : Array Oper) (T : List (Nat × List (Nat × Nat))) (listed : Array Bool) (pre : List (Nat × Bool)) (x y : Nat × Bool) (rest : List (Nat × Bool)) : Prop where
  un : ∀ p ∈ pre ++ x :: y :: rest, p.1 < ops.size ∧ listed.getD p.1 true = false ∧ waits ops p.1 p.1 = false
  all : ∀ i, i < ops.size → listed.getD i false = true ∨ ∃ p ∈ pre ++ x :: y :: rest, p.1 = i
  px : (pre ++ x :: rest).Pairwise (fun p q => pairOk ops T p q = true ∧ p.1 ≠ q.1)
  py : (pre ++ y :: rest).Pairwise (fun p q => pairOk ops T p q = true ∧ p.1 ≠ q.1)
  xy : waits ops x.1 y.1 = false ∧ waits ops y.1 x.1 = false ∧ x.1 ≠ y.1
  fl : ∀ p ∈ pre, p.2 = true
  back : x.2 = false ∧ y.2 = false
  closed : ∀ j e, listed.getD j false = true → waits ops j e = true → listed.getD e false = true

theorem wpAny_of_fork {X1 X2 : Nat → Prop} {T : List (Nat × List (Nat × Nat))} (hT : ∀ x ∈ T, chainOk ops x.1 x.2 [] = true) (hops : opsOk ops) {x y : Nat × Bool} {post c2 : List (Nat × Bool)} :
    ∀ (fuel : Nat) (listed : Array Bool) (pre : List (Nat × Bool)) (a : Act) (w : World), fuel = (pre ++ x :: y :: (post ++ c2)).length → listed.size = ops.size → Fork ops T listed pre x y (post ++ c2) →
      (∀ p ∈ pre ++ x :: y :: post, ∀ q ∈ c2, moveAt ops p = true ∨ tabHas T p.1 q.1 = true) →
      wpL P ops (some X1) (ph P ops (some X2) Q (theOps ops c2)) (theOps ops (pre ++ x :: y :: post)) a w → wpL P ops (some X1) (ph P ops (some X2) Q (theOps ops c2)) (theOps ops (pre ++ y :: x :: post)) a w →
      wpAny P .any ops Q fuel listed a w := by
  intro fuel
  induction fuel with
  | zero => intro listed pre a w hl; simp at hl
  | succ fuel ih =>
    intro listed pre a w hl hsz hF hx h1 h2
    -- after x (or y) is listed, one order is left
    have one : ∀ (x y : Nat × Bool), (∀ p ∈ pre ++ x :: y :: (post ++ c2), p.1 < ops.size ∧ listed.getD p.1 true = false ∧ waits ops p.1 p.1 = false) →
        (∀ i, i < ops.size → listed.getD i false = true ∨ ∃ p ∈ pre ++ x :: y :: (post ++ c2), p.1 = i) →
        (pre ++ x :: (post ++ c2)).Pairwise (fun p q => pairOk ops T p q = true ∧ p.1 ≠ q.1) → (pre ++ y :: (post ++ c2)).Pairwise (fun p q => pairOk ops T p q = true ∧ p.1 ≠ q.1) → x.1 ≠ y.1 →
        (∀ p ∈ pre ++ x :: y :: post, ∀ q ∈ c2, moveAt ops p = true ∨ tabHas T p.1 q.1 = true) → x.1 ∈ Region.ready .any ops listed →
        wpL P ops (some X1) (ph P ops (some X2) Q (theOps ops c2)) (theOps ops (pre ++ x :: y :: post)) a w → fuel + 1 = (pre ++ x :: y :: (post ++ c2)).length →
        wpOp P ops Q x.1 (wpAny P .any ops Q fuel (listed.setIfInBounds x.1 true)) a w := by
      intro x y un all px py ne hx hi h hl
      obtain ⟨i, f⟩ := x
      obtain ⟨h0, hlt, hw⟩ := ready_waits hi
      have hpre : ∀ q ∈ pre, q.2 = true ∧ apartAt ops q.1 i = true := by
        intro q hq
        have hpw := (List.pairwise_append.1 px).2.2 q hq (i, f) (List.mem_cons_self ..)
        have hun : listed.getD q.1 false = false := getD_false_of_true (un q (List.mem_append_left _ hq)).2.1
        have hfl := hF.fl q hq
        obtain ⟨hpair, _⟩ := hpw
        simp only [pairOk, Bool.and_eq_true, hfl, Bool.or_eq_true] at hpair
        refine ⟨hfl, ?_⟩
        rcases hpair.2 with (h | h) | h
        · have := hw _ h
          rw [hun] at this; cases this
        · have := tabHas_listed hT hF.closed hi h
          rw [hun] at this; cases this
        · exact h
      have hfront := wpL_ready (post := y :: post) rfl hops hlt (fun q hq => (un q (List.mem_append_left _ hq)).1) hpre h
      have hop := wpL_wpOp2 (ops := ops) (Q := Q) (Q' := ph P ops (some X2) Q (theOps ops c2)) (fun _ _ h => h) (i := i) (o := ops.getD i default) (by simp [hlt]) hfront
      have hne : ∀ p ∈ pre ++ y :: (post ++ c2), p.1 ≠ i := fun p hp e => by
        rcases List.mem_append.1 hp with hp | hp
        · exact ((List.pairwise_append.1 px).2.2 p hp (i, f) (List.mem_cons_self ..)).2 e
        · rcases List.mem_cons.1 hp with rfl | hp
          · exact ne e.symm
          · exact ((List.pairwise_cons.1 (List.pairwise_append.1 px).2.1).1 p hp).2 e.symm
      have hR : Rem ops T (listed.setIfInBounds i true) ((pre ++ y :: post) ++ c2) := by
        have e : (pre ++ y :: post) ++ c2 = pre ++ y :: (post ++ c2) := by simp
        rw [e]
        have hm : ∀ p ∈ pre ++ y :: (post ++ c2), p ∈ pre ++ (i, f) :: y :: (post ++ c2) := fun p hp => by
          rcases List.mem_append.1 hp with hp | hp
          · exact List.mem_append_left _ hp
          · exact List.mem_append_right _ (List.mem_cons_of_mem _ hp)
        refine ⟨fun p hp => ⟨(un p (hm p hp)).1, ?_, (un p (hm p hp)).2.2⟩, fun j hj => ?_, py, fun j e hj he => ?_⟩
        · rw [getD_set_ne true (Ne.symm (hne p hp))]
          exact (un p (hm p hp)).2.1
        · by_cases e : i = j
          · subst e; left; simp [hsz, hlt]
          · rcases all j hj with h1 | ⟨p, hp, hpj⟩
            · left; exact getD_set_true h1
            · right
              refine ⟨p, ?_, hpj⟩
              rcases List.mem_append.1 hp with hp | hp
              · exact List.mem_append_left _ hp
              · rcases List.mem_cons.1 hp with rfl | hp
                · exact absurd hpj e
                · exact List.mem_append_right _ hp
        · by_cases e' : i = j
          · subst e'; exact getD_set_true (hw e he)
          · rw [getD_set_ne false e'] at hj
            exact getD_set_true (hF.closed j e hj he)
      refine wpOp_mono (fun a' w' h' => wpAny_of_ph hT hops fuel _ (pre ++ y :: post) c2 a' w' (by simp only [List.length_append, List.length_cons] at hl ⊢; omega) (by simpa using hsz) hR (fun p hp q hq => hx p ?_ q hq) h'.2) hop
      rcases List.mem_append.1 hp with hp | hp
      · exact List.mem_append_left _ hp
      · exact List.mem_append_right _ (List.mem_cons_of_mem _ hp)
    have hxr : listed.getD x.1 false = false := getD_false_of_true (hF.un x (by simp)).2.1
    refine ⟨fun hr => ?_, fun i hi => ?_⟩
    · exfalso
      -- the first of pre, or x, is ready
      have key : ∀ p : Nat × Bool, p ∈ pre ++ x :: y :: (post ++ c2) → (∀ q ∈ pre ++ x :: y :: (post ++ c2), waits ops p.1 q.1 = false) → False := by
        intro p hp hq
        have hp' := hF.un p hp
        have : p.1 ∈ Region.ready .any ops listed := by
          rw [mem_ready]
          refine ⟨hp'.2.1, ops.getD p.1 default, by simp [hp'.1], fun e he hb => ?_⟩
          have hwt : waits ops p.1 e.on = true := waits_spec.2 ⟨_, by simp [hp'.1], e, he, rfl, hb⟩
          have hlt := (hops (ops.getD p.1 default) (by simp [hp'.1])).2 e he hb
          rcases hF.all e.on hlt with h1 | ⟨q, hq', hqe⟩
          · exact h1
          · exfalso
            have := hq q hq'
            rw [hqe, hwt] at this; cases this
        rw [hr] at this; cases this
      have nw : ∀ {p q : Nat × Bool}, pairOk ops T p q = true → waits ops p.1 q.1 = false := fun h => by
        simp only [pairOk, Bool.and_eq_true, Bool.not_eq_true'] at h; exact h.1
      cases pre with
      | nil =>
        refine key x (by simp) fun q hq => ?_
        rcases List.mem_cons.1 hq with rfl | hq
        · exact (hF.un q (by simp)).2.2
        · rcases List.mem_cons.1 hq with rfl | hq
          · exact hF.xy.1
          · exact nw ((List.pairwise_cons.1 hF.px).1 q hq).1
      | cons p pre =>
        refine key p (by simp) fun q hq => ?_
        rcases List.mem_cons.1 hq with rfl | hq
        · exact (hF.un q (by simp)).2.2
        · rcases List.mem_append.1 hq with hq | hq
          · exact nw ((List.pairwise_cons.1 hF.px).1 q (List.mem_append_left _ hq)).1
          · rcases List.mem_cons.1 hq with rfl | hq
            · exact nw ((List.pairwise_cons.1 hF.px).1 q (List.mem_append_right _ (List.mem_cons_self ..))).1
            · rcases List.mem_cons.1 hq with rfl | hq
              · exact nw ((List.pairwise_cons.1 hF.py).1 q (List.mem_append_right _ (List.mem_cons_self ..))).1
              · exact nw ((List.pairwise_cons.1 hF.px).1 q (List.mem_append_right _ (List.mem_cons_of_mem _ hq))).1
    · obtain ⟨h0, hlt, hw⟩ := ready_waits hi
      obtain ⟨p, hp, rfl⟩ : ∃ p ∈ pre ++ x :: y :: (post ++ c2), p.1 = i := (hF.all i hlt).resolve_left (by rw [getD_false_of_true h0]; simp)
      rcases List.mem_append.1 hp with hp | hp
      · -- a float
        obtain ⟨p1, p2, rfl⟩ := List.append_of_mem hp
        obtain ⟨i, f⟩ := p
        obtain rfl : f = true := hF.fl (i, f) (by simp)
        have hpre : ∀ q ∈ p1, q.2 = true ∧ apartAt ops q.1 i = true := by
          intro q hq
          have hpw := (List.pairwise_append.1 (List.pairwise_append.1 hF.px).1).2.2 q hq (i, true) (List.mem_cons_self ..)
          have hun : listed.getD q.1 false = false := getD_false_of_true (hF.un q (by simp [hq])).2.1
          have hfl := hF.fl q (by simp [hq])
          obtain ⟨hpair, _⟩ := hpw
          simp only [pairOk, Bool.and_eq_true, hfl, Bool.or_eq_true] at hpair
          refine ⟨hfl, ?_⟩
          rcases hpair.2 with (h | h) | h
          · have := hw _ h
            rw [hun] at this; cases this
          · have := tabHas_listed hT hF.closed hi h
            rw [hun] at this; cases this
          · exact h
        have e1 : ∀ t : List (Nat × Bool), p1 ++ (i, true) :: p2 ++ t = p1 ++ (i, true) :: (p2 ++ t) := fun t => by simp
        rw [e1] at h1 h2
        have f1 := wpL_ready rfl hops hlt (fun q hq => (hF.un q (by simp [hq])).1) hpre h1
        have f2 := wpL_ready rfl hops hlt (fun q hq => (hF.un q (by simp [hq])).1) hpre h2
        have hsub : ∀ t : List (Nat × Bool), (p1 ++ p2 ++ t).Sublist (p1 ++ (i, true) :: p2 ++ t) := fun t => by
          refine List.Sublist.append ?_ (List.Sublist.refl _)
          exact List.Sublist.append (List.Sublist.refl _) (List.sublist_cons_self ..)
        refine wpOp_mono (fun a' w' h' => ih _ (p1 ++ p2) a' w' (by simp at hl ⊢; omega) (by simpa using hsz) ?_ (fun p hp q hq => hx p ?_ q hq) (by simpa using h'.1) (by simpa using h'.2)) (wpL_float (Q := Q) hlt f1 f2)
        · have hne : ∀ p ∈ p1 ++ p2 ++ x :: y :: (post ++ c2), p.1 ≠ i := fun p hp e => by
            rcases List.mem_append.1 hp with hp | hp
            · rcases List.mem_append.1 hp with hp | hp
              · exact ((List.pairwise_append.1 (List.pairwise_append.1 hF.px).1).2.2 p hp (i, true) (List.mem_cons_self ..)).2 e
              · exact ((List.pairwise_cons.1 (List.pairwise_append.1 (List.pairwise_append.1 hF.px).1).2.1).1 p hp).2 e.symm
            · have hi' : (i, true) ∈ p1 ++ (i, true) :: p2 := by simp
              rcases List.mem_cons.1 hp with rfl | hp
              · exact ((List.pairwise_append.1 hF.px).2.2 (i, true) hi' p (List.mem_cons_self ..)).2 e.symm
              · rcases List.mem_cons.1 hp with rfl | hp
                · exact ((List.pairwise_append.1 hF.py).2.2 (i, true) hi' p (List.mem_cons_self ..)).2 e.symm
                · exact ((List.pairwise_append.1 hF.px).2.2 (i, true) hi' p (List.mem_cons_of_mem _ hp)).2 e.symm
          refine ⟨fun p hp => ?_, fun j hj => ?_, hF.px.sublist (hsub _), hF.py.sublist (hsub _), hF.xy, fun p hp => hF.fl p ?_, hF.back, fun j e hj he => ?_⟩
          · have hm := (hsub (x :: y :: (post ++ c2))).subset hp
            refine ⟨(hF.un p hm).1, ?_, (hF.un p hm).2.2⟩
            rw [getD_set_ne true (Ne.symm (hne p hp))]
            exact (hF.un p hm).2.1
          · by_cases e : i = j
            · subst e; left; simp [hsz, hlt]
            · rcases hF.all j hj with h1 | ⟨p, hp, hpj⟩
              · left; exact getD_set_true h1
              · right
                refine ⟨p, ?_, hpj⟩
                simp only [List.mem_append, List.mem_cons] at hp ⊢
                rcases hp with (hp | rfl | hp) | hp
                · exact .inl (.inl hp)
                · exact absurd hpj e
                · exact .inl (.inr hp)
                · exact .inr hp
          · rcases List.mem_append.1 hp with hp | hp <;> simp [hp]
          · by_cases e' : i = j
            · subst e'; exact getD_set_true (hw e he)
            · rw [getD_set_ne false e'] at hj
              exact getD_set_true (hF.closed j e hj he)
        · exact (hsub (x :: y :: post)).subset hp
      · rcases List.mem_cons.1 hp with rfl | hp
        · exact one p y hF.un hF.all hF.px hF.py hF.xy.2.2 hx hi h1 hl
        · rcases List.mem_cons.1 hp with rfl | hp
          · have sw : ∀ (t : List (Nat × Bool)) (q : Nat × Bool), q ∈ pre ++ p :: x :: t ↔ q ∈ pre ++ x :: p :: t := fun t q => by
              simp only [List.mem_append, List.mem_cons]
              constructor <;> rintro (h | h | h | h) <;> simp [h]
            refine one p x (fun q hq => hF.un q ((sw _ q).1 hq)) (fun i hi => (hF.all i hi).imp id fun ⟨q, hq, e⟩ => ⟨q, (sw _ q).2 hq, e⟩) hF.py hF.px hF.xy.2.2.symm (fun q hq => hx q ((sw _ q).1 hq)) hi h2 ?_
            simp only [List.length_append, List.length_cons] at hl ⊢; omega
          · exfalso
            have hpw := (List.pairwise_cons.1 (List.pairwise_append.1 hF.px).2.1).1 p hp
            have hp2 := hpw.1
            simp only [pairOk, Bool.and_eq_true, hF.back.1] at hp2
            have := tabHas_listed hT hF.closed hi hp2.2
            rw [hxr] at this; cases this

/-- The closed check of a region in which two operations that do not float have no order. -/
def forkOk (ops : Array Oper) (pre : List (Nat × Bool)) (x y : Nat × Bool) (post c2 : List (Nat × Bool)) (T : List (Nat × List (Nat × Nat))) : Bool :=
  let c := pre ++ x :: y :: (post ++ c2)
  c.all (fun p => Nat.blt p.1 ops.size && !(waits ops p.1 p.1)) && Nat.beq c.length ops.size && pairsOk (pairOk ops T) (pre ++ x :: (post ++ c2)) && pairsOk (pairOk ops T) (pre ++ y :: (post ++ c2)) &&
  T.all (fun x => chainOk ops x.1 x.2 []) && ops.toList.all (fun o => noSel o && o.after.all fun e => Nat.blt e.on ops.size || !Region.binds .any e) &&
  (List.range ops.size).all (fun i => c.any fun p => Nat.beq p.1 i) && (!(waits ops x.1 y.1) && !(waits ops y.1 x.1) && !(Nat.beq x.1 y.1)) && pre.all (fun p => p.2) && (!x.2 && !y.2)

theorem wp_fork {id : Nat} {ops : Array Oper} {a : Act} {w : World} (hm : P.follows .mixedOrders = true) (X1 X2 : Nat → Prop) (pre : List (Nat × Bool)) (x y : Nat × Bool) (post c2 : List (Nat × Bool)) (T : List (Nat × List (Nat × Nat)))
    (hc : forkOk ops pre x y post c2 T = true) (hx : crossOk ops (pre ++ x :: y :: post) c2 T = true) {l1 l1' l2 : List (Bool × Oper)} (hl1 : theOps ops (pre ++ x :: y :: post) = l1) (hl1' : theOps ops (pre ++ y :: x :: post) = l1') (hl2 : theOps ops c2 = l2)
    (h : wpL P ops (some X1) (ph P ops (some X2) Q l2) l1 a { w with drawn := w.drawn + 1 }) (h' : wpL P ops (some X1) (ph P ops (some X2) Q l2) l1' a { w with drawn := w.drawn + 1 }) :
    (Code.region id ops true).wp P Q a w := by
  subst hl1 hl1' hl2
  simp only [forkOk, Bool.and_eq_true, List.all_eq_true] at hc
  obtain ⟨⟨⟨⟨⟨⟨⟨⟨⟨k1, k2⟩, k3⟩, k4⟩, k5⟩, k6⟩, k7⟩, k8⟩, k9⟩, k10⟩ := hc
  have hlen := Nat.eq_of_beq_eq_true k2
  have hin : ∀ p ∈ pre ++ x :: y :: (post ++ c2), p.1 < ops.size := fun p hp => by have := (k1 p hp).1; simpa using this
  have hops : opsOk ops := fun o ho => ⟨(k6 o ho).1, fun e he hb => by
    have := (k6 o ho).2
    have := Array.all_eq_true_iff_forall_mem.1 this e he
    simpa [hb] using this⟩
  refine wp_region_any hm (wpAny_of_fork k5 hops ops.size _ pre a _ hlen.symm (by simp) ?_ (fun p hp q hq => ?_) h h')
  · refine ⟨fun p hp => ⟨hin p hp, by simp [hin p hp], by have := (k1 p hp).2; simpa using this⟩, fun i hi => .inr ?_, pairsOk_spec k3, pairsOk_spec k4, ?_, k9, ?_, fun j e hj => ?_⟩
    · obtain ⟨p, hp, he⟩ := List.any_eq_true.1 (k7 i (List.mem_range.2 hi))
      exact ⟨p, hp, Nat.eq_of_beq_eq_true he⟩
    · refine ⟨by simpa using k8.1.1, by simpa using k8.1.2, fun e => ?_⟩
      have := k8.2
      rw [e] at this; simp at this
    · exact ⟨by simpa using k10.1, by simpa using k10.2⟩
    · exfalso
      rcases Nat.lt_or_ge j ops.size with h' | h' <;> simp [h'] at hj
  · have := List.all_eq_true.1 (List.all_eq_true.1 hx p hp) q hq
    simpa using this

end Go.Kx
/- Own library, part C: what is known of memory, as a list of entries that lie apart. -/
namespace Go.Kx
open Go

structure Ent where
  fp : List Nat
  ro : List Nat
  holds : World → Prop
  loc : ∀ w w', holds w → (∀ b, b ∈ fp ∨ b ∈ ro → w'.heap[b]? = w.heap[b]?) → holds w'
  old : ∀ w, holds w → ∀ b, b ∈ fp ∨ b ∈ ro → b < w.heap.size

def Apart (e f : Ent) : Prop := (∀ b, b ∈ e.fp → b ∉ f.fp ∧ b ∉ f.ro) ∧ (∀ b, b ∈ f.fp → b ∉ e.ro)

theorem Apart.symm {e f : Ent} (h : Apart e f) : Apart f e :=
  ⟨fun b hb => ⟨fun h' => (h.1 b h').1 hb, h.2 b hb⟩, fun b hb => (h.1 b hb).2⟩

structure Mem (w0 : World) (M : List Nat) (w : World) (H : List Ent) : Prop where
  os : w.os = w0.os
  tape : w.tape = w0.tape
  output : w.output = w0.output
  size : w0.heap.size ≤ w.heap.size
  frame : ∀ b, b < w0.heap.size → b ∉ M → w.heap[b]? = w0.heap[b]?
  holds : ∀ e, e ∈ H → e.holds w
  new : ∀ e, e ∈ H → ∀ b, b ∈ e.fp → b ∈ M ∨ w0.heap.size ≤ b
  self : ∀ e, e ∈ H → ∀ b, b ∈ e.ro → b ∉ e.fp
  apart : H.Pairwise Apart

variable {w0 w w' : World} {M : List Nat} {H H' : List Ent}

theorem Mem.get (h : Mem w0 M w H) (i : Nat) {e : Ent} (hi : H[i]? = some e) : e.holds w := h.holds e (List.mem_of_getElem? hi)

theorem Mem.sub (h : Mem w0 M w H) (hs : H'.Sublist H) : Mem w0 M w H' :=
  ⟨h.os, h.tape, h.output, h.size, h.frame, fun e he => h.holds e (hs.subset he), fun e he => h.new e (hs.subset he), fun e he => h.self e (hs.subset he), h.apart.sublist hs⟩

/-- These, in this order (each number once). -/
def picks (H : List Ent) : List Nat → Option (List Ent)
  | [] => some []
  | i :: r => match H[i]?, picks H r with
    | some e, some l => some (e :: l)
    | _, _ => none

theorem Mem.nil (h : Mem w0 M w H) : Mem w0 M w [] := h.sub (List.nil_sublist _)

theorem apart_of_get (h : H.Pairwise Apart) {i j : Nat} {e f : Ent} (hi : H[i]? = some e) (hj : H[j]? = some f) (hne : i ≠ j) : Apart e f := by
  obtain ⟨hi', rfl⟩ := List.getElem?_eq_some_iff.1 hi
  obtain ⟨hj', rfl⟩ := List.getElem?_eq_some_iff.1 hj
  rcases Nat.lt_or_gt_of_ne hne with hlt | hlt
  · exact List.pairwise_iff_getElem.1 h i j hi' hj' hlt
  · exact (List.pairwise_iff_getElem.1 h j i hj' hi' hlt).symm

theorem picks_mem : ∀ {ks : List Nat} {l : List Ent}, picks H ks = some l → ∀ e ∈ l, ∃ i ∈ ks, H[i]? = some e
  | [], l, h, e, he => by simp [picks] at h; subst h; cases he
  | i :: r, l, h, e, he => by
    simp only [picks] at h
    cases hi : H[i]? with
    | none => simp [hi] at h
    | some x =>
      cases hr : picks H r with
      | none => simp [hi, hr] at h
      | some l' =>
        simp [hi, hr] at h
        subst h
        rcases List.mem_cons.1 he with rfl | he
        · exact ⟨i, List.mem_cons_self .., hi⟩
        · obtain ⟨j, hj, hje⟩ := picks_mem hr e he
          exact ⟨j, List.mem_cons_of_mem _ hj, hje⟩

def noDup : List Nat → Bool
  | [] => true
  | k :: r => r.all (fun j => !(Nat.beq k j)) && noDup r

theorem picks_apart (hp : H.Pairwise Apart) : ∀ {ks : List Nat} {l : List Ent}, picks H ks = some l → noDup ks = true → l.Pairwise Apart
  | [], l, h, _ => by simp [picks] at h; subst h; exact .nil
  | i :: r, l, h, hd => by
    simp only [picks] at h
    simp only [noDup, Bool.and_eq_true, List.all_eq_true] at hd
    cases hi : H[i]? with
    | none => simp [hi] at h
    | some x =>
      cases hr : picks H r with
      | none => simp [hi, hr] at h
      | some l' =>
        simp [hi, hr] at h
        subst h
        refine .cons (fun e he => ?_) (picks_apart hp hr hd.2)
        obtain ⟨j, hj, hje⟩ := picks_mem hr e he
        refine apart_of_get hp hi hje (fun e' => ?_)
        have := hd.1 j hj
        rw [e'] at this
        simp at this

/-- Entries by their numbers: others are let go. -/
theorem Mem.pick (h : Mem w0 M w H) (ks : List Nat) {l : List Ent} (hl : picks H ks = some l) (hd : noDup ks = true := by rfl) : Mem w0 M w l := by
  have hm : ∀ e, e ∈ l → e ∈ H := fun e he => by
    obtain ⟨i, _, hi⟩ := picks_mem hl e he
    exact List.mem_of_getElem? hi
  exact ⟨h.os, h.tape, h.output, h.size, h.frame, fun e he => h.holds e (hm e he), fun e he => h.new e (hm e he), fun e he => h.self e (hm e he), picks_apart h.apart hl hd⟩

/-- The beginning of a function. -/
theorem Mem.start (w : World) {es : List Ent} (hh : ∀ e, e ∈ es → e.holds w) (hn : ∀ e, e ∈ es → ∀ b, b ∈ e.fp → b ∈ M) (hs : ∀ e, e ∈ es → ∀ b, b ∈ e.ro → b ∉ e.fp) (ha : es.Pairwise Apart) : Mem w M w es :=
  ⟨rfl, rfl, rfl, Nat.le_refl _, fun _ _ _ => rfl, hh, fun e he b hb => .inl (hn e he b hb), hs, ha⟩

theorem Mem.start0 (w : World) : Mem w [] w [] := Mem.start w (fun _ h => by cases h) (fun _ h => by cases h) (fun _ h => by cases h) .nil

/-- Where the blocks that an entry only reads may come from. -/
def RoFrom (es H : List Ent) (w : World) (b : Nat) : Prop := (∃ e, e ∈ es ∧ (b ∈ e.fp ∨ b ∈ e.ro)) ∨ (∃ f, f ∈ H ∧ b ∈ f.ro) ∨ w.heap.size ≤ b

theorem Mem.act {es es' H : List Ent} (hM : Mem w0 M w (es ++ H)) (ho : w'.os = w.os) (ht : w'.tape = w.tape) (hu : w'.output = w.output) (hsz : w.heap.size ≤ w'.heap.size)
    (hfr : ∀ b, b < w.heap.size → (∀ e, e ∈ es → b ∉ e.fp) → w'.heap[b]? = w.heap[b]?)
    (hh : ∀ e, e ∈ es' → e.holds w')
    (hnew : ∀ e, e ∈ es' → ∀ b, b ∈ e.fp → (∃ e0, e0 ∈ es ∧ b ∈ e0.fp) ∨ w.heap.size ≤ b)
    (hro : ∀ e, e ∈ es' → ∀ b, b ∈ e.ro → RoFrom es H w b)
    (hself : ∀ e, e ∈ es' → ∀ b, b ∈ e.ro → b ∉ e.fp)
    (hap : es'.Pairwise Apart) : Mem w0 M w' (es' ++ H) := by
  have hA := List.pairwise_append.1 hM.apart
  have hOld : ∀ f, f ∈ H → ∀ b, b ∈ f.fp ∨ b ∈ f.ro → b < w.heap.size := fun f hf => f.old w (hM.holds f (List.mem_append_right _ hf))
  have hNot : ∀ f, f ∈ H → ∀ b, b ∈ f.fp ∨ b ∈ f.ro → ∀ e, e ∈ es → b ∉ e.fp := fun f hf b hb e he hbe => by
    have := hA.2.2 e he f hf
    rcases hb with hb | hb
    · exact (this.1 b hbe).1 hb
    · exact (this.1 b hbe).2 hb
  refine ⟨ho.trans hM.os, ht.trans hM.tape, hu.trans hM.output, Nat.le_trans hM.size hsz, fun b hb hbm => ?_, fun e he => ?_, fun e he b hb => ?_, fun e he => ?_, ?_⟩
  · rw [hfr b (Nat.lt_of_lt_of_le hb hM.size) (fun e he hbe => ?_)]
    · exact hM.frame b hb hbm
    · rcases hM.new e (List.mem_append_left _ he) b hbe with h | h
      · exact hbm h
      · omega
  · rcases List.mem_append.1 he with he | he
    · exact hh e he
    · refine e.loc w w' (hM.holds e (List.mem_append_right _ he)) fun b hb => ?_
      exact hfr b (hOld e he b hb) (hNot e he b hb)
  · rcases List.mem_append.1 he with he | he
    · rcases hnew e he b hb with ⟨e0, h0, hb0⟩ | h
      · exact hM.new e0 (List.mem_append_left _ h0) b hb0
      · exact .inr (Nat.le_trans hM.size h)
    · exact hM.new e (List.mem_append_right _ he) b hb
  · rcases List.mem_append.1 he with he | he
    · exact hself e he
    · exact hM.self e (List.mem_append_right _ he)
  · refine List.pairwise_append.2 ⟨hap, hA.2.1, fun e he f hf => ⟨fun b hb => ?_, fun b hb hbr => ?_⟩⟩
    · rcases hnew e he b hb with ⟨e0, h0, hb0⟩ | h
      · exact (hA.2.2 e0 h0 f hf).1 b hb0
      · exact ⟨fun h' => by have := hOld f hf b (.inl h'); omega, fun h' => by have := hOld f hf b (.inr h'); omega⟩
    · rcases hro e he b hbr with ⟨e0, h0, hb0⟩ | ⟨g, hg, hbg⟩ | h
      · rcases hb0 with hb0 | hb0
        · exact ((hA.2.2 e0 h0 f hf).1 b hb0).1 hb
        · exact (hA.2.2 e0 h0 f hf).2 b hb hb0
      · by_cases e' : g = f
        · subst e'; exact hM.self g (List.mem_append_right _ hg) b hbg hb
        · have : Apart g f := by
            obtain ⟨i, hi⟩ := List.getElem?_of_mem hg
            obtain ⟨j, hj⟩ := List.getElem?_of_mem hf
            refine apart_of_get hA.2.1 hi hj fun hij => e' ?_
            subst hij; rw [hi] at hj; exact Option.some.inj hj
          exact this.2 b hb hbg
      · have := hOld f hf b (.inl hb); omega

/-- Behind a call: what it was given to turn (es) comes back as N, with what it made. -/
theorem Mem.call {es H N : List Ent} {Mc : List Nat} (hM : Mem w0 M w (es ++ H)) (hN : Mem w Mc w' N) (hMc : ∀ b, b ∈ Mc → ∃ e, e ∈ es ∧ b ∈ e.fp)
    (hro : ∀ e, e ∈ N → ∀ b, b ∈ e.ro → RoFrom es H w b) : Mem w0 M w' (N ++ H) :=
  hM.act hN.os hN.tape hN.output hN.size (fun b hb h => hN.frame b hb (fun hbm => by obtain ⟨e, he, hbe⟩ := hMc b hbm; exact h e he hbe)) hN.holds
    (fun e he b hb => (hN.new e he b hb).imp (hMc b) id) hro hN.self hN.apart

def NoRo : List Ent → Prop
  | [] => True
  | e :: r => e.ro = [] ∧ NoRo r

theorem NoRo.spec : ∀ {N : List Ent}, NoRo N → ∀ e, e ∈ N → ∀ b, b ∉ e.ro
  | [], _, _, he => by cases he
  | f :: r, h, e, he => by
    rcases List.mem_cons.1 he with rfl | he
    · intro b; rw [h.1]; exact List.not_mem_nil
    · exact NoRo.spec h.2 e he

/-- Behind a call that was given nothing to turn, and whose results are all its own. -/
theorem Mem.call0 {N : List Ent} (hM : Mem w0 M w H) (hN : Mem w [] w' N) (hr : NoRo N) : Mem w0 M w' (N ++ H) :=
  Mem.call (es := []) hM hN (fun b hb => by cases hb) (fun e he b hb => absurd hb (hr.spec e he b))

theorem Mem.sta0 (hM : Mem w0 [] w H) (X : Nat → Prop) : Sta (some X) w0 w := ⟨hM.size, fun b hb _ => hM.frame b hb (by simp)⟩

/-! ## Kinds of entries -/

/-- None of the first n cells is frozen. -/
def Fz (fr : Nat × Nat) (n : Nat) : Prop := fr.1 = fr.2 ∨ n ≤ fr.1

theorem Fz.zero (n : Nat) : Fz (0, 0) n := .inl rfl

/-- A block that is known whole: its cells in parts, each of a known length. -/
def blk (b : Nat) (ss : List (List Value)) (ns : List Nat) (T : TypeId) : Ent where
  fp := [b]
  ro := []
  holds w := ss.map List.length = ns ∧ ∃ fr, w.heap[b]? = some (.cells ss.flatten.toArray T fr) ∧ Fz fr ss.flatten.length
  loc w w' h hb := ⟨h.1, h.2.imp fun _ h => ⟨(hb b (.inl (List.mem_cons_self ..))).trans h.1, h.2⟩⟩
  old w h b' hb := by
    simp at hb
    subst hb
    obtain ⟨_, fr, h, _⟩ := h
    exact (Array.getElem?_eq_some_iff.1 h).1

def valBlocks : Value → List Nat
  | .slice (some a) _ _ => [a.block]
  | .pointer (some a) => [a.block]
  | _ => []

/-- The blocks that a slice of that capacity may be read from. -/
def rdB (v : Value) (c : Nat) : List Nat := if c = 0 then [] else valBlocks v

theorem rdB_sub {v : Value} {c x : Nat} (h : x ∈ rdB v c) : x ∈ valBlocks v := by
  unfold rdB at h; split at h
  · cases h
  · exact h

/-- A slice that is read alone: n elements of es cells each, of a capacity c. (One without capacity may have whatever address.) -/
def rd (v : Value) (es n c : Nat) (cs : List Value) : Ent where
  fp := []
  ro := rdB v c
  holds w := cs.length = n * es ∧ ((∃ p, v = .slice p 0 0 ∧ n = 0 ∧ c = 0) ∨
    ∃ b o, v = .slice (some ⟨b, o, none⟩) n c ∧ n ≤ c ∧ b < w.heap.size ∧ ∀ (i : Nat) (x : Value), cs[i]? = some x → w.cell? ⟨b, o + i, none⟩ = some x)
  loc w w' h hb := by
    refine ⟨h.1, ?_⟩
    rcases h.2 with h | ⟨b, o, rfl, h1, h2, h3⟩
    · exact .inl h
    · by_cases hc : c = 0
      · subst hc
        obtain rfl : n = 0 := by omega
        exact .inl ⟨_, rfl, rfl, rfl⟩
      · have hb' : w'.heap[b]? = w.heap[b]? := hb b (.inr (by simp [rdB, hc, valBlocks]))
        refine .inr ⟨b, o, rfl, h1, ?_, fun i x hx => ?_⟩
        · rw [Array.getElem?_eq_getElem h2] at hb'
          exact (Array.getElem?_eq_some_iff.1 hb').1
        · rw [World.cell?_of_block (w := w) hb']; exact h3 i x hx
  old w h b hb := by
    simp only [List.not_mem_nil, false_or] at hb
    have hb := rdB_sub hb
    rcases h.2 with ⟨p, rfl, rfl, rfl⟩ | ⟨b', o, rfl, h1, h2, h3⟩
    · simp [rdB] at *
    · simp [valBlocks] at hb; subst hb; exact h2

/-- A slice from the head of a block that nobody else knows of: what lies behind its length is whatever. -/
def own (v : Value) (es n : Nat) (cs : List Value) : Ent where
  fp := valBlocks v
  ro := []
  holds w := cs.length = n * es ∧ ((v = .slice none 0 0 ∧ n = 0) ∨
    ∃ b cap cur T fr, v = .slice (some ⟨b, 0, none⟩) n cap ∧ n ≤ cap ∧ cap ≤ maxLen ∧ w.heap[b]? = some (.cells cur T fr) ∧ cur.size = cap * es ∧ cur.toList.take (n * es) = cs ∧ Fz fr cur.size)
  loc w w' h hb := by
    refine ⟨h.1, ?_⟩
    rcases h.2 with h | ⟨b, cap, cur, T, fr, rfl, h1, h2, h3, h4⟩
    · exact .inl h
    · exact .inr ⟨b, cap, cur, T, fr, rfl, h1, h2, (hb b (.inl (by simp [valBlocks]))).trans h3, h4⟩
  old w h b hb := by
    simp only [List.not_mem_nil, or_false] at hb
    rcases h.2 with ⟨rfl, _⟩ | ⟨b', cap, cur, T, fr, rfl, h1, h2, h3, h4⟩
    · simp [valBlocks] at hb
    · simp [valBlocks] at hb; subst hb; exact (Array.getElem?_eq_some_iff.1 h3).1

/-- An owned slice is one that may be read. -/
theorem own_rd {v : Value} {es n : Nat} {cs : List Value} (h : (own v es n cs).holds w) : ∃ c, (rd v es n c cs).holds w := by
  obtain ⟨hl, h | ⟨b, cap, cur, T, fr, rfl, h1, h2, h3, h4, h5, h6⟩⟩ := h
  · exact ⟨0, hl, .inl ⟨none, h.1, h.2, rfl⟩⟩
  · refine ⟨cap, hl, .inr ⟨b, 0, rfl, h1, (Array.getElem?_eq_some_iff.1 h3).1, fun i x hx => ?_⟩⟩
    rw [Nat.zero_add, cell_of_row w b i cur T _ h3]
    rw [← h5, List.getElem?_take] at hx
    split at hx
    · simpa using hx
    · cases hx

end Go.Kx
