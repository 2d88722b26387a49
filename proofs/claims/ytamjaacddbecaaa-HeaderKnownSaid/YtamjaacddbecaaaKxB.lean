/- Own library, part B: a region that draws its order comes to the canonical order. -/
import Derived.Test.YtamjaacddbecaaaKxA
set_option linter.unusedSimpArgs false
set_option linter.unusedVariables false
namespace Go.Kx
open Go
variable {P : Program} {ops : Array Oper} {D : Option (Nat → Prop)} {Q : Exit → Act → World → Prop}

def waits (ops : Array Oper) (j e : Nat) : Bool :=
  match ops[j]? with
  | some o => o.after.any fun x => Nat.beq x.on e && Region.binds .any x
  | none => false

inductive Reach (ops : Array Oper) : Nat → Nat → Prop
  | one {j e : Nat} (h : waits ops j e = true) : Reach ops j e
  | more {j e i : Nat} (h : waits ops j e = true) (h' : Reach ops e i) : Reach ops j i

def chainOk (ops : Array Oper) (i : Nat) : List (Nat × Nat) → List Nat → Bool
  | [], _ => true
  | (j, e) :: r, seen => waits ops j e && (Nat.beq e i || seen.any (Nat.beq e)) && chainOk ops i r (j :: seen)

theorem chainOk_spec {i : Nat} : ∀ (l : List (Nat × Nat)) (seen : List Nat), chainOk ops i l seen = true → (∀ s ∈ seen, Reach ops s i) → ∀ j e, (j, e) ∈ l → Reach ops j i
  | [], _, _, _, _, _, h => by cases h
  | (j, e) :: r, seen, h, hs, j', e', hm => by
    simp only [chainOk, Bool.and_eq_true, Bool.or_eq_true] at h
    obtain ⟨⟨h1, h2⟩, h3⟩ := h
    have hj : Reach ops j i := by
      rcases h2 with h2 | h2
      · have := Nat.eq_of_beq_eq_true h2; subst this; exact .one h1
      · obtain ⟨s, hsm, hse⟩ := List.any_eq_true.1 h2
        have := Nat.eq_of_beq_eq_true hse; subst this
        exact .more h1 (hs _ hsm)
    rcases List.mem_cons.1 hm with hm | hm
    · cases hm; exact hj
    · exact chainOk_spec r (j :: seen) h3 (fun s hs' => by
        rcases List.mem_cons.1 hs' with rfl | hs'
        · exact hj
        · exact hs s hs') j' e' hm

def tabHas (T : List (Nat × List (Nat × Nat))) (i j : Nat) : Bool := T.any fun x => Nat.beq x.1 i && x.2.any fun y => Nat.beq y.1 j

def apartAt (ops : Array Oper) (i j : Nat) : Bool :=
  match ops[i]?, ops[j]? with
  | some x, some y => x.apart ops y
  | _, _ => false

def pairOk (ops : Array Oper) (T : List (Nat × List (Nat × Nat))) (p q : Nat × Bool) : Bool :=
  !(waits ops p.1 q.1) && (match p.2 with
    | true => waits ops q.1 p.1 || tabHas T p.1 q.1 || apartAt ops p.1 q.1
    | false => tabHas T p.1 q.1)

def pairsOk (r : Nat × Bool → Nat × Bool → Bool) : List (Nat × Bool) → Bool
  | [] => true
  | p :: l => l.all (fun q => r p q && !(Nat.beq p.1 q.1)) && pairsOk r l

theorem pairsOk_spec {r : Nat × Bool → Nat × Bool → Bool} : ∀ {l : List (Nat × Bool)}, pairsOk r l = true → l.Pairwise (fun p q => r p q = true ∧ p.1 ≠ q.1)
  | [], _ => .nil
  | p :: l, h => by
    simp only [pairsOk, Bool.and_eq_true, List.all_eq_true] at h
    refine .cons (fun q hq => ?_) (pairsOk_spec h.2)
    have := h.1 q hq
    refine ⟨this.1, fun e => ?_⟩
    have h2 := this.2
    rw [e] at h2
    simp at h2

def noSel (o : Oper) : Bool := match o.op with | .select .. => false | _ => true

theorem noSel_spec {o : Oper} (h : noSel o = true) : noSelect o := fun cs b e => by simp [noSel, e] at h

def canonOk (ops : Array Oper) (c : List (Nat × Bool)) (T : List (Nat × List (Nat × Nat))) : Bool :=
  c.all (fun p => Nat.blt p.1 ops.size && !(waits ops p.1 p.1)) && Nat.beq c.length ops.size && pairsOk (pairOk ops T) c && T.all (fun x => chainOk ops x.1 x.2 []) &&
  ops.toList.all (fun o => noSel o && o.after.all fun e => Nat.blt e.on ops.size || !Region.binds .any e) &&
  (List.range ops.size).all (fun i => c.any fun p => Nat.beq p.1 i)

def theOps (ops : Array Oper) (c : List (Nat × Bool)) : List (Bool × Oper) := c.map fun p => (p.2, ops.getD p.1 default)

structure Rem (ops : Array Oper) (T : List (Nat × List (Nat × Nat))) (listed : Array Bool) (c : List (Nat × Bool)) : Prop where
  un : ∀ p ∈ c, p.1 < ops.size ∧ listed.getD p.1 true = false ∧ waits ops p.1 p.1 = false
  all : ∀ i, i < ops.size → listed.getD i false = true ∨ ∃ p ∈ c, p.1 = i
  pairs : c.Pairwise (fun p q => pairOk ops T p q = true ∧ p.1 ≠ q.1)
  closed : ∀ j e, listed.getD j false = true → waits ops j e = true → listed.getD e false = true

theorem waits_spec {j e : Nat} : waits ops j e = true ↔ ∃ o, ops[j]? = some o ∧ ∃ x ∈ o.after, x.on = e ∧ Region.binds .any x = true := by
  unfold waits
  cases h : ops[j]? with
  | none => simp
  | some o =>
    simp only [Option.some.injEq, exists_eq_left', Array.any_eq_true']
    constructor
    · rintro ⟨x, hx, hb⟩
      simp only [Bool.and_eq_true] at hb
      exact ⟨x, hx, Nat.eq_of_beq_eq_true hb.1, hb.2⟩
    · rintro ⟨x, hx, rfl, hb⟩
      exact ⟨x, hx, by simp [hb]⟩

theorem getD_false_of_true {listed : Array Bool} {i : Nat} (h : listed.getD i true = false) : listed.getD i false = false := by
  rcases Nat.lt_or_ge i listed.size with h' | h'
  · simpa [h'] using h
  · simp [h']

theorem Reach.listed {listed : Array Bool} (hc : ∀ j e, listed.getD j false = true → waits ops j e = true → listed.getD e false = true) {j i : Nat} (h : Reach ops j i)
    (hj : ∀ e, waits ops j e = true → listed.getD e false = true) : listed.getD i false = true := by
  induction h with
  | one h => exact hj _ h
  | more h _ ih => exact ih fun e he => hc _ e (hj _ h) he

theorem ready_waits {listed : Array Bool} {j : Nat} (h : j ∈ Region.ready .any ops listed) : listed.getD j true = false ∧ j < ops.size ∧ ∀ e, waits ops j e = true → listed.getD e false = true := by
  obtain ⟨h0, o, ho, hall⟩ := mem_ready.1 h
  refine ⟨h0, (Array.getElem?_eq_some_iff.1 ho).1, fun e he => ?_⟩
  obtain ⟨o', ho', x, hx, rfl, hb⟩ := waits_spec.1 he
  rw [ho] at ho'; cases ho'
  exact hall x hx hb

theorem wpL_front {X : Nat → Prop} (hD : D = some X) {x : Bool × Oper} (hx : noSelect x.2) : ∀ (pre post : List (Bool × Oper)) (a : Act) (w : World), (∀ p ∈ pre, p.1 = true ∧ p.2.apart ops x.2 = true ∧ noSelect p.2) →
    wpL P ops D Q (pre ++ x :: post) a w → wpL P ops D Q (x :: (pre ++ post)) a w
  | [], _, _, _, _, h => h
  | (f, o) :: pre, post, a, w, hp, h => by
    obtain ⟨rfl, hap, hs⟩ : f = true ∧ o.apart ops x.2 = true ∧ noSelect o := hp (f, o) (List.mem_cons_self ..)
    have h' : wpL P ops D Q ((true, o) :: x :: (pre ++ post)) a w := by
      simp only [List.cons_append] at h
      have ih := fun a w => wpL_front hD hx pre post a w (fun p hp' => hp p (List.mem_cons_of_mem _ hp'))
      simp only [wpL] at h ⊢
      split
      · rename_i hw
        simp only [hw, if_true] at h
        obtain ⟨v, hv, hr⟩ := h
        exact ⟨v, hv, ih _ _ hr⟩
      · rename_i hw
        simp only [hw] at h
        exact ih _ _ h
    exact wpL_swap hD hap hs hx h'

theorem tabHas_listed {T : List (Nat × List (Nat × Nat))} (hT : ∀ x ∈ T, chainOk ops x.1 x.2 [] = true) {listed : Array Bool} (hcl : ∀ j e, listed.getD j false = true → waits ops j e = true → listed.getD e false = true) {i : Nat}
    (hi : i ∈ Region.ready .any ops listed) {p : Nat} (h : tabHas T p i = true) : listed.getD p false = true := by
  obtain ⟨h0, hlt, hw⟩ := ready_waits hi
  obtain ⟨x, hx, hx'⟩ := List.any_eq_true.1 h
  simp only [Bool.and_eq_true] at hx'
  obtain ⟨y, hy, hy'⟩ := List.any_eq_true.1 hx'.2
  have e1 := Nat.eq_of_beq_eq_true hx'.1
  have e2 := Nat.eq_of_beq_eq_true hy'
  have hr := chainOk_spec x.2 [] (hT x hx) (fun _ h => by cases h) y.1 y.2 hy
  rw [e1, e2] at hr
  exact hr.listed hcl hw

def opsOk (ops : Array Oper) : Prop := ∀ o ∈ ops.toList, noSel o = true ∧ ∀ e ∈ o.after, Region.binds .any e = true → e.on < ops.size

theorem opsOk.nos (h : opsOk ops) (i : Nat) (hi : i < ops.size) : noSelect (ops.getD i default) := by
  have : ops.getD i default ∈ ops.toList := by simp [hi]
  exact noSel_spec (h _ this).1

theorem Rem.mem {T : List (Nat × List (Nat × Nat))} {listed : Array Bool} {c : List (Nat × Bool)} (hR : Rem ops T listed c) {i : Nat} (hi : i ∈ Region.ready .any ops listed) : ∃ p ∈ c, p.1 = i := by
  obtain ⟨h0, hlt, hw⟩ := ready_waits hi
  exact (hR.all i hlt).resolve_left (by rw [getD_false_of_true h0]; simp)

theorem Rem.before {T : List (Nat × List (Nat × Nat))} (hT : ∀ x ∈ T, chainOk ops x.1 x.2 [] = true) {listed : Array Bool} {pre post : List (Nat × Bool)} {p : Nat × Bool} (hR : Rem ops T listed (pre ++ p :: post)) (hi : p.1 ∈ Region.ready .any ops listed) :
    ∀ q ∈ pre, q.2 = true ∧ apartAt ops q.1 p.1 = true := by
  intro q hq
  obtain ⟨h0, hlt, hw⟩ := ready_waits hi
  have hpw := (List.pairwise_append.1 hR.pairs).2.2 q hq p (List.mem_cons_self ..)
  have hun : listed.getD q.1 false = false := getD_false_of_true (hR.un q (List.mem_append_left _ hq)).2.1
  obtain ⟨hpair, _⟩ := hpw
  simp only [pairOk, Bool.and_eq_true] at hpair
  have hno : ¬ tabHas T q.1 p.1 = true := fun h => by
    have := tabHas_listed hT hR.closed hi h
    rw [hun] at this; cases this
  cases hf : q.2 with
  | true =>
    rw [hf] at hpair
    simp only [Bool.or_eq_true] at hpair
    refine ⟨rfl, ?_⟩
    rcases hpair.2 with (h | h) | h
    · have := hw _ h
      rw [hun] at this; cases this
    · exact absurd h hno
    · exact h
  | false =>
    rw [hf] at hpair
    exact absurd hpair.2 hno

theorem Rem.some_ready {T : List (Nat × List (Nat × Nat))} (hops : opsOk ops) {listed : Array Bool} {p : Nat × Bool} {c : List (Nat × Bool)} (hR : Rem ops T listed (p :: c)) : Region.ready .any ops listed ≠ [] := by
  intro hr
  have hp := hR.un p (List.mem_cons_self ..)
  have : p.1 ∈ Region.ready .any ops listed := by
    rw [mem_ready]
    refine ⟨hp.2.1, ops.getD p.1 default, by simp [hp.1], fun e he hb => ?_⟩
    have hwt : waits ops p.1 e.on = true := waits_spec.2 ⟨_, by simp [hp.1], e, he, rfl, hb⟩
    have hlt := (hops (ops.getD p.1 default) (by simp [hp.1])).2 e he hb
    rcases hR.all e.on hlt with h1 | ⟨q, hq, hqe⟩
    · exact h1
    · exfalso
      rcases List.mem_cons.1 hq with rfl | hq
      · rw [← hqe, hp.2.2] at hwt
        cases hwt
      · have hpw := (List.pairwise_cons.1 hR.pairs).1 q hq
        have h2 := hpw.1
        simp only [pairOk, Bool.and_eq_true, Bool.not_eq_true'] at h2
        rw [hqe] at h2
        rw [hwt] at h2
        cases h2.1
  rw [hr] at this
  cases this

theorem Rem.step {T : List (Nat × List (Nat × Nat))} {listed : Array Bool} {pre post : List (Nat × Bool)} {i : Nat} {f : Bool} (hR : Rem ops T listed (pre ++ (i, f) :: post)) (hsz : listed.size = ops.size) (hi : i ∈ Region.ready .any ops listed) :
    Rem ops T (listed.setIfInBounds i true) (pre ++ post) := by
  obtain ⟨h0, hlt, hw⟩ := ready_waits hi
  have hne : ∀ p ∈ pre ++ post, p.1 ≠ i := fun p hp e => by
    rcases List.mem_append.1 hp with hp | hp
    · exact ((List.pairwise_append.1 hR.pairs).2.2 p hp (i, f) (List.mem_cons_self ..)).2 e
    · exact ((List.pairwise_cons.1 (List.pairwise_append.1 hR.pairs).2.1).1 p hp).2 e.symm
  refine ⟨fun p hp => ?_, fun j hj => ?_, ?_, fun j e hj he => ?_⟩
  · have hm : p ∈ pre ++ (i, f) :: post := by
      rcases List.mem_append.1 hp with hp | hp
      · exact List.mem_append_left _ hp
      · exact List.mem_append_right _ (List.mem_cons_of_mem _ hp)
    refine ⟨(hR.un p hm).1, ?_, (hR.un p hm).2.2⟩
    rw [getD_set_ne true (Ne.symm (hne p hp))]
    exact (hR.un p hm).2.1
  · by_cases e : i = j
    · subst e; left; simp [hsz, hlt]
    · rcases hR.all j hj with h1 | ⟨p, hp, hpj⟩
      · left; exact getD_set_true h1
      · right
        refine ⟨p, ?_, hpj⟩
        rcases List.mem_append.1 hp with hp | hp
        · exact List.mem_append_left _ hp
        · rcases List.mem_cons.1 hp with rfl | hp
          · exact absurd hpj e
          · exact List.mem_append_right _ hp
  · obtain ⟨p1, p2, p3⟩ := List.pairwise_append.1 hR.pairs
    exact List.pairwise_append.2 ⟨p1, (List.pairwise_cons.1 p2).2, fun x hx y hy => p3 x hx y (List.mem_cons_of_mem _ hy)⟩
  · by_cases e' : i = j
    · subst e'; exact getD_set_true (hw e he)
    · rw [getD_set_ne false e'] at hj
      exact getD_set_true (hR.closed j e hj he)

theorem wpL_ready {X : Nat → Prop} (hD : D = some X) (hops : opsOk ops) {pre post : List (Nat × Bool)} {i : Nat} {f : Bool} (hlt : i < ops.size) (hin : ∀ q ∈ pre, q.1 < ops.size) (hpre : ∀ q ∈ pre, q.2 = true ∧ apartAt ops q.1 i = true)
    {a : Act} {w : World} (h : wpL P ops D Q (theOps ops (pre ++ (i, f) :: post)) a w) : wpL P ops D Q ((f, ops.getD i default) :: theOps ops (pre ++ post)) a w := by
  have hth : theOps ops (pre ++ (i, f) :: post) = theOps ops pre ++ (f, ops.getD i default) :: theOps ops post := by simp [theOps]
  rw [hth] at h
  have hfront := wpL_front hD (x := (f, ops.getD i default)) (hops.nos i hlt) (theOps ops pre) (theOps ops post) a w (fun p hp => by
    obtain ⟨q, hq, rfl⟩ := List.mem_map.1 hp
    have hql := hin q hq
    refine ⟨(hpre q hq).1, ?_, hops.nos q.1 hql⟩
    have := (hpre q hq).2
    simpa [apartAt, hql, hlt] using this) h
  simpa [theOps] using hfront

theorem wpAny_of_wpL {X : Nat → Prop} (hD : D = some X) {T : List (Nat × List (Nat × Nat))} (hT : ∀ x ∈ T, chainOk ops x.1 x.2 [] = true) (hops : opsOk ops) :
    ∀ (fuel : Nat) (listed : Array Bool) (c : List (Nat × Bool)) (a : Act) (w : World), fuel = c.length → listed.size = ops.size → Rem ops T listed c → wpL P ops D Q (theOps ops c) a w → wpAny P .any ops Q fuel listed a w := by
  intro fuel
  induction fuel with
  | zero =>
    intro listed c a w hl hsz hR h
    have hc : c = [] := List.eq_nil_of_length_eq_zero hl.symm
    subst hc
    refine ⟨?_, h⟩
    cases hr : Region.ready .any ops listed with
    | nil => rfl
    | cons i r =>
      exfalso
      obtain ⟨p, hp, _⟩ := hR.mem (i := i) (by rw [hr]; exact List.mem_cons_self ..)
      cases hp
  | succ fuel ih =>
    intro listed c a w hl hsz hR h
    refine ⟨fun hr => ?_, fun i hi => ?_⟩
    · exfalso
      cases c with
      | nil => simp at hl
      | cons p c => exact hR.some_ready hops hr
    · obtain ⟨p, hp, rfl⟩ := hR.mem hi
      obtain ⟨pre, post, rfl⟩ := List.append_of_mem hp
      obtain ⟨i, f⟩ := p
      have hlt := (ready_waits hi).2.1
      have hfront := wpL_ready hD hops hlt (fun q hq => (hR.un q (List.mem_append_left _ hq)).1) (hR.before hT hi) h
      have hop := wpL_wpOp (i := i) (by simp [hlt]) hfront
      exact wpOp_mono (fun a' w' h' => ih _ (pre ++ post) a' w' (by simp at hl ⊢; omega) (by simpa using hsz) (hR.step hsz hi) h'.2) hop

/-! ## Two phases: what floats in the first one is done before anything of the second one that changes the world -/

def isMove (o : Oper) : Bool := match o.op with | .move _ => true | _ => false

theorem isMove_run {o : Oper} (h : isMove o = true) (env : Operand → Value) : ∃ v, ∀ w, (execOp env o).run P w = .ok (.value v) w := by
  unfold isMove at h
  split at h
  · rename_i x hx
    exact ⟨env x, fun w => by simp [execOp, hx]⟩
  · cases h

def ph (P : Program) (ops : Array Oper) (D : Option (Nat → Prop)) (Q : Exit → Act → World → Prop) (l : List (Bool × Oper)) : Exit → Act → World → Prop
  | .normal, a, w => wpL P ops D Q l a w
  | e, a, w => Q e a w

theorem wpL_moves {D1 D2 : Option (Nat → Prop)} {l2 : List (Bool × Oper)} : ∀ (l1 : List (Bool × Oper)) (a : Act) (w : World), (∀ p ∈ l1, p.1 = true ∧ isMove p.2 = true) → wpL P ops D1 (ph P ops D2 Q l2) l1 a w → wpL P ops D2 Q (l1 ++ l2) a w
  | [], _, _, _, h => h
  | (f, o) :: rest, a, w, hm, h => by
    obtain ⟨rfl, hmo⟩ : f = true ∧ isMove o = true := hm (f, o) (List.mem_cons_self ..)
    have ih := fun a w => wpL_moves (D1 := D1) (D2 := D2) (l2 := l2) rest a w (fun p hp => hm p (List.mem_cons_of_mem _ hp))
    simp only [List.cons_append, wpL] at h ⊢
    split
    · rename_i hw
      simp only [hw, if_true] at h
      obtain ⟨v, hv, hr⟩ := h
      obtain ⟨u, hu⟩ := isMove_run (P := P) hmo a.eval
      obtain rfl : u = v := by
        have h1 := hv.1
        rw [hu w] at h1
        cases h1; rfl
      exact ⟨u, Flo.of_all hu w, ih _ _ hr⟩
    · rename_i hw
      simp only [hw] at h
      exact ih _ _ h

theorem wpL_wpOp2 {Q' : Exit → Act → World → Prop} (hq : ∀ a w, Q' .outgrown a w → Q .outgrown a w) {i : Nat} {o : Oper} (hi : ops[i]? = some o) {f : Bool} {rest : List (Bool × Oper)} {a : Act} {w : World}
    (h : wpL P ops D Q' ((f, o) :: rest) a w) : wpOp P ops Q i (fun a' w' => Sta D w w' ∧ wpL P ops D Q' rest a' w') a w := by
  unfold Go.wpOp
  simp only [hi]
  simp only [wpL] at h
  by_cases hw : Region.wanted o (yielded ops a.tmps) = true
  · simp only [hw, if_true] at h ⊢
    cases f with
    | true =>
      obtain ⟨v, hf, hr⟩ := h
      refine .inl ?_
      unfold Oper.wp
      rw [hf.1]
      exact ⟨Sta.refl _ _, hr⟩
    | false => exact h.imp (Oper.wp_monoQ (fun _ _ h => h) (fun e a w he => by
        cases e <;> first | exact hq _ _ he | exact (he : False).elim)) (fun h => ⟨h.1, h.2.imp fun a h => h.imp fun w h => hq a w h⟩)
  · simp only [hw] at h ⊢
    exact ⟨Sta.refl _ _, h⟩

def moveAt (ops : Array Oper) (p : Nat × Bool) : Bool := p.2 && isMove (ops.getD p.1 default)

theorem wpAny_of_ph {X1 X2 : Nat → Prop} {T : List (Nat × List (Nat × Nat))} (hT : ∀ x ∈ T, chainOk ops x.1 x.2 [] = true) (hops : opsOk ops) :
    ∀ (fuel : Nat) (listed : Array Bool) (c1 c2 : List (Nat × Bool)) (a : Act) (w : World), fuel = (c1 ++ c2).length → listed.size = ops.size → Rem ops T listed (c1 ++ c2) →
      (∀ p ∈ c1, ∀ q ∈ c2, moveAt ops p = true ∨ tabHas T p.1 q.1 = true) → wpL P ops (some X1) (ph P ops (some X2) Q (theOps ops c2)) (theOps ops c1) a w → wpAny P .any ops Q fuel listed a w := by
  intro fuel
  have fin : ∀ (fuel : Nat) (listed : Array Bool) (c1 c2 : List (Nat × Bool)) (a : Act) (w : World), fuel = (c1 ++ c2).length → listed.size = ops.size → Rem ops T listed (c1 ++ c2) →
      (∀ p ∈ c1, moveAt ops p = true) → wpL P ops (some X1) (ph P ops (some X2) Q (theOps ops c2)) (theOps ops c1) a w → wpAny P .any ops Q fuel listed a w := by
    intro fuel listed c1 c2 a w hl hsz hR hall h
    refine wpAny_of_wpL (X := X2) rfl hT hops fuel listed (c1 ++ c2) a w hl hsz hR ?_
    have : theOps ops (c1 ++ c2) = theOps ops c1 ++ theOps ops c2 := by simp [theOps]
    rw [this]
    refine wpL_moves _ _ _ (fun p hp => ?_) h
    obtain ⟨q, hq, rfl⟩ := List.mem_map.1 hp
    have := hall q hq
    simp only [moveAt, Bool.and_eq_true] at this
    exact this
  induction fuel with
  | zero =>
    intro listed c1 c2 a w hl hsz hR hx h
    refine fin 0 listed c1 c2 a w hl hsz hR (fun p hp => ?_) h
    have : c1 = [] := List.eq_nil_of_length_eq_zero (by rw [List.length_append] at hl; omega)
    subst this; cases hp
  | succ fuel ih =>
    intro listed c1 c2 a w hl hsz hR hx h
    by_cases hall : ∀ p ∈ c1, moveAt ops p = true
    · exact fin _ listed c1 c2 a w hl hsz hR hall h
    · obtain ⟨r, hr1, hr2⟩ : ∃ r, r ∈ c1 ∧ ¬ moveAt ops r = true := by
        apply Classical.byContradiction
        intro hn
        exact hall fun p hp => Classical.byContradiction fun h => hn ⟨p, hp, h⟩
      have hrun : listed.getD r.1 false = false := getD_false_of_true (hR.un r (List.mem_append_left _ hr1)).2.1
      refine ⟨fun hr => ?_, fun i hi => ?_⟩
      · exfalso
        cases c1 with
        | nil => cases hr1
        | cons p c => exact hR.some_ready hops hr
      · obtain ⟨p, hp, rfl⟩ := hR.mem hi
        have hp1 : p ∈ c1 := by
          rcases List.mem_append.1 hp with hp | hp
          · exact hp
          · exfalso
            have := tabHas_listed hT hR.closed hi ((hx r hr1 p hp).resolve_left hr2)
            rw [hrun] at this; cases this
        obtain ⟨pre, post, rfl⟩ := List.append_of_mem hp1
        obtain ⟨i, f⟩ := p
        have hlt := (ready_waits hi).2.1
        have hR' : Rem ops T listed (pre ++ (i, f) :: (post ++ c2)) := by simpa using hR
        have hfront := wpL_ready rfl hops hlt (fun q hq => (hR'.un q (List.mem_append_left _ hq)).1) (hR'.before hT hi) h
        have hop := wpL_wpOp2 (ops := ops) (Q := Q) (Q' := ph P ops (some X2) Q (theOps ops c2)) (fun _ _ h => h) (i := i) (o := ops.getD i default) (by simp [hlt]) hfront
        refine wpOp_mono (fun a' w' h' => ih _ (pre ++ post) c2 a' w' (by simp only [List.length_append, List.length_cons] at hl ⊢; omega) (by simpa using hsz) (by have := hR'.step hsz hi; simpa using this) (fun p hp q hq => hx p ?_ q hq) h'.2) hop
        rcases List.mem_append.1 hp with hp | hp
        · exact List.mem_append_left _ hp
        · exact List.mem_append_right _ (List.mem_cons_of_mem _ hp)

theorem canonOk_spec {c : List (Nat × Bool)} {T : List (Nat × List (Nat × Nat))} (hc : canonOk ops c T = true) :
    (∀ x ∈ T, chainOk ops x.1 x.2 [] = true) ∧ opsOk ops ∧ c.length = ops.size ∧ Rem ops T (Array.replicate ops.size false) c := by
  simp only [canonOk, Bool.and_eq_true, List.all_eq_true] at hc
  obtain ⟨⟨⟨⟨⟨h1, h2⟩, h3⟩, h4⟩, h5⟩, h6⟩ := hc
  have hlen := Nat.eq_of_beq_eq_true h2
  have hpw := pairsOk_spec h3
  have hin : ∀ p ∈ c, p.1 < ops.size := fun p hp => by have := (h1 p hp).1; simpa using this
  refine ⟨h4, fun o ho => ⟨(h5 o ho).1, fun e he hb => ?_⟩, hlen, ?_⟩
  · have := (h5 o ho).2
    have := Array.all_eq_true_iff_forall_mem.1 this e he
    simpa [hb] using this
  · refine ⟨fun p hp => ⟨hin p hp, by simp [hin p hp], by have := (h1 p hp).2; simpa using this⟩, fun i hi => .inr ?_, hpw, fun j e hj => ?_⟩
    · obtain ⟨p, hp, he⟩ := List.any_eq_true.1 (h6 i (List.mem_range.2 hi))
      exact ⟨p, hp, Nat.eq_of_beq_eq_true he⟩
    · exfalso
      rcases Nat.lt_or_ge j ops.size with h' | h' <;> simp [h'] at hj

/-- **A region that draws its order**: in a canonical order c (floating operations: true), under a closed check. T: for each that does not float, which operations hang on it, and by which of their own edges. -/
theorem wp_drawn {id : Nat} {ops : Array Oper} {a : Act} {w : World} (hm : P.follows .mixedOrders = true) (X : Nat → Prop) (c : List (Nat × Bool)) (T : List (Nat × List (Nat × Nat)))
    (hc : canonOk ops c T = true) {l : List (Bool × Oper)} (hl : theOps ops c = l) (h : wpL P ops (some X) Q l a { w with drawn := w.drawn + 1 }) : (Code.region id ops true).wp P Q a w := by
  subst hl
  obtain ⟨h4, hops, hlen, hR⟩ := canonOk_spec hc
  exact wp_region_any hm (wpAny_of_wpL rfl h4 hops ops.size _ c a _ hlen.symm (by simp) hR h)

end Go.Kx
