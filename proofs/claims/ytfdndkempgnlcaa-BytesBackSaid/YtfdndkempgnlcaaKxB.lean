/- Own library, part B: a region that draws its order comes to the canonical order. -/
import Derived.Test.YtfdndkempgnlcaaKxA
namespace Go.Kx
open Go
variable {P : Program} {ops : Array Oper} {D : Option (Nat → Prop)} {Q : Exit → Act → World → Prop}

def waits (ops : Array Oper) (j e : Nat) : Bool :=
  match ops[j]? with
  | some o => o.after.any fun x => Nat.beq x.on e && Region.binds .any x
  | none => false

inductive Reach (ops : Array Oper) : Nat → Nat → Prop
  | one {j e : Nat} (h : waits ops j e = true) : Reach ops j e
  | more {j e i : Nat} (h : waits ops j e = true) (h' : Reach ops e i) : Reach ops j i

def chainOk (ops : Array Oper) (i : Nat) : List (Nat × Nat) → List Nat → Bool
  | [], _ => true
  | (j, e) :: r, seen => waits ops j e && (Nat.beq e i || seen.any (Nat.beq e)) && chainOk ops i r (j :: seen)

theorem chainOk_spec {i : Nat} : ∀ (l : List (Nat × Nat)) (seen : List Nat), chainOk ops i l seen = true → (∀ s ∈ seen, Reach ops s i) → ∀ j e, (j, e) ∈ l → Reach ops j i
  | [], _, _, _, _, _, h => by cases h
  | (j, e) :: r, seen, h, hs, j', e', hm => by
    simp only [chainOk, Bool.and_eq_true, Bool.or_eq_true] at h
    obtain ⟨⟨h1, h2⟩, h3⟩ := h
    have hj : Reach ops j i := by
      rcases h2 with h2 | h2
      · have := Nat.eq_of_beq_eq_true h2; subst this; exact .one h1
      · obtain ⟨s, hsm, hse⟩ := List.any_eq_true.1 h2
        have := Nat.eq_of_beq_eq_true hse; subst this
        exact .more h1 (hs _ hsm)
    rcases List.mem_cons.1 hm with hm | hm
    · cases hm; exact hj
    · exact chainOk_spec r (j :: seen) h3 (fun s hs' => by
        rcases List.mem_cons.1 hs' with rfl | hs'
        · exact hj
        · exact hs s hs') j' e' hm

def tabHas (T : List (Nat × List (Nat × Nat))) (i j : Nat) : Bool := T.any fun x => Nat.beq x.1 i && x.2.any fun y => Nat.beq y.1 j

def apartAt (ops : Array Oper) (i j : Nat) : Bool :=
  match ops[i]?, ops[j]? with
  | some x, some y => x.apart ops y
  | _, _ => false

def pairOk (ops : Array Oper) (T : List (Nat × List (Nat × Nat))) (p q : Nat × Bool) : Bool :=
  !(waits ops p.1 q.1) && (match p.2 with
    | true => waits ops q.1 p.1 || apartAt ops p.1 q.1
    | false => tabHas T p.1 q.1)

def pairsOk (r : Nat × Bool → Nat × Bool → Bool) : List (Nat × Bool) → Bool
  | [] => true
  | p :: l => l.all (fun q => r p q && !(Nat.beq p.1 q.1)) && pairsOk r l

theorem pairsOk_spec {r : Nat × Bool → Nat × Bool → Bool} : ∀ {l : List (Nat × Bool)}, pairsOk r l = true → l.Pairwise (fun p q => r p q = true ∧ p.1 ≠ q.1)
  | [], _ => .nil
  | p :: l, h => by
    simp only [pairsOk, Bool.and_eq_true, List.all_eq_true] at h
    refine .cons (fun q hq => ?_) (pairsOk_spec h.2)
    have := h.1 q hq
    refine ⟨this.1, fun e => ?_⟩
    have h2 := this.2
    rw [e] at h2
    simp at h2

def noSel (o : Oper) : Bool := match o.op with | .select .. => false | _ => true

theorem noSel_spec {o : Oper} (h : noSel o = true) : noSelect o := fun cs b e => by simp [noSel, e] at h

def canonOk (ops : Array Oper) (c : List (Nat × Bool)) (T : List (Nat × List (Nat × Nat))) : Bool :=
  c.all (fun p => Nat.blt p.1 ops.size && !(waits ops p.1 p.1)) && Nat.beq c.length ops.size && pairsOk (pairOk ops T) c && T.all (fun x => chainOk ops x.1 x.2 []) &&
  ops.toList.all (fun o => noSel o && o.after.all fun e => Nat.blt e.on ops.size || !Region.binds .any e) &&
  (List.range ops.size).all (fun i => c.any fun p => Nat.beq p.1 i)

def theOps (ops : Array Oper) (c : List (Nat × Bool)) : List (Bool × Oper) := c.map fun p => (p.2, ops.getD p.1 default)

structure Rem (ops : Array Oper) (T : List (Nat × List (Nat × Nat))) (listed : Array Bool) (c : List (Nat × Bool)) : Prop where
  un : ∀ p ∈ c, p.1 < ops.size ∧ listed.getD p.1 true = false ∧ waits ops p.1 p.1 = false
  all : ∀ i, i < ops.size → listed.getD i false = true ∨ ∃ p ∈ c, p.1 = i
  pairs : c.Pairwise (fun p q => pairOk ops T p q = true ∧ p.1 ≠ q.1)
  closed : ∀ j e, listed.getD j false = true → waits ops j e = true → listed.getD e false = true

theorem waits_spec {j e : Nat} : waits ops j e = true ↔ ∃ o, ops[j]? = some o ∧ ∃ x ∈ o.after, x.on = e ∧ Region.binds .any x = true := by
  unfold waits
  cases h : ops[j]? with
  | none => simp
  | some o =>
    simp only [Option.some.injEq, exists_eq_left', Array.any_eq_true']
    constructor
    · rintro ⟨x, hx, hb⟩
      simp only [Bool.and_eq_true] at hb
      exact ⟨x, hx, Nat.eq_of_beq_eq_true hb.1, hb.2⟩
    · rintro ⟨x, hx, rfl, hb⟩
      exact ⟨x, hx, by simp [hb]⟩

theorem getD_false_of_true {listed : Array Bool} {i : Nat} (h : listed.getD i true = false) : listed.getD i false = false := by
  rcases Nat.lt_or_ge i listed.size with h' | h'
  · simpa [h'] using h
  · simp [h']

theorem Reach.listed {listed : Array Bool} (hc : ∀ j e, listed.getD j false = true → waits ops j e = true → listed.getD e false = true) {j i : Nat} (h : Reach ops j i)
    (hj : ∀ e, waits ops j e = true → listed.getD e false = true) : listed.getD i false = true := by
  induction h with
  | one h => exact hj _ h
  | more h _ ih => exact ih fun e he => hc _ e (hj _ h) he

theorem ready_waits {listed : Array Bool} {j : Nat} (h : j ∈ Region.ready .any ops listed) : listed.getD j true = false ∧ j < ops.size ∧ ∀ e, waits ops j e = true → listed.getD e false = true := by
  obtain ⟨h0, o, ho, hall⟩ := mem_ready.1 h
  refine ⟨h0, (Array.getElem?_eq_some_iff.1 ho).1, fun e he => ?_⟩
  obtain ⟨o', ho', x, hx, rfl, hb⟩ := waits_spec.1 he
  rw [ho] at ho'; cases ho'
  exact hall x hx hb

theorem wpL_front {X : Nat → Prop} (hD : D = some X) {x : Bool × Oper} (hx : noSelect x.2) : ∀ (pre post : List (Bool × Oper)) (a : Act) (w : World), (∀ p ∈ pre, p.1 = true ∧ p.2.apart ops x.2 = true ∧ noSelect p.2) →
    wpL P ops D Q (pre ++ x :: post) a w → wpL P ops D Q (x :: (pre ++ post)) a w
  | [], _, _, _, _, h => h
  | (f, o) :: pre, post, a, w, hp, h => by
    obtain ⟨rfl, hap, hs⟩ : f = true ∧ o.apart ops x.2 = true ∧ noSelect o := hp (f, o) (List.mem_cons_self ..)
    have h' : wpL P ops D Q ((true, o) :: x :: (pre ++ post)) a w := by
      simp only [List.cons_append] at h
      have ih := fun a w => wpL_front hD hx pre post a w (fun p hp' => hp p (List.mem_cons_of_mem _ hp'))
      simp only [wpL] at h ⊢
      split
      · rename_i hw
        simp only [hw, if_true] at h
        obtain ⟨v, hv, hr⟩ := h
        exact ⟨v, hv, ih _ _ hr⟩
      · rename_i hw
        simp only [hw] at h
        exact ih _ _ h
    exact wpL_swap hD hap hs hx h'

theorem wpAny_of_wpL {X : Nat → Prop} (hD : D = some X) {T : List (Nat × List (Nat × Nat))} (hT : ∀ x ∈ T, chainOk ops x.1 x.2 [] = true)
    (hops : ∀ o ∈ ops.toList, noSel o = true ∧ ∀ e ∈ o.after, Region.binds .any e = true → e.on < ops.size) :
    ∀ (fuel : Nat) (listed : Array Bool) (c : List (Nat × Bool)) (a : Act) (w : World), fuel = c.length → listed.size = ops.size → Rem ops T listed c → wpL P ops D Q (theOps ops c) a w → wpAny P .any ops Q fuel listed a w := by
  intro fuel
  have hnos : ∀ i, i < ops.size → noSelect (ops.getD i default) := fun i hi => by
    have : ops.getD i default ∈ ops.toList := by simp [hi]
    exact noSel_spec (hops _ this).1
  have split : ∀ (listed : Array Bool) (c : List (Nat × Bool)) (_ : Rem ops T listed c) (i : Nat) (_ : i ∈ Region.ready .any ops listed),
      ∃ pre f post, c = pre ++ (i, f) :: post ∧ ∀ p ∈ pre, p.2 = true ∧ apartAt ops p.1 i = true := by
    intro listed c hR i hi
    obtain ⟨h0, hlt, hw⟩ := ready_waits hi
    obtain ⟨p, hp, rfl⟩ : ∃ p ∈ c, p.1 = i := (hR.all i hlt).resolve_left (by rw [getD_false_of_true h0]; simp)
    obtain ⟨pre, post, rfl⟩ := List.append_of_mem hp
    refine ⟨pre, p.2, post, rfl, fun q hq => ?_⟩
    have hpw := (List.pairwise_append.1 hR.pairs).2.2 q hq p (List.mem_cons_self ..)
    have hun : listed.getD q.1 false = false := getD_false_of_true (hR.un q (List.mem_append_left _ hq)).2.1
    obtain ⟨hpair, _⟩ := hpw
    simp only [pairOk, Bool.and_eq_true] at hpair
    cases hf : q.2 with
    | true =>
      rw [hf] at hpair
      simp only [Bool.or_eq_true] at hpair
      refine ⟨rfl, hpair.2.resolve_left fun hwt => ?_⟩
      have := hw _ hwt
      rw [hun] at this; cases this
    | false =>
      exfalso
      rw [hf] at hpair
      obtain ⟨x, hx, hx'⟩ := List.any_eq_true.1 hpair.2
      simp only [Bool.and_eq_true] at hx'
      obtain ⟨y, hy, hy'⟩ := List.any_eq_true.1 hx'.2
      have e1 := Nat.eq_of_beq_eq_true hx'.1
      have e2 := Nat.eq_of_beq_eq_true hy'
      have hr := chainOk_spec x.2 [] (hT x hx) (fun _ h => by cases h) y.1 y.2 hy
      rw [e1, e2] at hr
      have := hr.listed hR.closed hw
      rw [hun] at this; cases this
  induction fuel with
  | zero =>
    intro listed c a w hl hsz hR h
    have hc : c = [] := List.eq_nil_of_length_eq_zero hl.symm
    subst hc
    refine ⟨?_, h⟩
    cases hr : Region.ready .any ops listed with
    | nil => rfl
    | cons i r =>
      exfalso
      obtain ⟨pre, f, post, he, _⟩ := split listed [] hR i (by rw [hr]; exact List.mem_cons_self ..)
      simp at he
  | succ fuel ih =>
    intro listed c a w hl hsz hR h
    refine ⟨fun hr => ?_, fun i hi => ?_⟩
    · exfalso
      cases c with
      | nil => simp at hl
      | cons p c =>
        have hp := hR.un p (List.mem_cons_self ..)
        have : p.1 ∈ Region.ready .any ops listed := by
          rw [mem_ready]
          refine ⟨hp.2.1, ops.getD p.1 default, by simp [hp.1], fun e he hb => ?_⟩
          have hwt : waits ops p.1 e.on = true := waits_spec.2 ⟨_, by simp [hp.1], e, he, rfl, hb⟩
          have hlt := (hops (ops.getD p.1 default) (by simp [hp.1])).2 e he hb
          rcases hR.all e.on hlt with h1 | ⟨q, hq, hqe⟩
          · exact h1
          · exfalso
            rcases List.mem_cons.1 hq with rfl | hq
            · rw [← hqe, hp.2.2] at hwt
              cases hwt
            · have hpw := (List.pairwise_cons.1 hR.pairs).1 q hq
              have h2 := hpw.1
              simp only [pairOk, Bool.and_eq_true, Bool.not_eq_true'] at h2
              rw [hqe] at h2
              rw [hwt] at h2
              cases h2.1
        rw [hr] at this
        cases this
    · obtain ⟨pre, f, post, rfl, hpre⟩ := split listed c hR i hi
      obtain ⟨h0, hlt, hw⟩ := ready_waits hi
      have hth : theOps ops (pre ++ (i, f) :: post) = theOps ops pre ++ (f, ops.getD i default) :: theOps ops post := by simp [theOps]
      rw [hth] at h
      have hfront := wpL_front hD (x := (f, ops.getD i default)) (hnos i hlt) (theOps ops pre) (theOps ops post) a w (fun p hp => by
        obtain ⟨q, hq, rfl⟩ := List.mem_map.1 hp
        have hql := (hR.un q (List.mem_append_left _ hq)).1
        refine ⟨(hpre q hq).1, ?_, hnos q.1 hql⟩
        have := (hpre q hq).2
        simpa [apartAt, hql, hlt] using this) h
      have hop := wpL_wpOp (i := i) (by simp [hlt]) hfront
      refine wpOp_mono (fun a' w' h' => ih _ (pre ++ post) a' w' (by simp at hl ⊢; omega) (by simpa using hsz) ?_ (by simpa [theOps] using h'.2)) hop
      have hne : ∀ p ∈ pre ++ post, p.1 ≠ i := fun p hp e => by
        rcases List.mem_append.1 hp with hp | hp
        · exact ((List.pairwise_append.1 hR.pairs).2.2 p hp (i, f) (List.mem_cons_self ..)).2 e
        · exact ((List.pairwise_cons.1 (List.pairwise_append.1 hR.pairs).2.1).1 p hp).2 e.symm
      refine ⟨fun p hp => ?_, fun j hj => ?_, ?_, fun j e hj he => ?_⟩
      · have hm : p ∈ pre ++ (i, f) :: post := by
          rcases List.mem_append.1 hp with hp | hp
          · exact List.mem_append_left _ hp
          · exact List.mem_append_right _ (List.mem_cons_of_mem _ hp)
        refine ⟨(hR.un p hm).1, ?_, (hR.un p hm).2.2⟩
        rw [getD_set_ne true (Ne.symm (hne p hp))]
        exact (hR.un p hm).2.1
      · by_cases e : i = j
        · subst e; left; simp [hsz, hlt]
        · rcases hR.all j hj with h1 | ⟨p, hp, hpj⟩
          · left; exact getD_set_true h1
          · right
            refine ⟨p, ?_, hpj⟩
            rcases List.mem_append.1 hp with hp | hp
            · exact List.mem_append_left _ hp
            · rcases List.mem_cons.1 hp with rfl | hp
              · exact absurd hpj e
              · exact List.mem_append_right _ hp
      · obtain ⟨p1, p2, p3⟩ := List.pairwise_append.1 hR.pairs
        exact List.pairwise_append.2 ⟨p1, (List.pairwise_cons.1 p2).2, fun x hx y hy => p3 x hx y (List.mem_cons_of_mem _ hy)⟩
      · by_cases e' : i = j
        · subst e'; exact getD_set_true (hw e he)
        · rw [getD_set_ne false e'] at hj
          exact getD_set_true (hR.closed j e hj he)


/-- **A region that draws its order**: in a canonical order c (floating operations: true), under a closed check. T: for each that does not float, which operations hang on it, and by which of their own edges. -/
theorem wp_drawn {id : Nat} {ops : Array Oper} {a : Act} {w : World} (hm : P.follows .mixedOrders = true) (X : Nat → Prop) (c : List (Nat × Bool)) (T : List (Nat × List (Nat × Nat)))
    (hc : canonOk ops c T = true) {l : List (Bool × Oper)} (hl : theOps ops c = l) (h : wpL P ops (some X) Q l a { w with drawn := w.drawn + 1 }) : (Code.region id ops true).wp P Q a w := by
  subst hl
  simp only [canonOk, Bool.and_eq_true, List.all_eq_true] at hc
  obtain ⟨⟨⟨⟨⟨h1, h2⟩, h3⟩, h4⟩, h5⟩, h6⟩ := hc
  have hlen := Nat.eq_of_beq_eq_true h2
  have hpw := pairsOk_spec h3
  have hin : ∀ p ∈ c, p.1 < ops.size := fun p hp => by have := (h1 p hp).1; simpa using this
  refine wp_region_any hm (wpAny_of_wpL rfl h4 (fun o ho => ⟨(h5 o ho).1, fun e he hb => ?_⟩) ops.size _ c a _ hlen.symm (by simp) ?_ h)
  · have := (h5 o ho).2
    have := Array.all_eq_true_iff_forall_mem.1 this e he
    simpa [hb] using this
  · refine ⟨fun p hp => ⟨hin p hp, by simp [hin p hp], by have := (h1 p hp).2; simpa using this⟩, fun i hi => .inr ?_, hpw, fun j e hj => ?_⟩
    · obtain ⟨p, hp, he⟩ := List.any_eq_true.1 (h6 i (List.mem_range.2 hi))
      exact ⟨p, hp, Nat.eq_of_beq_eq_true he⟩
    · exfalso
      rcases Nat.lt_or_ge j ops.size with h' | h' <;> simp [h'] at hj

end Go.Kx
