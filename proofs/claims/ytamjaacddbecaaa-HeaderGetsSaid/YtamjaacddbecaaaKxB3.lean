/- Own library, part B3: a region that draws its order, of which some operations that do not float have no order: a tree of the orders that may be. -/
import Derived.Test.YtamjaacddbecaaaKxB
set_option linter.unusedSimpArgs false
set_option linter.unusedVariables false
namespace Go.Kx
open Go
variable {P : Program} {ops : Array Oper} {D : Option (Nat → Prop)} {Q : Exit → Act → World → Prop} {X2 : Nat → Prop}

inductive Pl
  | leaf (k : Nat)
  | fl (m : Nat) (p : Pl)
  | or (x : Nat) (s p : Pl)
  | re (c : List (Nat × Bool)) (p : Pl)
  | cut (p : Pl)
  | weak (p : Pl)
  | stop

def nx (Q : Exit → Act → World → Prop) (K : Act → World → Prop) : Exit → Act → World → Prop
  | .normal, a, w => K a w
  | e, a, w => Q e a w

def dropId (x : Nat) (c : List (Nat × Bool)) : List (Nat × Bool) := c.filter fun q => !(Nat.beq q.1 x)

def obl (P : Program) (ops : Array Oper) (X2 : Nat → Prop) (Q : Exit → Act → World → Prop) : Pl → (Nat → Prop) → List (Nat × Bool) → Act → World → Prop
  | .leaf k, X1, c => wpL P ops (some X1) (ph P ops (some X2) Q (theOps ops (c.drop k))) (theOps ops (c.take k))
  | .fl m p, X1, c => wpL P ops (some X1) (nx Q (obl P ops X2 Q p X1 (c.drop m))) (theOps ops (c.take m))
  | .or x s p, X1, c => fun a w => wpL P ops (some X1) (nx Q (obl P ops X2 Q s X1 (dropId x c))) [(false, ops.getD x default)] a w ∧ obl P ops X2 Q p X1 c a w
  | .re c' p, X1, _ => obl P ops X2 Q p X1 c'
  | .cut p, _, c => fun a w => ∃ X, obl P ops X2 Q p X c a w
  | .weak p, X1, c => fun a w => ∃ X, (∀ b, X b → X1 b) ∧ obl P ops X2 Q p X c a w
  | .stop, _, _ => fun _ _ => True

def plOk (ops : Array Oper) (T : List (Nat × List (Nat × Nat))) : Pl → List (Nat × Bool) → List (Nat × Bool) → List Nat → Bool
  | .leaf k, F, c, seen => seen.isEmpty && pairsOk (pairOk ops T) (F ++ c) && (F ++ c.take k).all (fun p => (c.drop k).all fun q => moveAt ops p || tabHas T p.1 q.1)
  | .fl m p, F, c, seen => seen.isEmpty && (c.take m).all (fun q => q.2) && pairsOk (pairOk ops T) (F ++ c.take m) && plOk ops T p (F ++ c.take m) (c.drop m) []
  | .or x s p, F, c, seen => c.any (fun q => Nat.beq q.1 x && !q.2) && F.all (fun q => waits ops x q.1 || tabHas T q.1 x || apartAt ops q.1 x) && plOk ops T s F (dropId x c) [] && plOk ops T p F c (x :: seen)
  | .re c' p, F, c, seen => seen.isEmpty && Nat.beq c.length c'.length && c'.all (fun q => c.any fun r => Nat.beq q.1 r.1) && c.all (fun q => c'.any fun r => Nat.beq q.1 r.1) && pairsOk (fun p q => !(waits ops p.1 q.1)) (F ++ c') && plOk ops T p F c' []
  | .cut p, F, c, seen => seen.isEmpty && F.all (fun f => moveAt ops f || c.all fun q => tabHas T f.1 q.1) && plOk ops T p (F.filter (moveAt ops)) c []
  | .weak p, F, c, seen => seen.isEmpty && plOk ops T p F c []
  | .stop, _, c, seen => !seen.isEmpty && c.all (fun q => seen.any (Nat.beq q.1) || c.any fun b => tabHas T b.1 q.1)

structure St (ops : Array Oper) (listed : Array Bool) (c : List (Nat × Bool)) : Prop where
  un : ∀ p ∈ c, p.1 < ops.size ∧ listed.getD p.1 true = false ∧ waits ops p.1 p.1 = false
  all : ∀ i, i < ops.size → listed.getD i false = true ∨ ∃ p ∈ c, p.1 = i
  ord : c.Pairwise (fun p q => waits ops p.1 q.1 = false ∧ p.1 ≠ q.1)
  closed : ∀ j e, listed.getD j false = true → waits ops j e = true → listed.getD e false = true

theorem get_getDo {i : Nat} (h : i < ops.size) : ops[i]? = some (ops.getD i default) := by simp [h]

theorem dropId_self {x : Nat} {c : List (Nat × Bool)} (h : ∀ p ∈ c, p.1 ≠ x) : dropId x c = c := by
  unfold dropId
  rw [List.filter_eq_self]
  intro p hp
  have := h p hp
  rw [Bool.not_eq_true', Bool.eq_false_iff]
  exact fun e => this (Nat.eq_of_beq_eq_true e)

theorem dropId_append (x : Nat) (a b : List (Nat × Bool)) : dropId x (a ++ b) = dropId x a ++ dropId x b := by simp [dropId]

theorem mem_dropId {x : Nat} {c : List (Nat × Bool)} {p : Nat × Bool} : p ∈ dropId x c ↔ p ∈ c ∧ p.1 ≠ x := by
  unfold dropId
  rw [List.mem_filter, Bool.not_eq_true', Bool.eq_false_iff]
  exact ⟨fun h => ⟨h.1, fun e => h.2 (by rw [e]; exact Nat.beq_refl _)⟩, fun h => ⟨h.1, fun e => h.2 (Nat.eq_of_beq_eq_true e)⟩⟩

theorem St.mem {listed : Array Bool} {c : List (Nat × Bool)} (hR : St ops listed c) {i : Nat} (hi : i ∈ Region.ready .any ops listed) : ∃ p ∈ c, p.1 = i := by
  obtain ⟨h0, hlt, hw⟩ := ready_waits hi
  exact (hR.all i hlt).resolve_left (by rw [getD_false_of_true h0]; simp)

theorem St.some_ready (hops : opsOk ops) {listed : Array Bool} {p : Nat × Bool} {c : List (Nat × Bool)} (hR : St ops listed (p :: c)) : Region.ready .any ops listed ≠ [] := by
  intro hr
  have hp := hR.un p (List.mem_cons_self ..)
  have : p.1 ∈ Region.ready .any ops listed := by
    rw [mem_ready]
    refine ⟨hp.2.1, ops.getD p.1 default, by simp [hp.1], fun e he hb => ?_⟩
    have hwt : waits ops p.1 e.on = true := waits_spec.2 ⟨_, by simp [hp.1], e, he, rfl, hb⟩
    have hlt := (hops (ops.getD p.1 default) (by simp [hp.1])).2 e he hb
    rcases hR.all e.on hlt with h1 | ⟨q, hq, hqe⟩
    · exact h1
    · exfalso
      rcases List.mem_cons.1 hq with rfl | hq
      · rw [← hqe, hp.2.2] at hwt
        cases hwt
      · have hpw := (List.pairwise_cons.1 hR.ord).1 q hq
        rw [hqe, hwt] at hpw
        cases hpw.1
  rw [hr] at this
  cases this

theorem St.step {listed : Array Bool} {c : List (Nat × Bool)} {i : Nat} (hR : St ops listed c) (hsz : listed.size = ops.size) (hi : i ∈ Region.ready .any ops listed) : St ops (listed.setIfInBounds i true) (dropId i c) := by
  obtain ⟨h0, hlt, hw⟩ := ready_waits hi
  refine ⟨fun p hp => ?_, fun j hj => ?_, hR.ord.sublist (List.filter_sublist ..), fun j e hj he => ?_⟩
  · obtain ⟨hp, hne⟩ := mem_dropId.1 hp
    refine ⟨(hR.un p hp).1, ?_, (hR.un p hp).2.2⟩
    rw [getD_set_ne true (Ne.symm hne)]
    exact (hR.un p hp).2.1
  · by_cases e : i = j
    · subst e; left; simp [hsz, hlt]
    · rcases hR.all j hj with h1 | ⟨p, hp, hpj⟩
      · left; exact getD_set_true h1
      · exact .inr ⟨p, mem_dropId.2 ⟨hp, by rw [hpj]; exact Ne.symm e⟩, hpj⟩
  · by_cases e' : i = j
    · subst e'; exact getD_set_true (hw e he)
    · rw [getD_set_ne false e'] at hj
      exact getD_set_true (hR.closed j e hj he)

theorem wpL_app {Q1 Q2 : Exit → Act → World → Prop} {l2 : List (Bool × Oper)} (hq : ∀ e a w, e ≠ .normal → Q1 e a w → Q2 e a w) (hn : ∀ a w, Q1 .normal a w → wpL P ops D Q2 l2 a w) :
    ∀ (l1 : List (Bool × Oper)) (a : Act) (w : World), wpL P ops D Q1 l1 a w → wpL P ops D Q2 (l1 ++ l2) a w
  | [], _, _, h => hn _ _ h
  | (f, o) :: rest, a, w, h => by
    have ih := wpL_app hq hn rest
    simp only [List.cons_append, wpL] at h ⊢
    split
    · rename_i hw
      simp only [hw, if_true] at h
      cases f with
      | true => obtain ⟨v, hf, hr⟩ := h; exact ⟨v, hf, ih _ _ hr⟩
      | false =>
        refine h.imp (Oper.wp_monoQ (fun _ _ h => ⟨h.1, ih _ _ h.2⟩) ?_) (fun ⟨h1, a, w, h2⟩ => ⟨h1, a, w, hq _ _ _ (by intro e; cases e) h2⟩)
        intro e a w he
        cases e <;> first | exact hq _ _ _ (by intro e; cases e) he | exact he
    · rename_i hw
      simp only [hw] at h
      exact ih _ _ h

theorem not_tab {T : List (Nat × List (Nat × Nat))} (hT : ∀ x ∈ T, chainOk ops x.1 x.2 [] = true) {listed : Array Bool} {c : List (Nat × Bool)} (hR : St ops listed c) {i : Nat} (hi : i ∈ Region.ready .any ops listed) {q : Nat × Bool} (hq : q ∈ c) : ¬ tabHas T q.1 i = true := fun h => by
  have := tabHas_listed hT hR.closed hi h
  rw [getD_false_of_true (hR.un q hq).2.1] at this; cases this

theorem apart_of_ready {T : List (Nat × List (Nat × Nat))} (hT : ∀ x ∈ T, chainOk ops x.1 x.2 [] = true) {listed : Array Bool} {c : List (Nat × Bool)} (hR : St ops listed c) {i : Nat} (hi : i ∈ Region.ready .any ops listed) {q : Nat × Bool} (hq : q ∈ c)
    (h : (waits ops i q.1 || tabHas T q.1 i || apartAt ops q.1 i) = true) : apartAt ops q.1 i = true := by
  simp only [Bool.or_eq_true] at h
  rcases h with (h | h) | h
  · have := (ready_waits hi).2.2 _ h
    rw [getD_false_of_true (hR.un q hq).2.1] at this; cases this
  · exact absurd h (not_tab hT hR hi hq)
  · exact h

/-- A ready operation of the rest is one of the choices. -/
theorem choose {X1 : Nat → Prop} {T : List (Nat × List (Nat × Nat))} {F c : List (Nat × Bool)} {i : Nat} (hic : ∃ p ∈ c, p.1 = i) (hno : ∀ q ∈ c, ¬ tabHas T q.1 i = true) :
    ∀ (pl : Pl) (seen : List Nat), plOk ops T pl F c seen = true → (¬ seen.any (Nat.beq i) = true) → (seen ≠ [] ∨ ∃ x s p, pl = .or x s p) →
      ∃ s, plOk ops T s F (dropId i c) [] = true ∧ (∀ q ∈ F, (waits ops i q.1 || tabHas T q.1 i || apartAt ops q.1 i) = true) ∧ ∀ a w, obl P ops X2 Q pl X1 c a w → wpL P ops (some X1) (nx Q (obl P ops X2 Q s X1 (dropId i c))) [(false, ops.getD i default)] a w
  | .leaf k, seen, h, _, hs => by
    exfalso
    simp only [plOk, Bool.and_eq_true] at h
    have := h.1.1
    rcases hs with hs | ⟨_, _, _, hs⟩
    · cases seen with
      | nil => exact hs rfl
      | cons => simp at this
    · cases hs
  | .fl m p, seen, h, _, hs => by
    exfalso
    simp only [plOk, Bool.and_eq_true] at h
    have := h.1.1.1
    rcases hs with hs | ⟨_, _, _, hs⟩
    · cases seen with
      | nil => exact hs rfl
      | cons => simp at this
    · cases hs
  | .weak p, seen, h, _, hs => by
    exfalso
    simp only [plOk, Bool.and_eq_true] at h
    have := h.1
    rcases hs with hs | ⟨_, _, _, hs⟩
    · cases seen with
      | nil => exact hs rfl
      | cons => simp at this
    · cases hs
  | .cut p, seen, h, _, hs => by
    exfalso
    simp only [plOk, Bool.and_eq_true] at h
    have := h.1.1
    rcases hs with hs | ⟨_, _, _, hs⟩
    · cases seen with
      | nil => exact hs rfl
      | cons => simp at this
    · cases hs
  | .re c' p, seen, h, _, hs => by
    exfalso
    simp only [plOk, Bool.and_eq_true] at h
    have := h.1.1.1.1.1
    rcases hs with hs | ⟨_, _, _, hs⟩
    · cases seen with
      | nil => exact hs rfl
      | cons => simp at this
    · cases hs
  | .or x s p, seen, h, hse, _ => by
    simp only [plOk, Bool.and_eq_true, List.all_eq_true] at h
    by_cases e : i = x
    · subst e
      exact ⟨s, h.1.2, h.1.1.2, fun a w ho => ho.1⟩
    · obtain ⟨s', h1, h2, h3⟩ := choose hic hno p (x :: seen) h.2 (by
        intro hx
        simp only [List.any_cons, Bool.or_eq_true] at hx
        rcases hx with hx | hx
        · exact e (Nat.eq_of_beq_eq_true hx)
        · exact hse hx) (.inl (by simp))
      exact ⟨s', h1, h2, fun a w ho => h3 a w ho.2⟩
  | .stop, seen, h, hse, _ => by
    exfalso
    simp only [plOk, Bool.and_eq_true, List.all_eq_true] at h
    obtain ⟨q, hq, rfl⟩ := hic
    have := h.2 q hq
    simp only [Bool.or_eq_true] at this
    rcases this with h1 | h1
    · exact hse h1
    · obtain ⟨b, hb, hbt⟩ := List.any_eq_true.1 h1
      exact hno b hb hbt

theorem wpL_movesX {K : (Nat → Prop) → Act → World → Prop} {X1 : Nat → Prop} : ∀ (l : List (Bool × Oper)) (a : Act) (w : World), (∀ p ∈ l, p.1 = true ∧ isMove p.2 = true) →
    wpL P ops (some X1) (nx Q (fun a w => ∃ X, K X a w)) l a w → ∃ X, wpL P ops (some X) (nx Q (K X)) l a w
  | [], _, _, _, h => h
  | (f, o) :: rest, a, w, hm, h => by
    obtain ⟨rfl, hmo⟩ : f = true ∧ isMove o = true := hm (f, o) (List.mem_cons_self ..)
    have ih := fun a w => wpL_movesX (K := K) (X1 := X1) rest a w (fun p hp => hm p (List.mem_cons_of_mem _ hp))
    simp only [wpL] at h ⊢
    by_cases hw : Region.wanted o (yielded ops a.tmps) = true
    · simp only [hw, if_true] at h ⊢
      obtain ⟨v, hv, hr⟩ := h
      obtain ⟨u, hu⟩ := isMove_run (P := P) hmo a.eval
      obtain rfl : u = v := by
        have h1 := hv.1
        rw [hu w] at h1
        cases h1; rfl
      obtain ⟨X, hX⟩ := ih _ _ hr
      exact ⟨X, u, Flo.of_all hu w, hX⟩
    · simp only [hw] at h ⊢
      exact ih _ _ h

theorem Flo.weaken {X X1 : Nat → Prop} {s : Sem Next} {v : Value} {w : World} (h : Flo P (some X1) s v w) (hX : ∀ b, X b → X1 b) : Flo P (some X) s v w :=
  ⟨h.1, fun Y hY w' hs => by
    cases hY
    exact h.2 X1 rfl w' ⟨hs.1, fun b hb hx => hs.2 b hb fun hx' => hx (hX b hx')⟩⟩

theorem wpL_weakX {K : (Nat → Prop) → Act → World → Prop} {X1 : Nat → Prop} : ∀ (l : List (Bool × Oper)) (a : Act) (w : World), (∀ p ∈ l, p.1 = true) →
    wpL P ops (some X1) (nx Q (fun a w => ∃ X, (∀ b, X b → X1 b) ∧ K X a w)) l a w → ∃ X, (∀ b, X b → X1 b) ∧ wpL P ops (some X) (nx Q (K X)) l a w
  | [], _, _, _, h => h
  | (f, o) :: rest, a, w, hm, h => by
    obtain rfl : f = true := hm (f, o) (List.mem_cons_self ..)
    have ih := fun a w => wpL_weakX (K := K) (X1 := X1) rest a w (fun p hp => hm p (List.mem_cons_of_mem _ hp))
    simp only [wpL] at h ⊢
    by_cases hw : Region.wanted o (yielded ops a.tmps) = true
    · simp only [hw, if_true] at h ⊢
      obtain ⟨v, hv, hr⟩ := h
      obtain ⟨X, hX, hK⟩ := ih _ _ hr
      exact ⟨X, hX, v, hv.weaken hX, hK⟩
    · simp only [hw] at h ⊢
      exact ih _ _ h

theorem wpAny_of_tree {T : List (Nat × List (Nat × Nat))} (hT : ∀ x ∈ T, chainOk ops x.1 x.2 [] = true) (hops : opsOk ops) :
    ∀ (fuel : Nat) (pl : Pl) (X1 : Nat → Prop) (F c pre : List (Nat × Bool)) (listed : Array Bool) (a : Act) (w : World), fuel = (pre ++ c).length → listed.size = ops.size → plOk ops T pl F c [] = true → pre.Sublist F →
      F.Pairwise (fun p q => pairOk ops T p q = true ∧ p.1 ≠ q.1) → (∀ p ∈ F, p.2 = true) → St ops listed (pre ++ c) →
      wpL P ops (some X1) (nx Q (obl P ops X2 Q pl X1 c)) (theOps ops pre) a w → wpAny P .any ops Q fuel listed a w := by
  intro fuel
  induction fuel with
  | zero =>
    intro pl X1 F c pre listed a w hl hsz hok hsub hF hFf hR h
    obtain ⟨rfl, rfl⟩ : pre = [] ∧ c = [] := by
      cases pre <;> cases c <;> simp at hl ⊢
    have hrr : Region.ready .any ops listed = [] := by
      cases hr : Region.ready .any ops listed with
      | nil => rfl
      | cons i r =>
        exfalso
        obtain ⟨p, hp, _⟩ := hR.mem (i := i) (by rw [hr]; exact List.mem_cons_self ..)
        cases hp
    have key : ∀ (pl : Pl) (X1 : Nat → Prop) (F : List (Nat × Bool)), plOk ops T pl F [] [] = true → obl P ops X2 Q pl X1 [] a w → Q .normal a w := by
      intro pl
      induction pl with
      | leaf k => intro X1 F _ h; simpa [obl, theOps, wpL, ph] using h
      | fl m p ih => intro X1 F hk h; simp only [plOk, Bool.and_eq_true, List.drop_nil, List.take_nil] at hk; exact ih X1 _ hk.2 (by simpa [obl, theOps, wpL, nx] using h)
      | or x s p _ _ => intro X1 F hk _; simp [plOk] at hk
      | re c' p ih =>
        intro X1 F hk h
        simp only [plOk, Bool.and_eq_true] at hk
        have hc' : c' = [] := List.eq_nil_of_length_eq_zero (Nat.eq_of_beq_eq_true hk.1.1.1.1.2).symm
        subst hc'
        exact ih X1 _ hk.2 h
      | weak p ih =>
        intro X1 F hk h
        simp only [plOk, Bool.and_eq_true] at hk
        obtain ⟨X, _, h⟩ := h
        exact ih X _ hk.2 h
      | cut p ih =>
        intro X1 F hk h
        simp only [plOk, Bool.and_eq_true] at hk
        obtain ⟨X, h⟩ := h
        exact ih X _ hk.2 h
      | stop => intro X1 F hk _; simp [plOk] at hk
    exact ⟨hrr, key pl X1 F hok h⟩
  | succ fuel ih =>
    intro pl
    induction pl with
    | leaf k =>
      intro X1 F c pre listed a w hl hsz hok hsub hF hFf hR h
      simp only [plOk, Bool.and_eq_true, List.all_eq_true] at hok
      have hc : c = c.take k ++ c.drop k := (List.take_append_drop k c).symm
      have hsub' : (pre ++ c).Sublist (F ++ c) := List.Sublist.append hsub (List.Sublist.refl _)
      have hRem : Rem ops T listed ((pre ++ c.take k) ++ c.drop k) := by
        rw [List.append_assoc, ← hc]
        exact ⟨hR.un, hR.all, (pairsOk_spec hok.1.2).sublist hsub', hR.closed⟩
      refine wpAny_of_ph (X1 := X1) (X2 := X2) hT hops (fuel + 1) listed (pre ++ c.take k) (c.drop k) a w (by rw [List.append_assoc, ← hc]; exact hl) hsz hRem (fun p hp q hq => ?_) ?_
      · have := hok.2 p (by
          rcases List.mem_append.1 hp with hp | hp
          · exact List.mem_append_left _ (hsub.subset hp)
          · exact List.mem_append_right _ hp) q hq
        simpa using this
      · have := wpL_app (Q2 := ph P ops (some X2) Q (theOps ops (c.drop k))) (l2 := theOps ops (c.take k)) (by intro e a w hne he; cases e <;> first | exact he | exact absurd rfl hne) (fun a w h => h) _ a w h
        simpa [theOps] using this
    | fl m p ihp =>
      intro X1 F c pre listed a w hl hsz hok hsub hF hFf hR h
      simp only [plOk, Bool.and_eq_true, List.all_eq_true] at hok
      have hc : c = c.take m ++ c.drop m := (List.take_append_drop m c).symm
      refine ihp X1 (F ++ c.take m) (c.drop m) (pre ++ c.take m) listed a w (by rw [List.append_assoc, ← hc]; exact hl) hsz hok.2 (List.Sublist.append hsub (List.Sublist.refl _)) (pairsOk_spec hok.1.2) (fun q hq => ?_) (by rw [List.append_assoc, ← hc]; exact hR) ?_
      · rcases List.mem_append.1 hq with hq | hq
        · exact hFf q hq
        · exact hok.1.1.2 q hq
      · have := wpL_app (Q2 := nx Q (obl P ops X2 Q p X1 (c.drop m))) (l2 := theOps ops (c.take m)) (by intro e a w hne he; cases e <;> first | exact he | exact absurd rfl hne) (fun a w h => h) _ a w h
        simpa [theOps] using this
    | or x s p _ _ =>
      intro X1 F c pre listed a w hl hsz hok hsub hF hFf hR h
      refine ⟨fun hr => ?_, fun i hi => ?_⟩
      · exfalso
        cases hpc : pre ++ c with
        | nil => rw [hpc] at hl; simp at hl
        | cons q r => rw [hpc] at hR; exact hR.some_ready hops hr
      · obtain ⟨q, hq, rfl⟩ := hR.mem hi
        have hlt := (ready_waits hi).2.1
        have hdis := (List.pairwise_append.1 hR.ord).2.2
        have hstep := hR.step hsz hi
        rw [dropId_append] at hstep
        rcases List.mem_append.1 hq with hqp | hqc
        · -- it floats
          obtain ⟨p1, p2, rfl⟩ := List.append_of_mem hqp
          have hpp := hF.sublist hsub
          have hqf : q.2 = true := hFf q (hsub.subset hqp)
          have hpre : ∀ r ∈ p1, r.2 = true ∧ apartAt ops r.1 q.1 = true := by
            intro r hr
            have hrf := hFf r (hsub.subset (List.mem_append_left _ hr))
            refine ⟨hrf, apart_of_ready hT hR hi (List.mem_append_left _ (List.mem_append_left _ hr)) ?_⟩
            have := ((List.pairwise_append.1 hpp).2.2 r hr q (List.mem_cons_self ..)).1
            simp only [pairOk, hrf, Bool.and_eq_true] at this
            exact this.2
          have hin : ∀ r ∈ p1, r.1 < ops.size := fun r hr => (hR.un r (List.mem_append_left _ (List.mem_append_left _ hr))).1
          have hfront := wpL_ready (D := some X1) rfl hops (i := q.1) (f := true) hlt hin hpre (by rw [← hqf]; exact h)
          have hop := wpL_wpOp2 (Q := Q) (Q' := nx Q _) (fun _ _ h => h) (i := q.1) (o := ops.getD q.1 default) (get_getDo hlt) hfront
          have e1 : dropId q.1 (p1 ++ q :: p2) = p1 ++ p2 := by
            rw [dropId_append, dropId_self (fun r hr e => ((List.pairwise_append.1 hpp).2.2 r hr q (List.mem_cons_self ..)).2 e)]
            have : dropId q.1 (q :: p2) = dropId q.1 p2 := by show List.filter _ _ = _; rw [List.filter_cons_of_neg (by simp)]; rfl
            rw [this, dropId_self (fun r hr e => ((List.pairwise_cons.1 (List.pairwise_append.1 hpp).2.1).1 r hr).2 e.symm)]
          have e2 : dropId q.1 c = c := dropId_self (fun r hr e => (hdis q hqp r hr).2 e.symm)
          rw [e1, e2] at hstep
          refine wpOp_mono (fun a' w' h' => ih (.or x s p) X1 F c (p1 ++ p2) _ a' w' (by simp only [List.length_append, List.length_cons] at hl ⊢; omega) (by simpa using hsz) hok (List.Sublist.trans (List.Sublist.append (List.Sublist.refl _) (List.sublist_cons_self ..)) hsub) hF hFf hstep h'.2) hop
        · -- it is a choice
          obtain ⟨s', h1, h2, h3⟩ := choose (P := P) (X1 := X1) (X2 := X2) (Q := Q) ⟨q, hqc, rfl⟩ (fun r hr => not_tab hT hR hi (List.mem_append_right _ hr)) (.or x s p) [] hok (by simp) (.inr ⟨_, _, _, rfl⟩)
          have hpre : ∀ r ∈ pre, r.2 = true ∧ apartAt ops r.1 q.1 = true := fun r hr => ⟨hFf r (hsub.subset hr), apart_of_ready hT hR hi (List.mem_append_left _ hr) (h2 r (hsub.subset hr))⟩
          have hin : ∀ r ∈ pre, r.1 < ops.size := fun r hr => (hR.un r (List.mem_append_left _ hr)).1
          have happ := wpL_app (Q2 := nx Q (obl P ops X2 Q s' X1 (dropId q.1 c))) (l2 := [(false, ops.getD q.1 default)]) (by intro e a w hne he; cases e <;> first | exact he | exact absurd rfl hne) h3 _ a w h
          have happ' : wpL P ops (some X1) (nx Q (obl P ops X2 Q s' X1 (dropId q.1 c))) (theOps ops (pre ++ (q.1, false) :: [])) a w := by simpa [theOps] using happ
          have hfront := wpL_ready (D := some X1) rfl hops hlt hin hpre happ'
          rw [List.append_nil] at hfront
          have hop := wpL_wpOp2 (Q := Q) (Q' := nx Q _) (fun _ _ h => h) (i := q.1) (o := ops.getD q.1 default) (get_getDo hlt) hfront
          have e1 : dropId q.1 pre = pre := dropId_self (fun r hr e => (hdis r hr q hqc).2 e)
          rw [e1] at hstep
          have hlen : (dropId q.1 c).length + 1 = c.length := by
            obtain ⟨c1, c2, rfl⟩ := List.append_of_mem hqc
            have ho := (List.pairwise_append.1 hR.ord).2.1
            rw [dropId_append, dropId_self (fun r hr e => ((List.pairwise_append.1 ho).2.2 r hr q (List.mem_cons_self ..)).2 e)]
            have : dropId q.1 (q :: c2) = dropId q.1 c2 := by show List.filter _ _ = _; rw [List.filter_cons_of_neg (by simp)]; rfl
            rw [this, dropId_self (fun r hr e => ((List.pairwise_cons.1 (List.pairwise_append.1 ho).2.1).1 r hr).2 e.symm)]
            simp; omega
          exact wpOp_mono (fun a' w' h' => ih s' X1 F (dropId q.1 c) pre _ a' w' (by simp only [List.length_append] at hl ⊢; omega) (by simpa using hsz) h1 hsub hF hFf hstep h'.2) hop
    | re c' p ihp =>
      intro X1 F c pre listed a w hl hsz hok hsub hF hFf hR h
      simp only [plOk, Bool.and_eq_true, List.all_eq_true] at hok
      obtain ⟨⟨⟨⟨⟨_, hlen⟩, h1⟩, h2⟩, h3⟩, h4⟩ := hok
      have hlen := Nat.eq_of_beq_eq_true hlen
      refine ihp X1 F c' pre listed a w (by rw [hl, List.length_append, List.length_append, hlen]) hsz h4 hsub hF hFf ⟨fun q hq => ?_, fun i hi => ?_, ?_, hR.closed⟩ h
      · rcases List.mem_append.1 hq with hq | hq
        · exact hR.un q (List.mem_append_left _ hq)
        · obtain ⟨r, hr, hqr⟩ := List.any_eq_true.1 (h1 q hq)
          have := hR.un r (List.mem_append_right _ hr)
          rwa [← Nat.eq_of_beq_eq_true hqr] at this
      · rcases hR.all i hi with hh | ⟨q, hq, rfl⟩
        · exact .inl hh
        · right
          rcases List.mem_append.1 hq with hq | hq
          · exact ⟨q, List.mem_append_left _ hq, rfl⟩
          · obtain ⟨r, hr, hqr⟩ := List.any_eq_true.1 (h2 q hq)
            exact ⟨r, List.mem_append_right _ hr, (Nat.eq_of_beq_eq_true hqr).symm⟩
      · exact ((pairsOk_spec h3).imp (fun h => ⟨by simpa using h.1, h.2⟩)).sublist (List.Sublist.append hsub (List.Sublist.refl _))
    | weak p ihp =>
      intro X1 F c pre listed a w hl hsz hok hsub hF hFf hR h
      simp only [plOk, Bool.and_eq_true] at hok
      obtain ⟨X, _, hX⟩ := wpL_weakX (K := fun X => obl P ops X2 Q p X c) (theOps ops pre) a w (fun q hq => by
        obtain ⟨r, hr, rfl⟩ := List.mem_map.1 hq
        exact hFf r (hsub.subset hr)) h
      exact ihp X F c pre listed a w hl hsz hok.2 hsub hF hFf hR hX
    | cut p ihp =>
      intro X1 F c pre listed a w hl hsz hok hsub hF hFf hR h
      have hok0 := hok
      simp only [plOk, Bool.and_eq_true, List.all_eq_true, Bool.or_eq_true] at hok
      by_cases hmv : ∀ q ∈ pre, moveAt ops q = true
      · obtain ⟨X, hX⟩ := wpL_movesX (K := fun X => obl P ops X2 Q p X c) (theOps ops pre) a w (fun q hq => by
          obtain ⟨r, hr, rfl⟩ := List.mem_map.1 hq
          have := hmv r hr
          simp only [moveAt, Bool.and_eq_true] at this
          exact this) h
        refine ihp X (F.filter (moveAt ops)) c pre listed a w hl hsz hok.2 ?_ (hF.sublist (List.filter_sublist ..)) (fun q hq => hFf q (List.mem_filter.1 hq).1) hR hX
        have := hsub.filter (moveAt ops)
        rwa [List.filter_eq_self.2 hmv] at this
      · obtain ⟨q0, hq0, hq0m⟩ : ∃ q, q ∈ pre ∧ ¬ moveAt ops q = true := by
          apply Classical.byContradiction
          intro hne
          exact hmv fun q hq => Classical.byContradiction fun hqm => hne ⟨q, hq, hqm⟩
        refine ⟨fun hr => ?_, fun i hi => ?_⟩
        · exfalso
          cases hpc : pre ++ c with
          | nil => rw [hpc] at hl; simp at hl
          | cons q r => rw [hpc] at hR; exact hR.some_ready hops hr
        · obtain ⟨q, hq, rfl⟩ := hR.mem hi
          have hlt := (ready_waits hi).2.1
          have hdis := (List.pairwise_append.1 hR.ord).2.2
          have hstep := hR.step hsz hi
          rw [dropId_append] at hstep
          rcases List.mem_append.1 hq with hqp | hqc
          · obtain ⟨p1, p2, rfl⟩ := List.append_of_mem hqp
            have hpp := hF.sublist hsub
            have hqf : q.2 = true := hFf q (hsub.subset hqp)
            have hpre : ∀ r ∈ p1, r.2 = true ∧ apartAt ops r.1 q.1 = true := by
              intro r hr
              have hrf := hFf r (hsub.subset (List.mem_append_left _ hr))
              refine ⟨hrf, apart_of_ready hT hR hi (List.mem_append_left _ (List.mem_append_left _ hr)) ?_⟩
              have := ((List.pairwise_append.1 hpp).2.2 r hr q (List.mem_cons_self ..)).1
              simp only [pairOk, hrf, Bool.and_eq_true] at this
              exact this.2
            have hin : ∀ r ∈ p1, r.1 < ops.size := fun r hr => (hR.un r (List.mem_append_left _ (List.mem_append_left _ hr))).1
            have hfront := wpL_ready (D := some X1) rfl hops (i := q.1) (f := true) hlt hin hpre (by rw [← hqf]; exact h)
            have hop := wpL_wpOp2 (Q := Q) (Q' := nx Q _) (fun _ _ h => h) (i := q.1) (o := ops.getD q.1 default) (get_getDo hlt) hfront
            have e1 : dropId q.1 (p1 ++ q :: p2) = p1 ++ p2 := by
              rw [dropId_append, dropId_self (fun r hr e => ((List.pairwise_append.1 hpp).2.2 r hr q (List.mem_cons_self ..)).2 e)]
              have : dropId q.1 (q :: p2) = dropId q.1 p2 := by show List.filter _ _ = _; rw [List.filter_cons_of_neg (by simp)]; rfl
              rw [this, dropId_self (fun r hr e => ((List.pairwise_cons.1 (List.pairwise_append.1 hpp).2.1).1 r hr).2 e.symm)]
            have e2 : dropId q.1 c = c := dropId_self (fun r hr e => (hdis q hqp r hr).2 e.symm)
            rw [e1, e2] at hstep
            refine wpOp_mono (fun a' w' h' => ih (.cut p) X1 F c (p1 ++ p2) _ a' w' (by simp only [List.length_append, List.length_cons] at hl ⊢; omega) (by simpa using hsz) hok0 (List.Sublist.trans (List.Sublist.append (List.Sublist.refl _) (List.sublist_cons_self ..)) hsub) hF hFf hstep h'.2) hop
          · exfalso
            rcases hok.1.2 q0 (hsub.subset hq0) with h1 | h1
            · exact hq0m h1
            · exact not_tab hT hR hi (List.mem_append_left _ hq0) (h1 q hqc)
    | stop =>
      intro X1 F c pre listed a w hl hsz hok
      simp [plOk] at hok

def treeOk (ops : Array Oper) (pl : Pl) (c : List (Nat × Bool)) (T : List (Nat × List (Nat × Nat))) : Bool :=
  c.all (fun p => Nat.blt p.1 ops.size && !(waits ops p.1 p.1)) && Nat.beq c.length ops.size && pairsOk (fun p q => !(waits ops p.1 q.1)) c && T.all (fun x => chainOk ops x.1 x.2 []) &&
  ops.toList.all (fun o => noSel o && o.after.all fun e => Nat.blt e.on ops.size || !Region.binds .any e) && (List.range ops.size).all (fun i => c.any fun p => Nat.beq p.1 i) && plOk ops T pl [] c []

theorem wp_tree {id : Nat} {a : Act} {w : World} (hm : P.follows .mixedOrders = true) (X1 X2 : Nat → Prop) (pl : Pl) (c : List (Nat × Bool)) (T : List (Nat × List (Nat × Nat))) (hc : treeOk ops pl c T = true)
    (h : obl P ops X2 Q pl X1 c a { w with drawn := w.drawn + 1 }) : (Code.region id ops true).wp P Q a w := by
  simp only [treeOk, Bool.and_eq_true, List.all_eq_true] at hc
  obtain ⟨⟨⟨⟨⟨⟨k1, k2⟩, k3⟩, k4⟩, k5⟩, k6⟩, k7⟩ := hc
  have hlen := Nat.eq_of_beq_eq_true k2
  have hops : opsOk ops := fun o ho => ⟨(k5 o ho).1, fun e he hb => by
    have := (k5 o ho).2
    have := Array.all_eq_true_iff_forall_mem.1 this e he
    simpa [hb] using this⟩
  have hin : ∀ p ∈ c, p.1 < ops.size := fun p hp => by have := (k1 p hp).1; simpa using this
  refine wp_region_any hm (wpAny_of_tree k4 hops ops.size pl X1 [] c [] _ a _ hlen.symm (by simp) k7 (List.Sublist.refl _) .nil (fun _ h => by cases h) ?_ h)
  refine ⟨fun p hp => ⟨hin p hp, by simp [hin p hp], by have := (k1 p hp).2; simpa using this⟩, fun i hi => .inr ?_, (pairsOk_spec k3).imp (fun h => ⟨by simpa using h.1, h.2⟩), fun j e hj => ?_⟩
  · obtain ⟨p, hp, he⟩ := List.any_eq_true.1 (k6 i (List.mem_range.2 hi))
    exact ⟨p, hp, Nat.eq_of_beq_eq_true he⟩
  · exfalso
    rcases Nat.lt_or_ge j ops.size with h' | h' <;> simp [h'] at hj

theorem q_nx {K : Act → World → Prop} {a : Act} {w : World} (h : K a w) : nx Q K .normal a w := h
variable {X1 : Nat → Prop}
theorem o_re {pl : Pl} {c c' : List (Nat × Bool)} {a : Act} {w : World} (h : obl P ops X2 Q pl X1 c' a w) : obl P ops X2 Q (.re c' pl) X1 c a w := h
theorem o_fl {pl : Pl} {m : Nat} {c : List (Nat × Bool)} {l : List (Bool × Oper)} {a : Act} {w : World} (hl : theOps ops (c.take m) = l) (h : wpL P ops (some X1) (nx Q (obl P ops X2 Q pl X1 (c.drop m))) l a w) : obl P ops X2 Q (.fl m pl) X1 c a w := by
  subst hl; exact h
theorem o_or {s pl : Pl} {x : Nat} {c : List (Nat × Bool)} {o : Oper} {a : Act} {w : World} (hl : ops.getD x default = o) (h : wpL P ops (some X1) (nx Q (obl P ops X2 Q s X1 (dropId x c))) [(false, o)] a w) (k : obl P ops X2 Q pl X1 c a w) : obl P ops X2 Q (.or x s pl) X1 c a w := by
  subst hl; exact ⟨h, k⟩
theorem o_leaf {k : Nat} {c : List (Nat × Bool)} {l1 l2 : List (Bool × Oper)} {a : Act} {w : World} (h1 : theOps ops (c.take k) = l1) (h2 : theOps ops (c.drop k) = l2) (h : wpL P ops (some X1) (ph P ops (some X2) Q l2) l1 a w) : obl P ops X2 Q (.leaf k) X1 c a w := by
  subst h1 h2; exact h
theorem o_weak (X : Nat → Prop) {pl : Pl} {c : List (Nat × Bool)} {a : Act} {w : World} (hX : ∀ b, X b → X1 b) (h : obl P ops X2 Q pl X c a w) : obl P ops X2 Q (.weak pl) X1 c a w := ⟨X, hX, h⟩
theorem o_cut (X : Nat → Prop) {pl : Pl} {c : List (Nat × Bool)} {a : Act} {w : World} (h : obl P ops X2 Q pl X c a w) : obl P ops X2 Q (.cut pl) X1 c a w := ⟨X, h⟩
end Go.Kx
