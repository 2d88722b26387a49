/- Own library, part B2: a region that draws its order, of which two operations that do not float have no order. -/
import Derived.Test.YtlieojojahhmmaaKxB
set_option linter.unusedSimpArgs false
set_option linter.unusedVariables false
namespace Go.Kx
open Go
variable {P : Program} {ops : Array Oper} {D : Option (Nat → Prop)} {Q : Exit → Act → World → Prop}

theorem wpL_float {X : Nat → Prop} {Q' : Exit → Act → World → Prop} {i : Nat} (hlt : i < ops.size) {c1 c2 : List (Bool × Oper)} {a : Act} {w : World}
    (h1 : wpL P ops (some X) Q' ((true, ops.getD i default) :: c1) a w) (h2 : wpL P ops (some X) Q' ((true, ops.getD i default) :: c2) a w) :
    wpOp P ops Q i (fun a' w' => wpL P ops (some X) Q' c1 a' w' ∧ wpL P ops (some X) Q' c2 a' w') a w := by
  unfold Go.wpOp
  have hi : ops[i]? = some (ops.getD i default) := by simp [hlt]
  simp only [hi]
  simp only [wpL] at h1 h2
  by_cases hw : Region.wanted (ops.getD i default) (yielded ops a.tmps) = true
  · simp only [hw, if_true] at h1 h2 ⊢
    obtain ⟨v, hv, r1⟩ := h1
    obtain ⟨u, hu, r2⟩ := h2
    have e : u = v := by
      have := hu.1
      rw [hv.1] at this
      cases this; rfl
    subst e
    refine .inl ?_
    unfold Oper.wp
    rw [hv.1]
    exact ⟨r1, r2⟩
  · simp only [hw] at h1 h2 ⊢
    exact ⟨h1, h2⟩

structure Fork (ops : Array Oper) (T : List (Nat × List (Nat × Nat))) (listed : Array Bool) (pre : List (Nat × Bool)) (x y : Nat × Bool) (rest : List (Nat × Bool)) : Prop where
  un : ∀ p ∈ pre ++ x :: y :: rest, p.1 < ops.size ∧ listed.getD p.1 true = false ∧ waits ops p.1 p.1 = false
  all : ∀ i, i < ops.size → listed.getD i false = true ∨ ∃ p ∈ pre ++ x :: y :: rest, p.1 = i
  px : (pre ++ x :: rest).Pairwise (fun p q => pairOk ops T p q = true ∧ p.1 ≠ q.1)
  py : (pre ++ y :: rest).Pairwise (fun p q => pairOk ops T p q = true ∧ p.1 ≠ q.1)
  xy : waits ops x.1 y.1 = false ∧ waits ops y.1 x.1 = false ∧ x.1 ≠ y.1
  fl : ∀ p ∈ pre, p.2 = true
  back : x.2 = false ∧ y.2 = false
  closed : ∀ j e, listed.getD j false = true → waits ops j e = true → listed.getD e false = true

theorem wpAny_of_fork {X1 X2 : Nat → Prop} {T : List (Nat × List (Nat × Nat))} (hT : ∀ x ∈ T, chainOk ops x.1 x.2 [] = true) (hops : opsOk ops) {x y : Nat × Bool} {post c2 : List (Nat × Bool)} :
    ∀ (fuel : Nat) (listed : Array Bool) (pre : List (Nat × Bool)) (a : Act) (w : World), fuel = (pre ++ x :: y :: (post ++ c2)).length → listed.size = ops.size → Fork ops T listed pre x y (post ++ c2) →
      (∀ p ∈ pre ++ x :: y :: post, ∀ q ∈ c2, moveAt ops p = true ∨ tabHas T p.1 q.1 = true) →
      wpL P ops (some X1) (ph P ops (some X2) Q (theOps ops c2)) (theOps ops (pre ++ x :: y :: post)) a w → wpL P ops (some X1) (ph P ops (some X2) Q (theOps ops c2)) (theOps ops (pre ++ y :: x :: post)) a w →
      wpAny P .any ops Q fuel listed a w := by
  intro fuel
  induction fuel with
  | zero => intro listed pre a w hl; simp at hl
  | succ fuel ih =>
    intro listed pre a w hl hsz hF hx h1 h2
    -- after x (or y) is listed, one order is left
    have one : ∀ (x y : Nat × Bool), (∀ p ∈ pre ++ x :: y :: (post ++ c2), p.1 < ops.size ∧ listed.getD p.1 true = false ∧ waits ops p.1 p.1 = false) →
        (∀ i, i < ops.size → listed.getD i false = true ∨ ∃ p ∈ pre ++ x :: y :: (post ++ c2), p.1 = i) →
        (pre ++ x :: (post ++ c2)).Pairwise (fun p q => pairOk ops T p q = true ∧ p.1 ≠ q.1) → (pre ++ y :: (post ++ c2)).Pairwise (fun p q => pairOk ops T p q = true ∧ p.1 ≠ q.1) → x.1 ≠ y.1 →
        (∀ p ∈ pre ++ x :: y :: post, ∀ q ∈ c2, moveAt ops p = true ∨ tabHas T p.1 q.1 = true) → x.1 ∈ Region.ready .any ops listed →
        wpL P ops (some X1) (ph P ops (some X2) Q (theOps ops c2)) (theOps ops (pre ++ x :: y :: post)) a w → fuel + 1 = (pre ++ x :: y :: (post ++ c2)).length →
        wpOp P ops Q x.1 (wpAny P .any ops Q fuel (listed.setIfInBounds x.1 true)) a w := by
      intro x y un all px py ne hx hi h hl
      obtain ⟨i, f⟩ := x
      obtain ⟨h0, hlt, hw⟩ := ready_waits hi
      have hpre : ∀ q ∈ pre, q.2 = true ∧ apartAt ops q.1 i = true := by
        intro q hq
        have hpw := (List.pairwise_append.1 px).2.2 q hq (i, f) (List.mem_cons_self ..)
        have hun : listed.getD q.1 false = false := getD_false_of_true (un q (List.mem_append_left _ hq)).2.1
        have hfl := hF.fl q hq
        obtain ⟨hpair, _⟩ := hpw
        simp only [pairOk, Bool.and_eq_true, hfl, Bool.or_eq_true] at hpair
        refine ⟨hfl, ?_⟩
        rcases hpair.2 with (h | h) | h
        · have := hw _ h
          rw [hun] at this; cases this
        · have := tabHas_listed hT hF.closed hi h
          rw [hun] at this; cases this
        · exact h
      have hfront := wpL_ready (post := y :: post) rfl hops hlt (fun q hq => (un q (List.mem_append_left _ hq)).1) hpre h
      have hop := wpL_wpOp2 (ops := ops) (Q := Q) (Q' := ph P ops (some X2) Q (theOps ops c2)) (fun _ _ h => h) (i := i) (o := ops.getD i default) (by simp [hlt]) hfront
      have hne : ∀ p ∈ pre ++ y :: (post ++ c2), p.1 ≠ i := fun p hp e => by
        rcases List.mem_append.1 hp with hp | hp
        · exact ((List.pairwise_append.1 px).2.2 p hp (i, f) (List.mem_cons_self ..)).2 e
        · rcases List.mem_cons.1 hp with rfl | hp
          · exact ne e.symm
          · exact ((List.pairwise_cons.1 (List.pairwise_append.1 px).2.1).1 p hp).2 e.symm
      have hR : Rem ops T (listed.setIfInBounds i true) ((pre ++ y :: post) ++ c2) := by
        have e : (pre ++ y :: post) ++ c2 = pre ++ y :: (post ++ c2) := by simp
        rw [e]
        have hm : ∀ p ∈ pre ++ y :: (post ++ c2), p ∈ pre ++ (i, f) :: y :: (post ++ c2) := fun p hp => by
          rcases List.mem_append.1 hp with hp | hp
          · exact List.mem_append_left _ hp
          · exact List.mem_append_right _ (List.mem_cons_of_mem _ hp)
        refine ⟨fun p hp => ⟨(un p (hm p hp)).1, ?_, (un p (hm p hp)).2.2⟩, fun j hj => ?_, py, fun j e hj he => ?_⟩
        · rw [getD_set_ne true (Ne.symm (hne p hp))]
          exact (un p (hm p hp)).2.1
        · by_cases e : i = j
          · subst e; left; simp [hsz, hlt]
          · rcases all j hj with h1 | ⟨p, hp, hpj⟩
            · left; exact getD_set_true h1
            · right
              refine ⟨p, ?_, hpj⟩
              rcases List.mem_append.1 hp with hp | hp
              · exact List.mem_append_left _ hp
              · rcases List.mem_cons.1 hp with rfl | hp
                · exact absurd hpj e
                · exact List.mem_append_right _ hp
        · by_cases e' : i = j
          · subst e'; exact getD_set_true (hw e he)
          · rw [getD_set_ne false e'] at hj
            exact getD_set_true (hF.closed j e hj he)
      refine wpOp_mono (fun a' w' h' => wpAny_of_ph hT hops fuel _ (pre ++ y :: post) c2 a' w' (by simp only [List.length_append, List.length_cons] at hl ⊢; omega) (by simpa using hsz) hR (fun p hp q hq => hx p ?_ q hq) h'.2) hop
      rcases List.mem_append.1 hp with hp | hp
      · exact List.mem_append_left _ hp
      · exact List.mem_append_right _ (List.mem_cons_of_mem _ hp)
    have hxr : listed.getD x.1 false = false := getD_false_of_true (hF.un x (by simp)).2.1
    refine ⟨fun hr => ?_, fun i hi => ?_⟩
    · exfalso
      -- the first of pre, or x, is ready
      have key : ∀ p : Nat × Bool, p ∈ pre ++ x :: y :: (post ++ c2) → (∀ q ∈ pre ++ x :: y :: (post ++ c2), waits ops p.1 q.1 = false) → False := by
        intro p hp hq
        have hp' := hF.un p hp
        have : p.1 ∈ Region.ready .any ops listed := by
          rw [mem_ready]
          refine ⟨hp'.2.1, ops.getD p.1 default, by simp [hp'.1], fun e he hb => ?_⟩
          have hwt : waits ops p.1 e.on = true := waits_spec.2 ⟨_, by simp [hp'.1], e, he, rfl, hb⟩
          have hlt := (hops (ops.getD p.1 default) (by simp [hp'.1])).2 e he hb
          rcases hF.all e.on hlt with h1 | ⟨q, hq', hqe⟩
          · exact h1
          · exfalso
            have := hq q hq'
            rw [hqe, hwt] at this; cases this
        rw [hr] at this; cases this
      have nw : ∀ {p q : Nat × Bool}, pairOk ops T p q = true → waits ops p.1 q.1 = false := fun h => by
        simp only [pairOk, Bool.and_eq_true, Bool.not_eq_true'] at h; exact h.1
      cases pre with
      | nil =>
        refine key x (by simp) fun q hq => ?_
        rcases List.mem_cons.1 hq with rfl | hq
        · exact (hF.un q (by simp)).2.2
        · rcases List.mem_cons.1 hq with rfl | hq
          · exact hF.xy.1
          · exact nw ((List.pairwise_cons.1 hF.px).1 q hq).1
      | cons p pre =>
        refine key p (by simp) fun q hq => ?_
        rcases List.mem_cons.1 hq with rfl | hq
        · exact (hF.un q (by simp)).2.2
        · rcases List.mem_append.1 hq with hq | hq
          · exact nw ((List.pairwise_cons.1 hF.px).1 q (List.mem_append_left _ hq)).1
          · rcases List.mem_cons.1 hq with rfl | hq
            · exact nw ((List.pairwise_cons.1 hF.px).1 q (List.mem_append_right _ (List.mem_cons_self ..))).1
            · rcases List.mem_cons.1 hq with rfl | hq
              · exact nw ((List.pairwise_cons.1 hF.py).1 q (List.mem_append_right _ (List.mem_cons_self ..))).1
              · exact nw ((List.pairwise_cons.1 hF.px).1 q (List.mem_append_right _ (List.mem_cons_of_mem _ hq))).1
    · obtain ⟨h0, hlt, hw⟩ := ready_waits hi
      obtain ⟨p, hp, rfl⟩ : ∃ p ∈ pre ++ x :: y :: (post ++ c2), p.1 = i := (hF.all i hlt).resolve_left (by rw [getD_false_of_true h0]; simp)
      rcases List.mem_append.1 hp with hp | hp
      · -- a float
        obtain ⟨p1, p2, rfl⟩ := List.append_of_mem hp
        obtain ⟨i, f⟩ := p
        obtain rfl : f = true := hF.fl (i, f) (by simp)
        have hpre : ∀ q ∈ p1, q.2 = true ∧ apartAt ops q.1 i = true := by
          intro q hq
          have hpw := (List.pairwise_append.1 (List.pairwise_append.1 hF.px).1).2.2 q hq (i, true) (List.mem_cons_self ..)
          have hun : listed.getD q.1 false = false := getD_false_of_true (hF.un q (by simp [hq])).2.1
          have hfl := hF.fl q (by simp [hq])
          obtain ⟨hpair, _⟩ := hpw
          simp only [pairOk, Bool.and_eq_true, hfl, Bool.or_eq_true] at hpair
          refine ⟨hfl, ?_⟩
          rcases hpair.2 with (h | h) | h
          · have := hw _ h
            rw [hun] at this; cases this
          · have := tabHas_listed hT hF.closed hi h
            rw [hun] at this; cases this
          · exact h
        have e1 : ∀ t : List (Nat × Bool), p1 ++ (i, true) :: p2 ++ t = p1 ++ (i, true) :: (p2 ++ t) := fun t => by simp
        rw [e1] at h1 h2
        have f1 := wpL_ready rfl hops hlt (fun q hq => (hF.un q (by simp [hq])).1) hpre h1
        have f2 := wpL_ready rfl hops hlt (fun q hq => (hF.un q (by simp [hq])).1) hpre h2
        have hsub : ∀ t : List (Nat × Bool), (p1 ++ p2 ++ t).Sublist (p1 ++ (i, true) :: p2 ++ t) := fun t => by
          refine List.Sublist.append ?_ (List.Sublist.refl _)
          exact List.Sublist.append (List.Sublist.refl _) (List.sublist_cons_self ..)
        refine wpOp_mono (fun a' w' h' => ih _ (p1 ++ p2) a' w' (by simp at hl ⊢; omega) (by simpa using hsz) ?_ (fun p hp q hq => hx p ?_ q hq) (by simpa using h'.1) (by simpa using h'.2)) (wpL_float (Q := Q) hlt f1 f2)
        · have hne : ∀ p ∈ p1 ++ p2 ++ x :: y :: (post ++ c2), p.1 ≠ i := fun p hp e => by
            rcases List.mem_append.1 hp with hp | hp
            · rcases List.mem_append.1 hp with hp | hp
              · exact ((List.pairwise_append.1 (List.pairwise_append.1 hF.px).1).2.2 p hp (i, true) (List.mem_cons_self ..)).2 e
              · exact ((List.pairwise_cons.1 (List.pairwise_append.1 (List.pairwise_append.1 hF.px).1).2.1).1 p hp).2 e.symm
            · have hi' : (i, true) ∈ p1 ++ (i, true) :: p2 := by simp
              rcases List.mem_cons.1 hp with rfl | hp
              · exact ((List.pairwise_append.1 hF.px).2.2 (i, true) hi' p (List.mem_cons_self ..)).2 e.symm
              · rcases List.mem_cons.1 hp with rfl | hp
                · exact ((List.pairwise_append.1 hF.py).2.2 (i, true) hi' p (List.mem_cons_self ..)).2 e.symm
                · exact ((List.pairwise_append.1 hF.px).2.2 (i, true) hi' p (List.mem_cons_of_mem _ hp)).2 e.symm
          refine ⟨fun p hp => ?_, fun j hj => ?_, hF.px.sublist (hsub _), hF.py.sublist (hsub _), hF.xy, fun p hp => hF.fl p ?_, hF.back, fun j e hj he => ?_⟩
          · have hm := (hsub (x :: y :: (post ++ c2))).subset hp
            refine ⟨(hF.un p hm).1, ?_, (hF.un p hm).2.2⟩
            rw [getD_set_ne true (Ne.symm (hne p hp))]
            exact (hF.un p hm).2.1
          · by_cases e : i = j
            · subst e; left; simp [hsz, hlt]
            · rcases hF.all j hj with h1 | ⟨p, hp, hpj⟩
              · left; exact getD_set_true h1
              · right
                refine ⟨p, ?_, hpj⟩
                simp only [List.mem_append, List.mem_cons] at hp ⊢
                rcases hp with (hp | rfl | hp) | hp
                · exact .inl (.inl hp)
                · exact absurd hpj e
                · exact .inl (.inr hp)
                · exact .inr hp
          · rcases List.mem_append.1 hp with hp | hp <;> simp [hp]
          · by_cases e' : i = j
            · subst e'; exact getD_set_true (hw e he)
            · rw [getD_set_ne false e'] at hj
              exact getD_set_true (hF.closed j e hj he)
        · exact (hsub (x :: y :: post)).subset hp
      · rcases List.mem_cons.1 hp with rfl | hp
        · exact one p y hF.un hF.all hF.px hF.py hF.xy.2.2 hx hi h1 hl
        · rcases List.mem_cons.1 hp with rfl | hp
          · have sw : ∀ (t : List (Nat × Bool)) (q : Nat × Bool), q ∈ pre ++ p :: x :: t ↔ q ∈ pre ++ x :: p :: t := fun t q => by
              simp only [List.mem_append, List.mem_cons]
              constructor <;> rintro (h | h | h | h) <;> simp [h]
            refine one p x (fun q hq => hF.un q ((sw _ q).1 hq)) (fun i hi => (hF.all i hi).imp id fun ⟨q, hq, e⟩ => ⟨q, (sw _ q).2 hq, e⟩) hF.py hF.px hF.xy.2.2.symm (fun q hq => hx q ((sw _ q).1 hq)) hi h2 ?_
            simp only [List.length_append, List.length_cons] at hl ⊢; omega
          · exfalso
            have hpw := (List.pairwise_cons.1 (List.pairwise_append.1 hF.px).2.1).1 p hp
            have hp2 := hpw.1
            simp only [pairOk, Bool.and_eq_true, hF.back.1] at hp2
            have := tabHas_listed hT hF.closed hi hp2.2
            rw [hxr] at this; cases this

/-- The closed check of a region in which two operations that do not float have no order. -/
def forkOk (ops : Array Oper) (pre : List (Nat × Bool)) (x y : Nat × Bool) (post c2 : List (Nat × Bool)) (T : List (Nat × List (Nat × Nat))) : Bool :=
  let c := pre ++ x :: y :: (post ++ c2)
  c.all (fun p => Nat.blt p.1 ops.size && !(waits ops p.1 p.1)) && Nat.beq c.length ops.size && pairsOk (pairOk ops T) (pre ++ x :: (post ++ c2)) && pairsOk (pairOk ops T) (pre ++ y :: (post ++ c2)) &&
  T.all (fun x => chainOk ops x.1 x.2 []) && ops.toList.all (fun o => noSel o && o.after.all fun e => Nat.blt e.on ops.size || !Region.binds .any e) &&
  (List.range ops.size).all (fun i => c.any fun p => Nat.beq p.1 i) && (!(waits ops x.1 y.1) && !(waits ops y.1 x.1) && !(Nat.beq x.1 y.1)) && pre.all (fun p => p.2) && (!x.2 && !y.2)

theorem wp_fork {id : Nat} {ops : Array Oper} {a : Act} {w : World} (hm : P.follows .mixedOrders = true) (X1 X2 : Nat → Prop) (pre : List (Nat × Bool)) (x y : Nat × Bool) (post c2 : List (Nat × Bool)) (T : List (Nat × List (Nat × Nat)))
    (hc : forkOk ops pre x y post c2 T = true) (hx : crossOk ops (pre ++ x :: y :: post) c2 T = true) {l1 l1' l2 : List (Bool × Oper)} (hl1 : theOps ops (pre ++ x :: y :: post) = l1) (hl1' : theOps ops (pre ++ y :: x :: post) = l1') (hl2 : theOps ops c2 = l2)
    (h : wpL P ops (some X1) (ph P ops (some X2) Q l2) l1 a { w with drawn := w.drawn + 1 }) (h' : wpL P ops (some X1) (ph P ops (some X2) Q l2) l1' a { w with drawn := w.drawn + 1 }) :
    (Code.region id ops true).wp P Q a w := by
  subst hl1 hl1' hl2
  simp only [forkOk, Bool.and_eq_true, List.all_eq_true] at hc
  obtain ⟨⟨⟨⟨⟨⟨⟨⟨⟨k1, k2⟩, k3⟩, k4⟩, k5⟩, k6⟩, k7⟩, k8⟩, k9⟩, k10⟩ := hc
  have hlen := Nat.eq_of_beq_eq_true k2
  have hin : ∀ p ∈ pre ++ x :: y :: (post ++ c2), p.1 < ops.size := fun p hp => by have := (k1 p hp).1; simpa using this
  have hops : opsOk ops := fun o ho => ⟨(k6 o ho).1, fun e he hb => by
    have := (k6 o ho).2
    have := Array.all_eq_true_iff_forall_mem.1 this e he
    simpa [hb] using this⟩
  refine wp_region_any hm (wpAny_of_fork k5 hops ops.size _ pre a _ hlen.symm (by simp) ?_ (fun p hp q hq => ?_) h h')
  · refine ⟨fun p hp => ⟨hin p hp, by simp [hin p hp], by have := (k1 p hp).2; simpa using this⟩, fun i hi => .inr ?_, pairsOk_spec k3, pairsOk_spec k4, ?_, k9, ?_, fun j e hj => ?_⟩
    · obtain ⟨p, hp, he⟩ := List.any_eq_true.1 (k7 i (List.mem_range.2 hi))
      exact ⟨p, hp, Nat.eq_of_beq_eq_true he⟩
    · refine ⟨by simpa using k8.1.1, by simpa using k8.1.2, fun e => ?_⟩
      have := k8.2
      rw [e] at this; simp at this
    · exact ⟨by simpa using k10.1, by simpa using k10.2⟩
    · exfalso
      rcases Nat.lt_or_ge j ops.size with h' | h' <;> simp [h'] at hj
  · have := List.all_eq_true.1 (List.all_eq_true.1 hx p hp) q hq
    simpa using this

end Go.Kx
