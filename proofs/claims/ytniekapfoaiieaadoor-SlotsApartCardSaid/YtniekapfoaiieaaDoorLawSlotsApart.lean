/- SlotsApart of casematelaw25 returns true for whatever key and turns; the turns read behind the call as before. No condition. -/
import Derived.Test.YtniekapfoaiieaaDoorLz
import Derived.Test.YtniekapfoaiieaaDoorTie
import Derived.Test.YtniekapfoaiieaaDoorCards
set_option linter.unusedSimpArgs false
set_option linter.unusedVariables false
namespace Go.Proofs.YtniekapfoaiieaaDoor
open Go Go.Kx
open Go.ChangeShapes Go.WideShapes Go.ChangeAt Go.RowKit

set_option maxRecDepth 100000 in
theorem slotsApart_lifted (os : Os) (started : os.Started) (H : Type) (enc : TypeId × Value → H) :
  ReturnsInHanded {} Tryd.checked os 12 .any (fun w args => (Rows.slotsApartSpec.pre enc Tryd.prog Tryd.f12 [] false w args ∧ laidMetH Tryd.prog Rows.slotsApartRow.laid w) ∧ sizedMet enc Tryd.prog Tryd.f12 (OpenSpec.ofChange Rows.slotsApartSpec) false w args) (Rows.slotsApartSpec.post enc Tryd.prog Tryd.f12 false true false false) := by
 refine law_liftedL (C := Tryd.checked) (fn := Tryd.f12) (l := Rows.slotsApartRow.laid) (by kernel_rfl) started (by kernel_rfl) Tryd.func12 rfl (fun ds hl => ?_) rfl Tryd.underlying4 (by kernel_rfl) (of_decide_eq_true (by kernel_rfl)) (by kernel_rfl)
  (ChangeSpec.witness_shaped (enc := enc) (C := Tryd.checked) (os := os) (X := fun w _ => laidMetH Tryd.prog Rows.slotsApartRow.laid w) false (World.laidAll Tryd.prog os Rows.slotsApartRow.laid) #[.agg (bv (List.replicate 32 0)).toArray,.slice none 0 0] 8 (World.laidAll_os _ _ _) (World.shaped_of_ZipB (by kernel_rfl) (by kernel_rfl)) (by kernel_rfl) (by kernel_rfl) (by kernel_rfl) (by rw [MakeChecks.laidMetH_plain _ _ _ (by kernel_rfl)];exact laidMet_laidAll _ (by kernel_rfl) (by kernel_rfl))) ?_
 ·rw [Tryd.params12] at hl
  match ds,hl with
  | [_,_],_ => rfl
 ·intro W base args ds ps hval hA hw hL
  have hG := glb_of_laid (P := Tryd.prog) (g := 1) (t := 170) (e := 129) (by kernel_rfl) (by kernel_rfl) Tryd.underlying170 Tryd.underlying129 (by kernel_rfl) (by kernel_rfl) (by kernel_rfl) (show laidMet Tryd.prog (_ :: _) W from (laidMet_tail (laidMet_tail (laidMet_tail hL))))
  have hT : tabP.holds W := tabE_of_laid (P := Tryd.prog) (g := 0) (t := 163) (e := 24) (n := 20) (by kernel_rfl) (by kernel_rfl) Tryd.underlying163 Tryd.underlying24 (by kernel_rfl) (by kernel_rfl) (by kernel_rfl) (show laidMet Tryd.prog (_ :: _) W from (laidMet_tail (laidMet_tail hL)))
  rw [Tryd.params12] at hA hval hw
  obtain ⟨v0,vs0,d0,ds0,p0,q0,hargs,rfl,rfl,h0,r0⟩ := trodAll_cons hA
  obtain ⟨v1,vs1,d1,ds1,p1,q1,rfl,rfl,rfl,h1,r1⟩ := trodAll_cons r0
  obtain ⟨rfl,rfl,rfl⟩ := trodAll_nil r1
  obtain rfl : args = #[v0,v1] := by cases args;simp_all
  obtain ⟨a0,rfl,ha0⟩ := arg_arr8 Tryd.underlying23 Tryd.underlying5 (by kernel_rfl) (by kernel_rfl) (hval 0 23 v0 rfl rfl) h0 (fun m hm => hw m (by simp only [DataW.weightsEach,List.mem_append];exact .inl hm))
  obtain ⟨ts1,c1,hr1,ho1,hn1⟩ := arg_rowsB (es := 52) (by_ := 88) Tryd.underlying86 (by kernel_rfl) (by kernel_rfl) (by decide) (by decide) ((dec_f3 (t := 89) (s := 52) (n0 := 1) (n1 := 50) (n2 := 1) (o2 := 51) Tryd.underlying89 (by kernel_rfl) (by kernel_rfl) rfl rfl (dec_bool Tryd.underlying4) (dec_f4 (t := 84) (s := 50) (n0 := 32) (n1 := 1) (n2 := 16) (n3 := 1) (o2 := 33) (o3 := 49) Tryd.underlying84 (by kernel_rfl) (by kernel_rfl) rfl rfl rfl (dec_arr8 (n := 32) Tryd.underlying23 Tryd.underlying5 (by kernel_rfl) (by kernel_rfl)) (dec_string Tryd.underlying9) (dec_arr8 (n := 16) Tryd.underlying57 Tryd.underlying5 (by kernel_rfl) (by kernel_rfl)) (dec_int Tryd.underlying3)) (dec_int Tryd.underlying3)).mono turn_of) (hval 1 86 v1 rfl rfl) h1 (fun m hm => hw m (by simp only [DataW.weightsEach,List.mem_append];exact .inr (.inl hm)))
  exact slotsApart_c a0 v1 ts1 c1 W hG hT ha0 hr1 ho1

/-- The row's statement. -/
theorem slotsApart_row : Rows.SlotsApartSaid :=
 OpenClaim.holds_of_wide 12 Tryd.f12 rfl rfl rfl rfl rfl rfl rfl ⟨rfl,rfl,rfl,rfl,rfl⟩ rfl rfl rfl rfl rfl (by kernel_rfl) Tryd.func12 (by kernel_rfl)
  (of_decide_eq_true (by kernel_rfl)) (by unfold Func.isWrapper;first | (rw [if_pos (by decide +kernel)];kernel_rfl) | (rw [if_neg (by decide +kernel)];exact ⟨rfl,rfl⟩))
  (fun os started H enc _ => slotsApart_lifted os started H enc)

/-- The statement: the row, its listed variable tied to the program's text. -/
theorem slotsApart_holds : Rows.SlotsApartCardSaid :=
 Claim7.holds_tied_plain_at .later [] [.data, .data, .data, .data] true (true, "260fdf816069b3bf8e1fff31512b0488977d0f5c26e19155cc996da54a266071") false
  slotsApart_row (fun _ h => by cases h) (by kernel_rfl) (fun _ h => by cases h) slotsApart_row_tie rfl ⟨rfl,rfl⟩ (by kernel_rfl) rfl
  (fun f fn hf hfn => by
   obtain rfl : f = 12 := Option.some.inj ((show Tryd.prog.funcNamed "casemate/casematelaw25.SlotsApart" = some 12 by kernel_rfl).symm.trans hf) |>.symm
   obtain rfl : fn = Tryd.f12 := (Option.some.inj (Tryd.func12.symm.trans hfn)).symm
   exact ⟨by kernel_rfl,fun j t ht => by
    rw [Tryd.params12] at ht
    have h : t ∈ [23,86] := by
     rcases j with _ | _ | j
     ·simp at ht;simp [ht]
     ·simp at ht;simp [ht]
     ·simp at ht
    simp only [List.mem_cons,List.not_mem_nil,or_false] at h
    rcases h with rfl | rfl
    ·exact (show Tryd.prog.wantsStandIn 23 = false by kernel_rfl)
    ·exact (show Tryd.prog.wantsStandIn 86 = false by kernel_rfl)⟩)
  (by kernel_rfl)
#print axioms slotsApart_holds
end Go.Proofs.YtniekapfoaiieaaDoor
