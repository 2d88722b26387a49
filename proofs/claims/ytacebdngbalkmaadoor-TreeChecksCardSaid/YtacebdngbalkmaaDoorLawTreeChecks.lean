/- TreeChecks of casematelaw18 returns true for whatever key, leaf, tags, proof and height; the proof reads behind the call as before. No condition. -/
import Derived.Test.YtacebdngbalkmaaDoorLq
import Derived.Test.YtacebdngbalkmaaDoorTie
import Derived.Test.YtacebdngbalkmaaDoorCards
set_option linter.unusedSimpArgs false
set_option linter.unusedVariables false
namespace Go.Proofs.YtacebdngbalkmaaDoor
open Go Go.Kx
open Go.ChangeShapes Go.WideShapes Go.ChangeAt Go.RowKit
theorem fo46_2 : fieldOff Tryd.prog 46 2 = some 33 := by kernel_rfl
theorem fo46_0 : fieldOff Tryd.prog 46 0 = some 0 := by kernel_rfl
theorem fo46_1 : fieldOff Tryd.prog 46 1 = some 1 := by kernel_rfl
theorem fo46_3 : fieldOff Tryd.prog 46 3 = some 34 := by kernel_rfl
set_option maxRecDepth 20000 in
set_option maxHeartbeats 1000000 in
theorem treeChecks_c (k : List UInt8) (z : Int) (tg : List UInt8) (vp : Value) (ps : List (List UInt8)) (cp : Nat) (tp : List UInt8) (y : Int) (w : World) (hG : (glb 0).holds w) (hl_k : k.length = 32) (hl_tg : tg.length = 32) (hr_ps : (rd vp 64 ps.length cp (ps.flatMap bv)).holds w) (ho_ps : ∀ x, x ∈ ps → x.length = 64) (hl_tp : tp.length = 32) : Calls Tryd.prog 5 #[.agg (bv k).toArray, .agg ([[.int .i64 z], bv tg, [vp], bv tp] : List (List Value)).flatten.toArray, .int .i64 y] w fun e w' => e = .returned (.bool true) ∧ Mem w [] w' [] := by
  have hM : Mem w [] w [rd vp 64 ps.length cp (ps.flatMap bv), glb 0] := Mem.startR w (fun g hg => by
    simp only [List.mem_cons, List.not_mem_nil, or_false] at hg
    rcases hg with rfl | rfl
    · exact ⟨hr_ps, rfl⟩
    · exact ⟨hG, rfl⟩)
  refine f_enter 48 Tryd.func5 rfl rfl rfl ?_
  intro a hE
  replace hE : Env a 48 [(0, _), (1, _), (2, _)] := hE
  refine wp_seq_k (fun K1 hK1 => ?_)
  refine wp_plain [false, false, true] rfl rfl ?_
  refine s_box (ss := [bv k]) [32] hE hM rfl (by simp [Value.cells]) (by simp [*]) rfl ?_; clear hE a; intro a b3 w1 hE hM'
  clear hM; have hM := hM'; clear hM'
  refine s_box (ss := [[.int .i64 z], bv tg, [vp], bv tp]) [1, 32, 1, 32] hE hM rfl rfl (by simp [*]) rfl ?_; clear hE a; intro a b4 w2 hE hM'
  clear hM; have hM := hM'; clear hM'
  refine s_assign hE rfl rfl ?_; clear hE a; intro a hE
  refine q_nil ?_
  replace hE : Env a 48 [(2, _), (3, _), (4, _), (6, _)] := hE.sel [2, 3, 4, 6] rfl
  refine hK1 _ _ ?_
  refine wp_seq_k (fun K2 hK2 => ?_)
  refine wp_plain [true, true, true, true, true, true, true, true] rfl rfl ?_
  refine s_fieldAddr hE rfl fo46_2 rfl ?_; clear hE a; intro a hE
  refine s_load1 hE rfl (hM.get 0 rfl) rfl one44 (by intro X h; cases h) rfl ?_; clear hE a; intro a hE
  refine s_fieldAddr hE rfl fo46_2 rfl ?_; clear hE a; intro a hE
  refine s_load1 hE rfl (hM.get 0 rfl) rfl one44 (by intro X h; cases h) rfl ?_; clear hE a; intro a hE
  refine s_len hE rfl Tryd.underlying44 (rd_slice (hM.get 2 rfl)) rfl ?_; clear hE a; intro a hE
  refine s_min hE rfl rfl rfl ?_; clear hE a; intro a hE
  replace hE := hE.cast 13 rfl (show _ = Value.int .i64 ((min ps.length 20 : Nat) : Int) from congrArg (Value.int .i64) (by split <;> omega))
  have hcap14 := rd_len (hM.get 2 rfl)
  refine s_slice (l := 0) (h := min ps.length 20) (mx' := cp) hE rfl (hM.get 2 rfl) slt44 rfl ⟨_, rfl⟩ rfl (by simp) (Nat.zero_le _) (by first | omega | (simp; omega) | decide +kernel) (by first | omega | (simp; omega) | decide +kernel) (Nat.le_refl _) rfl ?_; clear hE a; intro a v14 hE hr14 hvb14
  replace hr14 := rd_takeR (f := bv) (ls := ps) (fun x hx => ((bv_length _).trans (ho_ps x hx))) (by first | omega | (simp; omega) | decide +kernel) hr14
  replace hM := hM.addPart 2 rfl hr14 hvb14; clear hr14
  refine s_assign hE rfl rfl ?_; clear hE a; intro a hE
  refine q_nil ?_
  replace hE : Env a 48 [(2, _), (3, _), (4, _), (6, _), (7, _)] := hE.sel [2, 3, 4, 6, 7] rfl
  refine hK2 _ _ ?_
  refine wp_seq_k (fun K3 hK3 => ?_)
  refine wp_drawnM hM (by kernel_rfl) (fun _ => False) [(0, true), (1, true), (2, true), (3, true), (4, true), (5, true), (6, true), (7, true), (9, true), (10, true), (11, true), (12, true), (13, true), (14, true), (15, true), (16, true), (8, false), (17, false), (18, true), (19, true), (20, true), (21, true), (22, true), (24, true), (25, true), (26, true), (23, false), (27, false), (28, false), (29, true), (30, true), (31, false), (32, true), (33, true)] [(8, [(17, 8), (18, 8), (19, 17), (20, 19), (21, 19), (22, 19), (24, 19), (25, 19), (26, 25), (23, 19), (27, 24), (28, 19), (29, 19), (30, 28), (31, 30), (32, 30), (33, 8)]), (17, [(18, 17), (19, 17), (20, 19), (21, 19), (22, 19), (24, 19), (25, 19), (26, 25), (23, 19), (27, 24), (28, 19), (29, 19), (30, 28), (31, 30), (32, 30), (33, 17)]), (23, [(27, 23), (28, 23), (29, 28), (30, 28), (31, 30), (32, 30), (33, 23)]), (27, [(28, 27), (29, 28), (30, 28), (31, 30), (32, 30), (33, 27)]), (28, [(29, 28), (30, 28), (31, 30), (32, 30), (33, 28)]), (31, [(32, 31), (33, 31)])] (by kernel_rfl) rfl ?_
  intro w3 hM' hww3; clear hM; have hM := hM'; clear hM'
  refine s_loadN hE rfl (hM.get 2 rfl) row23 rfl (by intro X h; cases h; simp) rfl ?_; clear hE a; intro a hE
  refine s_fieldAddr hE rfl fo46_0 rfl ?_; clear hE a; intro a hE
  refine s_load1 hE rfl (hM.get 1 rfl) rfl one3 (by intro X h; cases h; simp) rfl ?_; clear hE a; intro a hE
  refine s_fieldAddr hE rfl fo46_1 rfl ?_; clear hE a; intro a hE
  refine s_loadN hE rfl (hM.get 1 rfl) row34 rfl (by intro X h; cases h; simp) rfl ?_; clear hE a; intro a hE
  refine s_move hE rfl rfl ?_; clear hE a; intro a hE
  refine s_fieldAddr hE rfl fo46_3 rfl ?_; clear hE a; intro a hE
  refine s_loadN hE rfl (hM.get 1 rfl) row34 rfl (by intro X h; cases h; simp) rfl ?_; clear hE a; intro a hE
  refine s_loadN hE rfl (hM.get 2 rfl) row23 rfl (by intro X h; cases h; simp) rfl ?_; clear hE a; intro a hE
  refine s_fieldAddr hE rfl fo46_0 rfl ?_; clear hE a; intro a hE
  refine s_load1 hE rfl (hM.get 1 rfl) rfl one3 (by intro X h; cases h; simp) rfl ?_; clear hE a; intro a hE
  refine s_fieldAddr hE rfl fo46_1 rfl ?_; clear hE a; intro a hE
  refine s_loadN hE rfl (hM.get 1 rfl) row34 rfl (by intro X h; cases h; simp) rfl ?_; clear hE a; intro a hE
  refine s_move hE rfl rfl ?_; clear hE a; intro a hE
  refine s_fieldAddr hE rfl fo46_3 rfl ?_; clear hE a; intro a hE
  refine s_loadN hE rfl (hM.get 1 rfl) row34 rfl (by intro X h; cases h; simp) rfl ?_; clear hE a; intro a hE
  refine s_call hE rfl Tryd.call16 (tcheckI_c k z tg _ (ps.take (min ps.length 20)) _ tp _ (hM.get 4 rfl) hl_k hl_tg (hM.get 0 rfl) (ok_take ho_ps) hl_tp) rfl ?_
  rintro e w4 ⟨rfl, hN⟩
  refine ⟨_, rfl, hN.sta0 _, ?_⟩; clear hE a; intro a hE
  replace hM : Mem _ _ w4 [_, _, _, _, _] := hM.call0 hN trivial; clear hN
  refine s_call hE rfl Tryd.call18 (rcheckI_c k z tg _ (ps.take (min ps.length 20)) _ tp _ hl_k hl_tg (hM.get 0 rfl) (ok_take ho_ps) hl_tp) rfl ?_
  rintro e w5 ⟨rfl, hN⟩
  refine ⟨_, rfl, hN.sta0 _, ?_⟩; clear hE a; intro a hE
  replace hM : Mem _ _ w5 [_, _, _, _, _] := hM.call0 hN trivial; clear hN
  refine s_bin hE rfl rfl (bins_bool Tryd.underlying4).1 rfl ?_; clear hE a; intro a hE
  refine s_move hE rfl rfl ?_; clear hE a; intro a hE
  replace hE := hE.cast 34 rfl (show _ = Value.bool true from (congrArg Value.bool (by simp)))
  refine g_yes hE rfl rfl ?_
  refine s_move hE rfl rfl ?_; clear hE a; intro a hE
  refine g_yes hE rfl rfl ?_
  refine s_fieldAddr hE rfl fo46_0 rfl ?_; clear hE a; intro a hE
  refine g_yes hE rfl rfl ?_
  refine s_load1 hE rfl (hM.get 1 rfl) rfl one3 (by intro X h; cases h; simp) rfl ?_; clear hE a; intro a hE
  refine g_yes hE rfl rfl ?_
  refine s_move hE rfl rfl ?_; clear hE a; intro a hE
  refine g_yes hE rfl rfl ?_
  refine s_fieldAddr hE rfl fo46_0 rfl ?_; clear hE a; intro a hE
  refine g_yes hE rfl rfl ?_
  refine s_load1 hE rfl (hM.get 1 rfl) rfl one3 (by intro X h; cases h; simp) rfl ?_; clear hE a; intro a hE
  refine g_yes hE rfl rfl ?_
  refine s_call hE rfl Tryd.call15 (tpathI_c y z _) rfl ?_
  rintro e w6 ⟨v38, rfl, hN⟩
  refine ⟨_, rfl, hN.sta0 _, ?_⟩; clear hE a; intro a hE
  replace hM : Mem _ _ w6 [_, _, _, _, _, _] := hM.call0 hN ⟨rfl, trivial⟩; clear hN
  refine g_yes hE rfl rfl ?_
  refine s_call hE rfl Tryd.call20 (rpathI_c y z _) rfl ?_
  rintro e w7 ⟨v42, rfl, hN⟩
  refine ⟨_, rfl, hN.sta0 _, ?_⟩; clear hE a; intro a hE
  replace hM : Mem _ _ w7 [_, _, _, _, _, _, _] := hM.call0 hN ⟨rfl, trivial⟩; clear hN
  refine g_yes hE rfl rfl ?_
  obtain ⟨cq1, hq1⟩ := own_rd (hM.get 1 rfl)
  obtain ⟨cq2, hq2⟩ := own_rd (hM.get 0 rfl)
  refine s_call hE rfl Tryd.call19 (ints_c _ (pathZ y z) _ _ (pathZ y z) _ _ hq1 pathZ_ok hq2 pathZ_ok (by first | exact pathZ_le | exact chgZ_le (by omega) | exact proofZ_le (by omega) | omega)) rfl ?_
  rintro e w8 ⟨rfl, hN⟩
  refine ⟨_, rfl, hN.sta0 _, ?_⟩; clear hE a; intro a hE
  replace hM : Mem _ _ w8 [_, _, _, _, _, _, _] := hM.call0 hN trivial; clear hN
  refine s_pickt hE rfl rfl rfl ?_; clear hE a; intro a hE
  refine s_move hE rfl rfl ?_; clear hE a; intro a hE
  replace hE := hE.cast 45 rfl (show _ = Value.bool true from (congrArg Value.bool (by simp)))
  refine g_yes hE rfl rfl ?_
  refine s_call hE rfl Tryd.call9 (works_c  _ (hM.get 6 rfl)) rfl ?_
  rintro e w9 ⟨rfl, hN⟩
  refine ⟨_, rfl, hN.sta0 _, ?_⟩; clear hE a; intro a hE
  replace hM : Mem _ _ w9 [_, _, _, _, _, _, _] := hM.call0 hN trivial; clear hN
  refine s_pickt hE rfl rfl rfl ?_; clear hE a; intro a hE
  refine s_assign hE rfl rfl ?_; clear hE a; intro a hE
  refine q_nil ?_
  replace hE : Env a 48 [(4, _), (6, _)] := hE.sel [4, 6] rfl
  refine hK3 _ _ ?_
  refine wp_ret ?_
  refine f_ret1 hE rfl rfl ?_
  exact ⟨(by first | rfl | (simp; done)), hM.pick [] rfl⟩
set_option maxRecDepth 100000 in
theorem treeChecks_lifted (os : Os) (started : os.Started) (H : Type) (enc : TypeId × Value → H) :
    ReturnsInHanded {} Tryd.checked os 5 .any (fun w args => (Rows.treeChecksSpec.pre enc Tryd.prog Tryd.f5 [] false w args ∧ laidMetH Tryd.prog Rows.treeChecksRow.laid w) ∧ sizedMet enc Tryd.prog Tryd.f5 (OpenSpec.ofChange Rows.treeChecksSpec) false w args) (Rows.treeChecksSpec.post enc Tryd.prog Tryd.f5 false true false false) := by
  refine law_liftedL (C := Tryd.checked) (fn := Tryd.f5) (l := Rows.treeChecksRow.laid) (by kernel_rfl) started (by kernel_rfl) Tryd.func5 rfl (fun ds hl => ?_) rfl Tryd.underlying4 (by kernel_rfl) (of_decide_eq_true (by kernel_rfl)) (by kernel_rfl)
    (ChangeSpec.witness_shaped (enc := enc) (C := Tryd.checked) (os := os) (X := fun w _ => laidMetH Tryd.prog Rows.treeChecksRow.laid w) false (World.laidAll Tryd.prog os Rows.treeChecksRow.laid) #[.agg (bv (List.replicate 32 0)).toArray, .agg ([Value.int .i64 0] ++ bv (List.replicate 32 0) ++ [Value.slice none 0 0] ++ bv (List.replicate 32 0)).toArray, .int .i64 0] 8 (World.laidAll_os _ _ _) (World.shaped_of_ZipB (by kernel_rfl) (by kernel_rfl)) (by kernel_rfl) (by kernel_rfl) (by kernel_rfl) (by rw [MakeChecks.laidMetH_plain _ _ _ (by kernel_rfl)]; exact laidMet_laidAll _ (by kernel_rfl) (by kernel_rfl))) ?_
  · rw [Tryd.params5] at hl
    match ds, hl with
    | [_, _, _], _ => rfl
  · intro W base args ds ps hval hA hw hL
    have hG := glb_of_laid (P := Tryd.prog) (g := 0) (t := 123) (e := 102) (by kernel_rfl) (by kernel_rfl) Tryd.underlying123 Tryd.underlying102 (by kernel_rfl) (by kernel_rfl) (by kernel_rfl) (show laidMet Tryd.prog (_ :: _) W from hL)
    rw [Tryd.params5] at hA hval hw
    obtain ⟨v0, vs0, d0, ds0, p0, q0, hargs, rfl, rfl, h0, r0⟩ := trodAll_cons hA
    obtain ⟨v1, vs1, d1, ds1, p1, q1, rfl, rfl, rfl, h1, r1⟩ := trodAll_cons r0
    obtain ⟨v2, vs2, d2, ds2, p2, q2, rfl, rfl, rfl, h2, r2⟩ := trodAll_cons r1
    obtain ⟨rfl, rfl, rfl⟩ := trodAll_nil r2
    obtain rfl : args = #[v0, v1, v2] := by cases args; simp_all
    obtain ⟨a0, rfl, ha0⟩ := arg_arr8 Tryd.underlying23 Tryd.underlying5 (by kernel_rfl) (by kernel_rfl) (hval 0 23 v0 rfl rfl) h0 (fun m hm => hw m (by simp only [DataW.weightsEach, List.mem_append]; exact .inl hm))
    obtain ⟨cs1, rfl, hcs1⟩ := okWide_struct Tryd.underlying46 (hval 1 46 v1 rfl rfl)
    obtain ⟨_, _, _, _, hc1, ⟨z, rfl, hz1, hz2⟩, ⟨tg, rfl, hl_tg⟩, ⟨vp, ps, cp, rfl, hr_ps, ho_ps, hn_ps⟩, ⟨tp, rfl, hl_tp⟩⟩ := trod_of (dec_f4 (t := 46) (s := 66) (n0 := 1) (n1 := 32) (n2 := 1) (n3 := 32) (o2 := 33) (o3 := 34) Tryd.underlying46 (by kernel_rfl) (by kernel_rfl) rfl rfl rfl (dec_int Tryd.underlying3) (dec_arr8 (n := 32) Tryd.underlying34 Tryd.underlying5 (by kernel_rfl) (by kernel_rfl)) (dec_rowsV (es := 64) (by_ := 64) Tryd.underlying44 (by kernel_rfl) (by kernel_rfl) (by decide) (dec_arr8 (n := 64) Tryd.underlying52 Tryd.underlying5 (by kernel_rfl) (by kernel_rfl))) (dec_arr8 (n := 32) Tryd.underlying34 Tryd.underlying5 (by kernel_rfl) (by kernel_rfl))) h1 (fun m hm => hw m (by simp only [DataW.weightsEach, List.mem_append]; exact .inr (.inl hm)))
    have ecs1 := agg_of hc1
    subst ecs1
    obtain ⟨z2, rfl, hz2, hy2⟩ := arg_int Tryd.underlying3 (hval 2 3 v2 rfl rfl) h2 (fun m hm => hw m (by simp only [DataW.weightsEach, List.mem_append]; exact .inr (.inr (.inl hm))))
    have ef4 : ∀ (a b c d : List Value), ([a, b, c, d] : List (List Value)).flatten = a ++ (b ++ (c ++ d)) := fun a b c d => by simp
    exact (by have h := treeChecks_c a0 z tg vp ps cp tp z2 W hG ha0 hl_tg hr_ps ho_ps hl_tp; rw [ef4] at h; exact h)

/-- The row's statement. -/
theorem treeChecks_row : Rows.TreeChecksSaid :=
  OpenClaim.holds_of_wide 5 Tryd.f5 rfl rfl rfl rfl rfl rfl rfl ⟨rfl, rfl, rfl, rfl, rfl⟩ rfl rfl rfl rfl rfl (by kernel_rfl) Tryd.func5 (by kernel_rfl)
    (of_decide_eq_true (by kernel_rfl)) (by unfold Func.isWrapper; first | (rw [if_pos (by decide +kernel)]; kernel_rfl) | (rw [if_neg (by decide +kernel)]; exact ⟨rfl, rfl⟩))
    (fun os started H enc _ => treeChecks_lifted os started H enc)

/-- The statement: the row, its listed variable tied to the program's text. -/
theorem treeChecks_holds : Rows.TreeChecksCardSaid :=
  Claim7.holds_tied_plain_at .later [] [.data] true (true, "3e37e367fa882af65b92501024ce61bfddfc4c8207345e6e4fc0786d0584de6e") false
    treeChecks_row (fun _ h => by cases h) (by kernel_rfl) (fun _ h => by cases h) treeChecks_row_tie rfl ⟨rfl, rfl⟩ (by kernel_rfl) rfl
    (fun f fn hf hfn => by
      obtain rfl : f = 5 := Option.some.inj ((show Tryd.prog.funcNamed "casemate/casematelaw18.TreeChecks" = some 5 by kernel_rfl).symm.trans hf) |>.symm
      obtain rfl : fn = Tryd.f5 := (Option.some.inj (Tryd.func5.symm.trans hfn)).symm
      exact ⟨by kernel_rfl, fun j t ht => by
        rw [Tryd.params5] at ht
        have h : t ∈ [23, 46, 3] := by
          rcases j with _ | _ | _ | j
          · simp at ht; simp [ht]
          · simp at ht; simp [ht]
          · simp at ht; simp [ht]
          · simp at ht
        simp only [List.mem_cons, List.not_mem_nil, or_false] at h
        rcases h with rfl | rfl | rfl
        · exact (show Tryd.prog.wantsStandIn 23 = false by kernel_rfl)
        · exact (show Tryd.prog.wantsStandIn 46 = false by kernel_rfl)
        · exact (show Tryd.prog.wantsStandIn 3 = false by kernel_rfl)⟩)
    (by kernel_rfl)
#print axioms treeChecks_holds
end Go.Proofs.YtacebdngbalkmaaDoor
