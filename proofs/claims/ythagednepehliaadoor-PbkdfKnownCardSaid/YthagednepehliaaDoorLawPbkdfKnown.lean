/- PbkdfKnown of casematelaw05 returns true. No condition. -/
import Derived.Test.YthagednepehliaaDoorLp
import Derived.Test.YthagednepehliaaDoorTie
import Derived.Test.YthagednepehliaaDoorCards
namespace Go.Proofs.YthagednepehliaaDoor
open Go Go.Kx
open Go.ChangeShapes Go.WideShapes Go.ChangeAt Go.RowKit

theorem knownK5 : keyW [112, 97, 115, 115, 119, 111, 114, 100] [115, 97, 108, 116] 1 5 = [18, 15, 182, 207, 252] := by decide +kernel
theorem pbkdfKnown_c (w : World) (hG : (glb 0).holds w) : Calls Tryd.prog 4 #[] w fun e w' => e = .returned (.bool true) ∧ Mem w [] w' [] := by
  have hM := Mem.startR1 hG rfl
  refine f_enter 68 Tryd.func4 rfl rfl rfl ?_
  intro a hE
  replace hE : Env a 68 [] := hE
  refine wp_seq_k (fun K1 hK1 => ?_)
  refine wp_plain [true] rfl rfl ?_
  refine s_assign hE rfl rfl ?_; clear hE a; intro a hE
  refine q_nil ?_
  refine hK1 _ _ ?_
  refine wp_seq_k (fun K2 hK2 => ?_)
  refine wp_plain [false, true, true, true, true, true] rfl rfl ?_
  refine s_call hE rfl Tryd.call13 (pass_bad _ _ (.inl (of_decide_eq_true (by kernel_rfl)))) rfl ?_
  rintro e w1 ⟨rfl, hN⟩
  refine ⟨_, rfl, trivial, ?_⟩; clear hE a; intro a hE
  replace hM : Mem _ _ w1 [_] := hM.call0 hN trivial; clear hN
  refine s_move hE rfl rfl ?_; clear hE a; intro a hE
  refine s_extract hE rfl rfl rfl ?_; clear hE a; intro a hE
  refine s_extract hE rfl rfl rfl ?_; clear hE a; intro a hE
  refine s_assign hE rfl rfl ?_; clear hE a; intro a hE
  refine s_assign hE rfl rfl ?_; clear hE a; intro a hE
  refine q_nil ?_
  replace hE : Env a 68 [(0, _), (2, _)] := hE.sel [0, 2] rfl
  refine hK2 _ _ ?_
  refine wp_seq_k (fun K3 hK3 => ?_)
  refine wp_plain [false, true, false, true, true, true, true, true] rfl rfl ?_
  refine s_makeSlice (m := 49) (zc := [bV 0]) hE rfl rfl hM sl22 ⟨.int .u8 0, by kernel_rfl, rfl⟩ rfl rfl (by decide) (by decide) (by decide) rfl ?_; clear hE a; intro a v12 w2 hE hM'; clear hM; have hM := hM'; clear hM'
  replace hM := hM.ownEq (m' := (List.replicate 49 (0 : UInt8)).length) (cs' := bv (List.replicate 49 0)) rfl rfl
  obtain ⟨cs13, hs13⟩ := own_rd (hM.get 0 rfl)
  refine s_toStr hE rfl Tryd.underlying22 Tryd.underlying5 Tryd.underlying9 hs13 (by intro X h; cases h) rfl ?_; clear hE a; intro a hE
  refine s_call hE rfl Tryd.call13 (pass_bad (str (List.replicate 49 0)) _ (.inr (by decide))) rfl ?_
  rintro e w3 ⟨rfl, hN⟩
  refine ⟨_, rfl, trivial, ?_⟩; clear hE a; intro a hE
  replace hM : Mem _ _ w3 [_, _] := hM.call0 hN trivial; clear hN
  refine s_move hE rfl rfl ?_; clear hE a; intro a hE
  refine s_extract hE rfl rfl rfl ?_; clear hE a; intro a hE
  refine s_extract hE rfl rfl rfl ?_; clear hE a; intro a hE
  refine s_assign hE rfl rfl ?_; clear hE a; intro a hE
  refine s_assign hE rfl rfl ?_; clear hE a; intro a hE
  refine q_nil ?_
  replace hE : Env a 68 [(0, _), (2, _), (4, _)] := hE.sel [0, 2, 4] rfl
  refine hK3 _ _ ?_
  refine wp_seq_k (fun K4 hK4 => ?_)
  refine wp_plain [false, true, false, true, true, true, true, true] rfl rfl ?_
  refine s_makeSlice (m := 48) (zc := [bV 0]) hE rfl rfl hM sl22 ⟨.int .u8 0, by kernel_rfl, rfl⟩ rfl rfl (by decide) (by decide) (by decide) rfl ?_; clear hE a; intro a v18 w4 hE hM'; clear hM; have hM := hM'; clear hM'
  replace hM := hM.ownEq (m' := (List.replicate 48 (0 : UInt8)).length) (cs' := bv (List.replicate 48 0)) rfl rfl
  obtain ⟨cs19, hs19⟩ := own_rd (hM.get 0 rfl)
  refine s_toStr hE rfl Tryd.underlying22 Tryd.underlying5 Tryd.underlying9 hs19 (by intro X h; cases h) rfl ?_; clear hE a; intro a hE
  refine s_call hE rfl Tryd.call13 (pass_ok (str (List.replicate 48 0)) _ (by decide) (by decide)) rfl ?_
  rintro e w5 ⟨vb, rfl, hN⟩
  refine ⟨_, rfl, trivial, ?_⟩; clear hE a; intro a hE
  replace hM : Mem _ _ w5 [_, _, _, _] := hM.call0 hN ⟨rfl, trivial⟩; clear hN
  replace hM := hM.ownEq (m' := (48 :: List.replicate 48 (0 : UInt8)).length) (cs' := bv (48 :: List.replicate 48 0)) (by decide) (by kernel_rfl)
  refine s_move hE rfl rfl ?_; clear hE a; intro a hE
  refine s_extract hE rfl rfl rfl ?_; clear hE a; intro a hE
  refine s_extract hE rfl rfl rfl ?_; clear hE a; intro a hE
  refine s_assign hE rfl rfl ?_; clear hE a; intro a hE
  refine s_assign hE rfl rfl ?_; clear hE a; intro a hE
  refine q_nil ?_
  replace hE : Env a 68 [(0, _), (2, _), (4, _), (5, _), (6, _)] := hE.sel [0, 2, 4, 5, 6] rfl
  refine hK4 _ _ ?_
  refine wp_seq_k (fun K5 hK5 => ?_)
  refine wp_plain [false, true, false, false, true, true, false, true, false, true, true, false, true, true, false, true, true, false, true, true, false, true, true, true, true, true, true, true, true, true, true, true, true, true, true, true, true, true, true, true, true, true, true, true, true, true] rfl rfl ?_
  refine s_call hE rfl Tryd.call15 (awake_c _ (hM.get 3 rfl)) rfl ?_
  rintro e w6 ⟨rfl, hN⟩
  refine ⟨_, rfl, trivial, ?_⟩; clear hE a; intro a hE
  replace hM : Mem _ _ w6 [_, _, _, _] := hM.call0 hN trivial; clear hN
  refine s_move hE rfl rfl ?_; clear hE a; intro a hE
  replace hE := hE.cast 24 rfl (show _ = Value.bool true from (congrArg Value.bool (by first | rfl | decide | exact decide_eq_true (by kernel_rfl))))
  refine g_yes hE rfl rfl ?_
  refine s_call hE rfl Tryd.call17 (two_c _) rfl ?_
  rintro e w7 ⟨rfl, hN⟩
  refine ⟨_, rfl, trivial, ?_⟩; clear hE a; intro a hE
  replace hM : Mem _ _ w7 [_, _, _, _] := hM.call0 hN trivial; clear hN
  refine g_yes hE rfl rfl ?_
  refine s_call hE rfl Tryd.call16 (is_c 2 32 _ _ (hM.get 3 rfl) (by decide) (by decide) (by decide) (by decide)) rfl ?_
  rintro e w8 ⟨rfl, hN⟩
  refine ⟨_, rfl, trivial, ?_⟩; clear hE a; intro a hE
  replace hM : Mem _ _ w8 [_, _, _, _] := hM.call0 hN trivial; clear hN
  refine s_pickt hE rfl rfl rfl ?_; clear hE a; intro a hE
  refine s_move hE rfl rfl ?_; clear hE a; intro a hE
  replace hE := hE.cast 28 rfl (show _ = Value.bool true from (congrArg Value.bool (decide_eq_true knownK2)))
  refine g_yes hE rfl rfl ?_
  refine s_call hE rfl Tryd.call18 (one_c _) rfl ?_
  rintro e w9 ⟨rfl, hN⟩
  refine ⟨_, rfl, trivial, ?_⟩; clear hE a; intro a hE
  replace hM : Mem _ _ w9 [_, _, _, _] := hM.call0 hN trivial; clear hN
  refine g_yes hE rfl rfl ?_
  refine s_sliceStr (l := 0) (h := 5) hE rfl Tryd.underlying9 rfl ⟨_, rfl⟩ (by decide) (of_decide_eq_true (by kernel_rfl)) rfl ?_; clear hE a; intro a hE
  refine g_yes hE rfl rfl ?_
  refine s_call hE rfl Tryd.call16 (is_c 1 5 _ _ (hM.get 3 rfl) (by decide) (by decide) (by decide) (by decide)) rfl ?_
  rintro e w10 ⟨rfl, hN⟩
  refine ⟨_, rfl, trivial, ?_⟩; clear hE a; intro a hE
  replace hM : Mem _ _ w10 [_, _, _, _] := hM.call0 hN trivial; clear hN
  refine s_pickt hE rfl rfl rfl ?_; clear hE a; intro a hE
  refine s_move hE rfl rfl ?_; clear hE a; intro a hE
  replace hE := hE.cast 33 rfl (show _ = Value.bool true from (congrArg Value.bool (decide_eq_true (knownK5.trans (by kernel_rfl)))))
  refine g_yes hE rfl rfl ?_
  refine s_call hE rfl Tryd.call19 (no_c _ _ _ (by decide)) rfl ?_
  rintro e w11 ⟨rfl, hN⟩
  refine ⟨_, rfl, trivial, ?_⟩; clear hE a; intro a hE
  replace hM : Mem _ _ w11 [_, _, _, _] := hM.call0 hN trivial; clear hN
  refine s_pickt hE rfl rfl rfl ?_; clear hE a; intro a hE
  refine s_move hE rfl rfl ?_; clear hE a; intro a hE
  replace hE := hE.cast 36 rfl (show _ = Value.bool true from (congrArg Value.bool (by first | rfl | decide | exact decide_eq_true (by kernel_rfl))))
  refine g_yes hE rfl rfl ?_
  refine s_call hE rfl Tryd.call19 (no_c _ _ _ (by decide)) rfl ?_
  rintro e w12 ⟨rfl, hN⟩
  refine ⟨_, rfl, trivial, ?_⟩; clear hE a; intro a hE
  replace hM : Mem _ _ w12 [_, _, _, _] := hM.call0 hN trivial; clear hN
  refine s_pickt hE rfl rfl rfl ?_; clear hE a; intro a hE
  refine s_move hE rfl rfl ?_; clear hE a; intro a hE
  replace hE := hE.cast 39 rfl (show _ = Value.bool true from (congrArg Value.bool (by first | rfl | decide | exact decide_eq_true (by kernel_rfl))))
  refine g_yes hE rfl rfl ?_
  refine s_call hE rfl Tryd.call19 (no_c _ _ _ (by decide)) rfl ?_
  rintro e w13 ⟨rfl, hN⟩
  refine ⟨_, rfl, trivial, ?_⟩; clear hE a; intro a hE
  replace hM : Mem _ _ w13 [_, _, _, _] := hM.call0 hN trivial; clear hN
  refine s_pickt hE rfl rfl rfl ?_; clear hE a; intro a hE
  refine s_move hE rfl rfl ?_; clear hE a; intro a hE
  replace hE := hE.cast 42 rfl (show _ = Value.bool true from (congrArg Value.bool (by first | rfl | decide | exact decide_eq_true (by kernel_rfl))))
  refine g_yes hE rfl rfl ?_
  refine s_call hE rfl Tryd.call19 (no_c _ _ _ (by decide)) rfl ?_
  rintro e w14 ⟨rfl, hN⟩
  refine ⟨_, rfl, trivial, ?_⟩; clear hE a; intro a hE
  replace hM : Mem _ _ w14 [_, _, _, _] := hM.call0 hN trivial; clear hN
  refine s_pickt hE rfl rfl rfl ?_; clear hE a; intro a hE
  refine s_move hE rfl rfl ?_; clear hE a; intro a hE
  replace hE := hE.cast 45 rfl (show _ = Value.bool true from (congrArg Value.bool (by first | rfl | decide | exact decide_eq_true (by kernel_rfl))))
  refine g_yes hE rfl rfl ?_
  refine s_move hE rfl rfl ?_; clear hE a; intro a hE
  refine g_yes hE rfl rfl ?_
  refine s_bin hE rfl rfl bin_eql rfl ?_; clear hE a; intro a hE
  refine s_pickt hE rfl rfl rfl ?_; clear hE a; intro a hE
  refine s_move hE rfl rfl ?_; clear hE a; intro a hE
  replace hE := hE.cast 49 rfl (show _ = Value.bool true from (congrArg Value.bool (by first | rfl | decide | exact decide_eq_true (by kernel_rfl))))
  refine g_yes hE rfl rfl ?_
  refine s_move hE rfl rfl ?_; clear hE a; intro a hE
  refine g_yes hE rfl rfl ?_
  refine s_bin hE rfl rfl bin_eql rfl ?_; clear hE a; intro a hE
  refine s_pickt hE rfl rfl rfl ?_; clear hE a; intro a hE
  refine s_move hE rfl rfl ?_; clear hE a; intro a hE
  replace hE := hE.cast 53 rfl (show _ = Value.bool true from (congrArg Value.bool (by first | rfl | decide | exact decide_eq_true (by kernel_rfl))))
  refine g_yes hE rfl rfl ?_
  refine s_move hE rfl rfl ?_; clear hE a; intro a hE
  refine g_yes hE rfl rfl ?_
  refine s_bin hE rfl rfl bin_eql rfl ?_; clear hE a; intro a hE
  refine s_pickt hE rfl rfl rfl ?_; clear hE a; intro a hE
  refine s_move hE rfl rfl ?_; clear hE a; intro a hE
  replace hE := hE.cast 57 rfl (show _ = Value.bool true from (congrArg Value.bool (by first | rfl | decide | exact decide_eq_true (by kernel_rfl))))
  refine g_yes hE rfl rfl ?_
  refine s_move hE rfl rfl ?_; clear hE a; intro a hE
  refine g_yes hE rfl rfl ?_
  refine s_len hE rfl Tryd.underlying22 (own_slice (hM.get 0 rfl)) rfl ?_; clear hE a; intro a hE
  refine g_yes hE rfl rfl ?_
  refine s_bin hE rfl rfl bin_eql rfl ?_; clear hE a; intro a hE
  refine s_pickt hE rfl rfl rfl ?_; clear hE a; intro a hE
  refine s_move hE rfl rfl ?_; clear hE a; intro a hE
  replace hE := hE.cast 62 rfl (show _ = Value.bool true from (congrArg Value.bool (by first | rfl | decide | exact decide_eq_true (by kernel_rfl))))
  refine g_yes hE rfl rfl ?_
  refine s_move hE rfl rfl ?_; clear hE a; intro a hE
  refine g_yes hE rfl rfl ?_
  obtain ⟨cx64, hx64⟩ := own_rd (hM.get 0 rfl)
  refine s_indexRd (j := 0) hE rfl hx64 rfl slt22 (by first | rfl | omega) (by first | omega | (simp; omega) | decide) rfl ?_; clear hE a; intro a p64 hE hc64 hp64
  refine g_yes hE rfl rfl ?_
  rw [bv_elem (by decide)] at hc64
  refine s_loadAt1 hE rfl hc64 one5 (by intro X h; cases h) rfl ?_; clear hE a; intro a hE
  refine g_yes hE rfl rfl ?_
  refine s_bin hE rfl rfl bin_eql rfl ?_; clear hE a; intro a hE
  refine s_pickt hE rfl rfl rfl ?_; clear hE a; intro a hE
  refine s_assign hE rfl rfl ?_; clear hE a; intro a hE
  refine q_nil ?_
  replace hE : Env a 68 [(0, _)] := hE.sel [0] rfl
  refine hK5 _ _ ?_
  refine wp_ret ?_
  refine f_ret1 hE rfl rfl ?_
  exact ⟨by first | rfl | exact congrArg (fun b => Ending.returned (Value.bool b)) (decide_eq_true (by kernel_rfl)), hM.nil⟩
set_option maxRecDepth 100000 in
theorem pbkdfKnown_lifted (os : Os) (started : os.Started) (H : Type) (enc : TypeId × Value → H) :
    ReturnsInHanded {} Tryd.checked os 4 .any (fun w args => (Rows.pbkdfKnownSpec.pre enc Tryd.prog Tryd.f4 [] false w args ∧ laidMetH Tryd.prog Rows.pbkdfKnownRow.laid w) ∧ sizedMet enc Tryd.prog Tryd.f4 (OpenSpec.ofChange Rows.pbkdfKnownSpec) false w args) (Rows.pbkdfKnownSpec.post enc Tryd.prog Tryd.f4 false true false false) := by
  refine law_liftedL (C := Tryd.checked) (fn := Tryd.f4) (l := Rows.pbkdfKnownRow.laid) (by kernel_rfl) started (by kernel_rfl) Tryd.func4 rfl (fun ds hl => ?_) rfl Tryd.underlying4 (by kernel_rfl) (of_decide_eq_true (by kernel_rfl)) (by kernel_rfl)
    (ChangeSpec.witness_shaped (enc := enc) (C := Tryd.checked) (os := os) (X := fun w _ => laidMetH Tryd.prog Rows.pbkdfKnownRow.laid w) false (World.laidAll Tryd.prog os Rows.pbkdfKnownRow.laid) #[] 8 (World.laidAll_os _ _ _) (World.shaped_of_ZipB (by kernel_rfl) (by kernel_rfl)) (by kernel_rfl) (by kernel_rfl) (by kernel_rfl) (by rw [MakeChecks.laidMetH_plain _ _ _ (by kernel_rfl)]; exact laidMet_laidAll _ (by kernel_rfl) (by kernel_rfl))) ?_
  · rw [Tryd.params4] at hl
    match ds, hl with
    | [], _ => rfl
  · intro W base args ds ps hval hA hw hL
    have hG := glb_of_laid (P := Tryd.prog) (g := 0) (t := 98) (e := 74) (by kernel_rfl) (by kernel_rfl) Tryd.underlying98 Tryd.underlying74 (by kernel_rfl) (by kernel_rfl) (by kernel_rfl) (show laidMet Tryd.prog (_ :: _) W from hL)
    rw [Tryd.params4] at hA hval hw
    obtain ⟨hargs, rfl, rfl⟩ := trodAll_nil hA
    obtain rfl : args = #[] := by cases args; simp_all
    exact pbkdfKnown_c W hG

/-- The row's statement. -/
theorem pbkdfKnown_row : Rows.PbkdfKnownSaid :=
  OpenClaim.holds_of_wide 4 Tryd.f4 rfl rfl rfl rfl rfl rfl rfl ⟨rfl, rfl, rfl, rfl, rfl⟩ rfl rfl rfl rfl rfl (by kernel_rfl) Tryd.func4 (by kernel_rfl)
    (of_decide_eq_true (by kernel_rfl)) (by unfold Func.isWrapper; first | (rw [if_pos (by decide +kernel)]; kernel_rfl) | (rw [if_neg (by decide +kernel)]; exact ⟨rfl, rfl⟩))
    (fun os started H enc _ => pbkdfKnown_lifted os started H enc)

/-- The statement: the row, its listed variable tied to the program's text. -/
theorem pbkdfKnown_holds : Rows.PbkdfKnownCardSaid :=
  Claim7.holds_tied_plain_at .later [] [.data] true (true, "6fc7720c1af2613af465590a04043e064699da455281c70e9b23793a063f4041") false
    pbkdfKnown_row (fun _ h => by cases h) (by kernel_rfl) (fun _ h => by cases h) pbkdfKnown_row_tie rfl ⟨rfl, rfl⟩ (by kernel_rfl) rfl
    (fun f fn hf hfn => by
      obtain rfl : f = 4 := Option.some.inj ((show Tryd.prog.funcNamed "casemate/casematelaw05.PbkdfKnown" = some 4 by kernel_rfl).symm.trans hf) |>.symm
      obtain rfl : fn = Tryd.f4 := (Option.some.inj (Tryd.func4.symm.trans hfn)).symm
      exact ⟨by kernel_rfl, fun j t ht => by
        rw [Tryd.params4] at ht
        simp at ht⟩)
    (by kernel_rfl)
#print axioms pbkdfKnown_holds
end Go.Proofs.YthagednepehliaaDoor
