/- ShaSpeltBack of casematelaw03 returns true for whatever digest and text. No condition. -/
import Derived.Test.YtbjdbiljkkfklaaDoorLx
import Derived.Test.YtbjdbiljkkfklaaDoorTie
import Derived.Test.YtbjdbiljkkfklaaDoorCards
set_option linter.unusedSimpArgs false
set_option linter.unusedVariables false
namespace Go.Proofs.YtbjdbiljkkfklaaDoor
open Go Go.Kx
open Go.ChangeShapes Go.WideShapes Go.ChangeAt Go.RowKit

set_option maxRecDepth 20000 in
set_option maxHeartbeats 4000000 in
theorem shaSpeltBack_c (k : List UInt8) (q : List UInt8) (w : World) (hG : (glb 0).holds w) (hQ : tabQ.holds w) (hS : errS.holds w) (hl_k : k.length = 32) : Calls Tryd.prog 7 #[.agg (bv k).toArray, .string (str q)] w fun e w' => e = .returned (.bool true) ∧ Mem w [] w' [] := by
  have hM : Mem w [] w [glb 0, tabQ, errS] := Mem.startR w (fun g hg => by
    simp only [List.mem_cons, List.not_mem_nil, or_false] at hg
    rcases hg with rfl | rfl | rfl
    · exact ⟨hG, rfl⟩
    · exact ⟨hQ, rfl⟩
    · exact ⟨hS, rfl⟩)
  refine f_enter 46 Tryd.func7 rfl rfl rfl ?_
  intro a hE
  replace hE : Env a 46 [(0, _), (1, _)] := hE
  refine wp_seq_k (fun K1 hK1 => ?_)
  refine wp_plain [false, true] rfl rfl ?_
  refine s_box (ss := [bv k]) [32] hE hM rfl (by simp [Value.cells]) (by simp [*]) rfl ?_; clear hE a; intro a b2 w1 hE hM'
  clear hM; have hM := hM'; clear hM'
  refine s_assign hE rfl rfl ?_; clear hE a; intro a hE
  refine q_nil ?_
  replace hE : Env a 46 [(1, _), (2, _), (4, _)] := hE.sel [1, 2, 4] rfl
  refine hK1 _ _ ?_
  refine wp_seq_k (fun K2 hK2 => ?_)
  refine wp_seq_k (fun K3 hK3 => ?_)
  refine wp_plain [true, true, true] rfl rfl ?_
  refine s_move hE rfl rfl ?_; clear hE a; intro a hE
  refine s_len_str hE rfl Tryd.underlying9 rfl ?_; clear hE a; intro a hE
  replace hE := hE.cast 10 rfl (show _ = Value.int .i64 ((q.length : Nat) : Int) from (congrArg (fun n : Nat => Value.int .i64 (n : Int)) (by first | rfl | (simp [*]; done) | (simp; omega) | (simp [*]; omega))))
  refine s_bin hE rfl rfl bin_gtr rfl ?_; clear hE a; intro a hE
  refine q_nil ?_
  replace hE : Env a 46 [(1, _), (2, _), (4, _), (11, _)] := hE.sel [1, 2, 4, 11] rfl
  refine hK3 _ _ ?_
  refine hE.split 11 rfl (fun hb11 hE' => ?_) (fun hb11 hE' => ?_)
  · replace hE := hE'; clear hE'
    replace hb11 := of_decide_eq_true hb11
    replace hb11 : 3000 < q.length := by omega
    refine wp_cond_true (hE.eval rfl) ?_
    refine wp_seq_k (fun K4 hK4 => ?_)
    refine wp_plain [false, true] rfl rfl ?_
    refine s_call hE rfl Tryd.call17 (awake3_c  _ (hM.get 1 rfl) (hM.get 2 rfl)) rfl ?_
    rintro e w2 ⟨rfl, hN⟩
    refine ⟨_, rfl, trivial, ?_⟩; clear hE a; intro a hE
    replace hM : Mem _ _ w2 [_, _, _, _] := hM.call0 hN trivial; clear hN
    refine s_assign hE rfl rfl ?_; clear hE a; intro a hE
    refine q_nil ?_
    replace hE : Env a 46 [(1, _), (2, _), (4, _), (11, _)] := hE.sel [1, 2, 4, 11] rfl
    refine hK4 _ _ ?_
    refine wp_ret ?_
    refine q_then_r ?_
    refine f_ret1 hE rfl rfl ?_
    exact ⟨(by first | rfl | (simp; done)), hM.pick [] rfl⟩
  · replace hE := hE'; clear hE'
    replace hb11 := of_decide_eq_false hb11
    replace hb11 : ¬ (3000 < q.length) := by omega
    refine wp_cond_false (hE.eval rfl) ?_
    refine wp_skip ?_
    refine hK2 _ _ ?_
    refine wp_seq_k (fun K4 hK4 => ?_)
    refine wp_plain [true, false, true, true, true, false, false, true] rfl rfl ?_
    refine s_move hE rfl rfl ?_; clear hE a; intro a hE
    refine s_call hE rfl Tryd.call25 (of_c q _ (hM.get 2 rfl) (hM.get 3 rfl)) rfl ?_
    rintro e w2 ⟨rfl, hN⟩
    refine ⟨_, rfl, trivial, ?_⟩; clear hE a; intro a hE
    replace hM : Mem _ _ w2 [_, _, _, _] := hM.call0 hN trivial; clear hN
    refine s_move hE rfl rfl ?_; clear hE a; intro a hE
    refine s_extract hE rfl rfl rfl ?_; clear hE a; intro a hE
    refine s_extract hE rfl rfl rfl ?_; clear hE a; intro a hE
    refine s_alloc [32] hE hM zero35 rfl rfl ?_; clear hE a; intro a b5 w3 hE hM'
    clear hM; have hM := hM'; clear hM'
    refine s_storeSeg 0 hE rfl rfl hM rfl sz35 ((bv_length _).trans (ofT_len ..)) (bv_one _) rfl ((bv_length _).trans (by first | (simp; done) | (simp [*]; done) | (simp; omega))) rfl (by intro X h; cases h) ?_; intro w4 hM'; clear hM; have hM := hM'; clear hM'
    simp only [List.set_cons_zero, List.set_cons_succ] at hM
    refine s_assign hE rfl rfl ?_; clear hE a; intro a hE
    refine q_nil ?_
    replace hE : Env a 46 [(1, _), (2, _), (4, _), (5, _), (6, _), (11, _)] := hE.sel [1, 2, 4, 5, 6, 11] rfl
    refine hK4 _ _ ?_
    refine wp_seq_k (fun K5 hK5 => ?_)
    refine wp_plain [true, false, false, true, true, true, false, false, true] rfl rfl ?_
    refine s_loadN hE rfl (hM.get 1 rfl) row35 rfl (by intro X h; cases h) rfl ?_; clear hE a; intro a hE
    refine s_call hE rfl Tryd.call27 (text_c k _ (hM.get 3 rfl) hl_k) rfl ?_
    rintro e w5 ⟨rfl, hN⟩
    refine ⟨_, rfl, trivial, ?_⟩; clear hE a; intro a hE
    replace hM : Mem _ _ w5 [_, _, _, _, _] := hM.call0 hN trivial; clear hN
    refine s_call hE rfl Tryd.call25 (of_c (hexL k) _ (hM.get 3 rfl) (hM.get 4 rfl)) rfl ?_
    rintro e w6 ⟨rfl, hN⟩
    refine ⟨_, rfl, trivial, ?_⟩; clear hE a; intro a hE
    replace hM : Mem _ _ w6 [_, _, _, _, _] := hM.call0 hN trivial; clear hN
    refine s_move hE rfl rfl ?_; clear hE a; intro a hE
    refine s_extract hE rfl rfl rfl ?_; clear hE a; intro a hE
    refine s_extract hE rfl rfl rfl ?_; clear hE a; intro a hE
    refine s_alloc [32] hE hM zero35 rfl rfl ?_; clear hE a; intro a b7 w7 hE hM'
    clear hM; have hM := hM'; clear hM'
    refine s_storeSeg 0 hE rfl rfl hM rfl sz35 ((bv_length _).trans (ofT_len ..)) (bv_one _) rfl ((bv_length _).trans (by first | (simp; done) | (simp [*]; done) | (simp; omega))) rfl (by intro X h; cases h) ?_; intro w8 hM'; clear hM; have hM := hM'; clear hM'
    simp only [List.set_cons_zero, List.set_cons_succ] at hM
    refine s_assign hE rfl rfl ?_; clear hE a; intro a hE
    refine q_nil ?_
    replace hE : Env a 46 [(1, _), (2, _), (4, _), (5, _), (6, _), (7, _), (8, _), (11, _)] := hE.sel [1, 2, 4, 5, 6, 7, 8, 11] rfl
    refine hK5 _ _ ?_
    refine wp_seq_k (fun K6 hK6 => ?_)
    refine wp_plain [true, true, true, true, true, true, true, true, true, true, true, true, true, false, true, true, true, true, true, true, false, true, true] rfl rfl ?_
    refine s_move hE rfl rfl ?_; clear hE a; intro a hE
    refine s_move hE rfl rfl ?_; clear hE a; intro a hE
    replace hE := hE.cast 25 rfl (show _ = Value.bool true from (congrArg Value.bool (by rw [ofT_back hl_k])))
    refine g_yes hE rfl rfl ?_
    refine s_loadN hE rfl (hM.get 0 rfl) row35 rfl (by intro X h; cases h) rfl ?_; clear hE a; intro a hE
    refine g_yes hE rfl rfl ?_
    refine s_loadN hE rfl (hM.get 2 rfl) row35 rfl (by intro X h; cases h) rfl ?_; clear hE a; intro a hE
    refine g_yes hE rfl rfl ?_
    refine s_bin hE rfl rfl (eqa35 (ofT_len ..) hl_k).1 rfl ?_; clear hE a; intro a hE
    refine s_pickt hE rfl rfl rfl ?_; clear hE a; intro a hE
    refine s_move hE rfl rfl ?_; clear hE a; intro a hE
    replace hE := hE.cast 30 rfl (show _ = Value.bool true from (congrArg Value.bool (by rw [ofT_back hl_k]; simp)))
    refine g_yes hE rfl rfl ?_
    refine s_move hE rfl rfl ?_; clear hE a; intro a hE
    refine g_yes hE rfl rfl ?_
    refine s_move hE rfl rfl ?_; clear hE a; intro a hE
    refine g_yes hE rfl rfl ?_
    refine s_len_str hE rfl Tryd.underlying9 rfl ?_; clear hE a; intro a hE
    replace hE := hE.cast 33 rfl (show _ = Value.int .i64 ((q.length : Nat) : Int) from (congrArg (fun n : Nat => Value.int .i64 (n : Int)) (by first | rfl | (simp [*]; done) | (simp; omega) | (simp [*]; omega))))
    refine g_yes hE rfl rfl ?_
    refine s_bin hE rfl rfl bin_eql rfl ?_; clear hE a; intro a hE
    refine g_yes hE rfl rfl ?_
    refine s_move hE rfl rfl ?_; clear hE a; intro a hE
    refine hE.split 35 rfl (fun hb35 hE' => ?_) (fun hb35 hE' => ?_)
    · replace hE := hE'; clear hE'
      replace hb35 := of_decide_eq_true hb35
      replace hb35 : q.length = 64 := by omega
      refine g_yes hE rfl rfl ?_
      refine s_loadN hE rfl (hM.get 1 rfl) row35 rfl (by intro X h; cases h) rfl ?_; clear hE a; intro a hE
      refine g_yes hE rfl rfl ?_
      refine s_call hE rfl Tryd.call27 (text_c ((ofT q).1) _ (hM.get 4 rfl) (ofT_len ..)) rfl ?_
      rintro e w9 ⟨rfl, hN⟩
      refine ⟨_, rfl, trivial, ?_⟩; clear hE a; intro a hE
      replace hM : Mem _ _ w9 [_, _, _, _, _, _] := hM.call0 hN trivial; clear hN
      refine g_yes hE rfl rfl ?_
      refine s_move hE rfl rfl ?_; clear hE a; intro a hE
      refine g_yes hE rfl rfl ?_
      refine s_bin hE rfl rfl bins_str.1 rfl ?_; clear hE a; intro a hE
      refine g_yes hE rfl rfl ?_
      refine s_pickt hE rfl rfl rfl ?_; clear hE a; intro a hE
      refine g_yes hE rfl rfl ?_
      refine s_bin hE rfl rfl (bins_bool Tryd.underlying4).1 rfl ?_; clear hE a; intro a hE
      refine s_pickt hE rfl rfl rfl ?_; clear hE a; intro a hE
      refine s_move hE rfl rfl ?_; clear hE a; intro a hE
      replace hE := hE.cast 43 rfl (show _ = Value.bool true from (congrArg Value.bool (by rw [ofT_iff q]; simp [hb35])))
      refine g_yes hE rfl rfl ?_
      refine s_call hE rfl Tryd.call17 (awake3_c  _ (hM.get 3 rfl) (hM.get 4 rfl)) rfl ?_
      rintro e w10 ⟨rfl, hN⟩
      refine ⟨_, rfl, trivial, ?_⟩; clear hE a; intro a hE
      replace hM : Mem _ _ w10 [_, _, _, _, _, _] := hM.call0 hN trivial; clear hN
      refine s_pickt hE rfl rfl rfl ?_; clear hE a; intro a hE
      refine s_assign hE rfl rfl ?_; clear hE a; intro a hE
      refine q_nil ?_
      replace hE : Env a 46 [(1, _), (2, _), (4, _), (5, _), (7, _), (11, _)] := hE.sel [1, 2, 4, 5, 7, 11] rfl
      refine hK6 _ _ ?_
      refine wp_ret ?_
      refine f_ret1 hE rfl rfl ?_
      exact ⟨(by first | rfl | (simp; done)), hM.pick [] rfl⟩
    · replace hE := hE'; clear hE'
      replace hb35 := of_decide_eq_false hb35
      replace hb35 : ¬ (q.length = 64) := by omega
      refine g_no (b := false) hE rfl rfl rfl ?_; clear hE a; intro a hE
      refine g_no (b := false) hE rfl rfl rfl ?_; clear hE a; intro a hE
      refine g_no (b := false) hE rfl rfl rfl ?_; clear hE a; intro a hE
      refine g_no (b := false) hE rfl rfl rfl ?_; clear hE a; intro a hE
      refine g_yes hE rfl rfl ?_
      refine s_pickf hE rfl rfl rfl ?_; clear hE a; intro a hE
      refine g_yes hE rfl rfl ?_
      refine s_bin hE rfl rfl (bins_bool Tryd.underlying4).1 rfl ?_; clear hE a; intro a hE
      refine s_pickt hE rfl rfl rfl ?_; clear hE a; intro a hE
      refine s_move hE rfl rfl ?_; clear hE a; intro a hE
      replace hE := hE.cast 43 rfl (show _ = Value.bool true from (congrArg Value.bool (by rw [ofT_iff q]; simp [hb35])))
      refine g_yes hE rfl rfl ?_
      refine s_call hE rfl Tryd.call17 (awake3_c  _ (hM.get 3 rfl) (hM.get 4 rfl)) rfl ?_
      rintro e w9 ⟨rfl, hN⟩
      refine ⟨_, rfl, trivial, ?_⟩; clear hE a; intro a hE
      replace hM : Mem _ _ w9 [_, _, _, _, _, _] := hM.call0 hN trivial; clear hN
      refine s_pickt hE rfl rfl rfl ?_; clear hE a; intro a hE
      refine s_assign hE rfl rfl ?_; clear hE a; intro a hE
      refine q_nil ?_
      replace hE : Env a 46 [(1, _), (2, _), (4, _), (5, _), (7, _), (11, _)] := hE.sel [1, 2, 4, 5, 7, 11] rfl
      refine hK6 _ _ ?_
      refine wp_ret ?_
      refine f_ret1 hE rfl rfl ?_
      exact ⟨(by first | rfl | (simp; done)), hM.pick [] rfl⟩
set_option maxRecDepth 100000 in
theorem shaSpeltBack_lifted (os : Os) (started : os.Started) (H : Type) (enc : TypeId × Value → H) :
    ReturnsInHanded {} Tryd.checked os 7 .any (fun w args => (Rows.shaSpeltBackSpec.pre enc Tryd.prog Tryd.f7 [] false w args ∧ laidMetH Tryd.prog Rows.shaSpeltBackRow.laid w) ∧ sizedMet enc Tryd.prog Tryd.f7 (OpenSpec.ofChange Rows.shaSpeltBackSpec) false w args) (Rows.shaSpeltBackSpec.post enc Tryd.prog Tryd.f7 false true false false) := by
  refine law_liftedL (C := Tryd.checked) (fn := Tryd.f7) (l := Rows.shaSpeltBackRow.laid) (by kernel_rfl) started (by kernel_rfl) Tryd.func7 rfl (fun ds hl => ?_) rfl Tryd.underlying4 (by kernel_rfl) (of_decide_eq_true (by kernel_rfl)) (by kernel_rfl)
    (ChangeSpec.witness_shaped (enc := enc) (C := Tryd.checked) (os := os) (X := fun w _ => laidMetH Tryd.prog Rows.shaSpeltBackRow.laid w) false (World.laidAll Tryd.prog os Rows.shaSpeltBackRow.laid) #[.agg (bv (List.replicate 32 0)).toArray, Value.string .empty] 8 (World.laidAll_os _ _ _) (World.shaped_of_ZipB (by kernel_rfl) (by kernel_rfl)) (by kernel_rfl) (by kernel_rfl) (by kernel_rfl) (by rw [MakeChecks.laidMetH_plain _ _ _ (by kernel_rfl)]; exact laidMet_laidAll _ (by kernel_rfl) (by kernel_rfl))) ?_
  · rw [Tryd.params7] at hl
    match ds, hl with
    | [_, _], _ => rfl
  · intro W base args ds ps hval hA hw hL
    have hG := glb_of_laid (P := Tryd.prog) (g := 0) (t := 91) (e := 26) (by kernel_rfl) (by kernel_rfl) Tryd.underlying91 Tryd.underlying26 (by kernel_rfl) (by kernel_rfl) (by kernel_rfl) (show laidMet Tryd.prog (_ :: _) W from (laidMet_tail (laidMet_tail (laidMet_tail (laidMet_tail (laidMet_tail hL))))))
    have hQ : tabQ.holds W := cells_of_laid (P := Tryd.prog) (g := 5) (t := 22) (e := 5) (n := 64) (by kernel_rfl) (by kernel_rfl) Tryd.underlying22 Tryd.underlying5 (by kernel_rfl) (by kernel_rfl) (by kernel_rfl) (show laidMet Tryd.prog (_ :: _) W from (laidMet_tail hL))
    have hS : errS.holds W := err_of_laid (P := Tryd.prog) (g := 1) (ti := 71) (tp := 124) (te := 126) (ts := 9) (show laidMet Tryd.prog (_ :: _) W from (laidMet_tail (laidMet_tail (laidMet_tail (laidMet_tail hL))))) (by kernel_rfl) (by kernel_rfl) Tryd.underlying71 (fun u hu => typeName_ptr_named (nm := "errors.errorString") (by rw [show "*" ++ "errors.errorString" = "*errors.errorString" by decide]; kernel_rfl) (by kernel_rfl) (by decide) u (by rw [show "*" ++ "errors.errorString" = "*errors.errorString" by decide]; exact hu)) Tryd.underlying124 Tryd.underlying126 rfl rfl Tryd.underlying9 (by kernel_rfl) (by kernel_rfl)
    rw [Tryd.params7] at hA hval hw
    obtain ⟨v0, vs0, d0, ds0, p0, q0, hargs, rfl, rfl, h0, r0⟩ := trodAll_cons hA
    obtain ⟨v1, vs1, d1, ds1, p1, q1, rfl, rfl, rfl, h1, r1⟩ := trodAll_cons r0
    obtain ⟨rfl, rfl, rfl⟩ := trodAll_nil r1
    obtain rfl : args = #[v0, v1] := by cases args; simp_all
    obtain ⟨a0, rfl, ha0⟩ := arg_arr8 Tryd.underlying35 Tryd.underlying5 (by kernel_rfl) (by kernel_rfl) (hval 0 35 v0 rfl rfl) h0 (fun m hm => hw m (by simp only [DataW.weightsEach, List.mem_append]; exact .inl hm))
    obtain ⟨s1, rfl, hs1⟩ := arg_string Tryd.underlying9 (hval 1 9 v1 rfl rfl) h1 (fun m hm => hw m (by simp only [DataW.weightsEach, List.mem_append]; exact .inr (.inl hm)))
    obtain ⟨q, rfl⟩ := str_of s1
    exact shaSpeltBack_c a0 q W hG hQ hS ha0

/-- The row's statement. -/
theorem shaSpeltBack_row : Rows.ShaSpeltBackSaid :=
  OpenClaim.holds_of_wide 7 Tryd.f7 rfl rfl rfl rfl rfl rfl rfl ⟨rfl, rfl, rfl, rfl, rfl⟩ rfl rfl rfl rfl rfl (by kernel_rfl) Tryd.func7 (by kernel_rfl)
    (of_decide_eq_true (by kernel_rfl)) (by unfold Func.isWrapper; first | (rw [if_pos (by decide +kernel)]; kernel_rfl) | (rw [if_neg (by decide +kernel)]; exact ⟨rfl, rfl⟩))
    (fun os started H enc _ => shaSpeltBack_lifted os started H enc)

/-- The statement: the row, its listed variable tied to the program's text. -/
theorem shaSpeltBack_holds : Rows.ShaSpeltBackCardSaid :=
  Claim7.holds_tied_plain_at .later [] [.data, .data, .data, .sentinel, .sentinel, .data] true (true, "91cb5901f707df670105d5a20baa4ed90d479b7ccd219857a5a06152428abcb6") true
    shaSpeltBack_row (fun _ h => by cases h) (by kernel_rfl) (fun _ h => by cases h) shaSpeltBack_row_tie rfl ⟨rfl, rfl⟩ (by kernel_rfl) rfl
    (fun f fn hf hfn => by
      obtain rfl : f = 7 := Option.some.inj ((show Tryd.prog.funcNamed "casemate/casematelaw03.ShaSpeltBack" = some 7 by kernel_rfl).symm.trans hf) |>.symm
      obtain rfl : fn = Tryd.f7 := (Option.some.inj (Tryd.func7.symm.trans hfn)).symm
      exact ⟨by kernel_rfl, fun j t ht => by
        rw [Tryd.params7] at ht
        have h : t ∈ [35, 9] := by
          rcases j with _ | _ | j
          · simp at ht; simp [ht]
          · simp at ht; simp [ht]
          · simp at ht
        simp only [List.mem_cons, List.not_mem_nil, or_false] at h
        rcases h with rfl | rfl
        · exact (show Tryd.prog.wantsStandIn 35 = false by kernel_rfl)
        · exact (show Tryd.prog.wantsStandIn 9 = false by kernel_rfl)⟩)
    (by kernel_rfl)
#print axioms shaSpeltBack_holds
end Go.Proofs.YtbjdbiljkkfklaaDoor
