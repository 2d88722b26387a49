/- Walks of functions of the given program that the claim reaches. -/
import Derived.Test.YtamjaacddbecaaaLg
set_option linter.unusedSimpArgs false
set_option linter.unusedVariables false
namespace Go.Proofs.Ytamjaacddbecaaa
open Go Go.Kx

theorem rflag_c (fb : Bool) (w : World)  : Calls Try.prog 34 #[.bool fb] w fun e w' => e = .returned (.int .u8 ((UInt8.ofNat (flagN fb)).toNat : Int)) ∧ Mem w [] w' [] := by
  have hM := Mem.start0 w
  refine f_enter 4 Try.func34 rfl rfl rfl ?_
  intro a hE
  replace hE : Env a 4 [(0, _)] := hE
  refine wp_seq_k (fun K1 hK1 => ?_)
  refine wp_plain [true] rfl rfl ?_
  refine s_assign hE rfl rfl ?_; clear hE a; intro a hE
  refine q_nil ?_
  refine hK1 _ _ ?_
  refine wp_seq_k (fun K2 hK2 => ?_)
  refine wp_seq_k (fun K3 hK3 => ?_)
  refine wp_plain [true] rfl rfl ?_
  refine s_move hE rfl rfl ?_; clear hE a; intro a hE
  refine q_nil ?_
  replace hE : Env a 4 [(2, _), (3, _)] := hE.sel [2, 3] rfl
  refine hK3 _ _ ?_
  refine hE.split 3 rfl (fun hb3 hE' => ?_) (fun hb3 hE' => ?_)
  · replace hE := hE'; clear hE'
    refine wp_cond_true (hE.eval rfl) ?_
    refine wp_seq_k (fun K4 hK4 => ?_)
    refine wp_plain [true] rfl rfl ?_
    refine s_assign hE rfl rfl ?_; clear hE a; intro a hE
    refine q_nil ?_
    refine hK4 _ _ ?_
    refine wp_ret ?_
    refine q_then_r ?_
    refine f_ret1 hE rfl rfl ?_
    exact ⟨(by simp [flagN, hb3]), hM.pick [] rfl⟩
  · replace hE := hE'; clear hE'
    refine wp_cond_false (hE.eval rfl) ?_
    refine wp_skip ?_
    refine hK2 _ _ ?_
    refine wp_seq_k (fun K4 hK4 => ?_)
    refine wp_plain [true] rfl rfl ?_
    refine s_assign hE rfl rfl ?_; clear hE a; intro a hE
    refine q_nil ?_
    refine hK4 _ _ ?_
    refine wp_ret ?_
    refine f_ret1 hE rfl rfl ?_
    exact ⟨(by simp [flagN, hb3]), hM.pick [] rfl⟩
set_option maxHeartbeats 3000000 in
theorem rlay_c (h : Hd) (w : World) (hk : OkHd h) (hs : shapedB h = true) (hit : itB h) : Calls Try.prog 22 #[.agg ([[.int .i64 h.m], [.int .i64 h.r], [.bool h.v0.1], [.int .u64 ((h.v0.2.1 : Nat) : Int)], bv h.v0.2.2.1, bv h.v0.2.2.2, [.bool h.v1.1], [.int .u64 ((h.v1.2.1 : Nat) : Int)], bv h.v1.2.2.1, bv h.v1.2.2.2, [.bool h.s0.1], [.int .i64 h.s0.2.1], bv h.s0.2.2.1, bv h.s0.2.2.2.1, bv h.s0.2.2.2.2, [.bool h.s1.1], [.int .i64 h.s1.2.1], bv h.s1.2.2.1, bv h.s1.2.2.2.1, bv h.s1.2.2.2.2, [.bool h.s2.1], [.int .i64 h.s2.2.1], bv h.s2.2.2.1, bv h.s2.2.2.2.1, bv h.s2.2.2.2.2, [.bool h.s3.1], [.int .i64 h.s3.2.1], bv h.s3.2.2.1, bv h.s3.2.2.2.1, bv h.s3.2.2.2.2] : List (List Value)).flatten.toArray] w fun e w' => ∃ v', e = .returned (v') ∧ Mem w [] w' [own v' 1 (padH (layH h)).length (bv (padH (layH h)))] := by
  have hi0 := hk.s0.1
  have hi1 := hk.s1.1
  have hi2 := hk.s2.1
  have hi3 := hk.s3.1
  have hn0 := hk.v0.1
  have hn1 := hk.v1.1
  obtain ⟨⟨hm1, hm2, hr1, hr2⟩, hq0, hq1, hp0, hp1, hp2, hp3⟩ := shaped_facts hs
  obtain ⟨ht0, ht1, ht2, ht3⟩ := hit
  have hM := Mem.start0 w
  refine f_enter 94 Try.func22 rfl rfl rfl ?_
  intro a hE
  replace hE : Env a 94 [(0, _)] := hE
  refine wp_seq_k (fun K1 hK1 => ?_)
  refine wp_plain [false, true] rfl rfl ?_
  have hbl1_4 : h.v0.2.2.1.length = 32 := hk.v0.2.1
  have hbl1_5 : h.v0.2.2.2.length = 32 := hk.v0.2.2
  have hbl1_8 : h.v1.2.2.1.length = 32 := hk.v1.2.1
  have hbl1_9 : h.v1.2.2.2.length = 32 := hk.v1.2.2
  have hbl1_12 : h.s0.2.2.1.length = 16 := hk.s0.2.1
  have hbl1_13 : h.s0.2.2.2.1.length = 32 := hk.s0.2.2.1
  have hbl1_14 : h.s0.2.2.2.2.length = 32 := hk.s0.2.2.2
  have hbl1_17 : h.s1.2.2.1.length = 16 := hk.s1.2.1
  have hbl1_18 : h.s1.2.2.2.1.length = 32 := hk.s1.2.2.1
  have hbl1_19 : h.s1.2.2.2.2.length = 32 := hk.s1.2.2.2
  have hbl1_22 : h.s2.2.2.1.length = 16 := hk.s2.2.1
  have hbl1_23 : h.s2.2.2.2.1.length = 32 := hk.s2.2.2.1
  have hbl1_24 : h.s2.2.2.2.2.length = 32 := hk.s2.2.2.2
  have hbl1_27 : h.s3.2.2.1.length = 16 := hk.s3.2.1
  have hbl1_28 : h.s3.2.2.2.1.length = 32 := hk.s3.2.2.1
  have hbl1_29 : h.s3.2.2.2.2.length = 32 := hk.s3.2.2.2
  refine s_box (ss := [[.int .i64 h.m], [.int .i64 h.r], [.bool h.v0.1], [.int .u64 ((h.v0.2.1 : Nat) : Int)], bv h.v0.2.2.1, bv h.v0.2.2.2, [.bool h.v1.1], [.int .u64 ((h.v1.2.1 : Nat) : Int)], bv h.v1.2.2.1, bv h.v1.2.2.2, [.bool h.s0.1], [.int .i64 h.s0.2.1], bv h.s0.2.2.1, bv h.s0.2.2.2.1, bv h.s0.2.2.2.2, [.bool h.s1.1], [.int .i64 h.s1.2.1], bv h.s1.2.2.1, bv h.s1.2.2.2.1, bv h.s1.2.2.2.2, [.bool h.s2.1], [.int .i64 h.s2.2.1], bv h.s2.2.2.1, bv h.s2.2.2.2.1, bv h.s2.2.2.2.2, [.bool h.s3.1], [.int .i64 h.s3.2.1], bv h.s3.2.2.1, bv h.s3.2.2.2.1, bv h.s3.2.2.2.2]) [1, 1, 1, 1, 32, 32, 1, 1, 32, 32, 1, 1, 16, 32, 32, 1, 1, 16, 32, 32, 1, 1, 16, 32, 32, 1, 1, 16, 32, 32] hE hM rfl rfl (by simp only [List.map_cons, List.map_nil, bv_length, List.length_cons, List.length_nil, List.length_replicate, hbl1_4, hbl1_5, hbl1_8, hbl1_9, hbl1_12, hbl1_13, hbl1_14, hbl1_17, hbl1_18, hbl1_19, hbl1_22, hbl1_23, hbl1_24, hbl1_27, hbl1_28, hbl1_29]) rfl ?_; clear hE a; intro a b1 w1 hE hM'
  clear hM; have hM := hM'; clear hM'
  refine s_assign hE rfl rfl ?_; clear hE a; intro a hE
  refine q_nil ?_
  replace hE : Env a 94 [(1, _), (2, _)] := hE.sel [1, 2] rfl
  refine hK1 _ _ ?_
  refine wp_seq_k (fun K2 hK2 => ?_)
  refine wp_plain [true, true, true, true, true, true, true, true, false, true] rfl rfl ?_
  refine s_fieldAddr hE rfl fo39_0 rfl ?_; clear hE a; intro a hE
  refine s_fieldAddr hE rfl fo23_0 rfl ?_; clear hE a; intro a hE
  refine s_load1 hE rfl (hM.get 0 rfl) rfl one3 (by intro X h; cases h) rfl ?_; clear hE a; intro a hE
  refine s_conv hE rfl (cnv_int Try.underlying3 Try.underlying5 (wrap_u8_toNat (z := h.m) (by omega))) rfl ?_; clear hE a; intro a hE
  refine s_fieldAddr hE rfl fo39_0 rfl ?_; clear hE a; intro a hE
  refine s_fieldAddr hE rfl fo23_1 rfl ?_; clear hE a; intro a hE
  refine s_load1 hE rfl (hM.get 0 rfl) rfl one3 (by intro X h; cases h) rfl ?_; clear hE a; intro a hE
  refine s_conv hE rfl (cnv_int Try.underlying3 Try.underlying5 (wrap_u8_toNat (z := h.r) (by omega))) rfl ?_; clear hE a; intro a hE
  refine s_buildSlice (xs := [.const (.int .u8 67), .const (.int .u8 65), .const (.int .u8 83), .const (.int .u8 69), .const (.int .u8 77), .const (.int .u8 65), .const (.int .u8 84), .const (.int .u8 49), .tmp 10, .tmp 14]) (bv [67, 65, 83, 69, 77, 65, 84, 49, UInt8.ofNat h.m.toNat, UInt8.ofNat h.r.toNat]) hE hM sl55 rfl rfl rfl (by intro v hv; first | (cases hv; done) | (obtain ⟨x, _, rfl⟩ := List.mem_map.1 (show v ∈ bv [67, 65, 83, 69, 77, 65, 84, 49, UInt8.ofNat h.m.toNat, UInt8.ofNat h.r.toNat] from hv); rfl)) rfl rfl rfl rfl ?_; clear hE a; intro a v15 w2 hE hM'
  clear hM; have hM := hM'; clear hM'
  replace hM := hM.ownEq (m' := [67, 65, 83, 69, 77, 65, 84, 49, UInt8.ofNat h.m.toNat, UInt8.ofNat h.r.toNat].length) (cs' := bv [67, 65, 83, 69, 77, 65, 84, 49, UInt8.ofNat h.m.toNat, UInt8.ofNat h.r.toNat]) rfl rfl
  refine s_assign hE rfl rfl ?_; clear hE a; intro a hE
  refine q_nil ?_
  replace hE : Env a 94 [(1, _), (2, _), (3, _)] := hE.sel [1, 2, 3] rfl
  refine hK2 _ _ ?_
  refine wp_seq_k (fun K3 hK3 => ?_)
  refine wp_seq_k (fun K4 hK4 => ?_)
  refine wp_plain [true] rfl rfl ?_
  refine s_assign hE rfl rfl ?_; clear hE a; intro a hE
  refine q_nil ?_
  refine hK4 _ _ ?_
  refine wp_block ?_
  replace hM := Mem.ownB (p := [67, 65, 83, 69, 77, 65, 84, 49, UInt8.ofNat h.m.toNat, UInt8.ofNat h.r.toNat]) (q := lP0 h) hM (by simp [lP0, layV, layS, magicH, laid1])
  refine wp_loop_rounds 3 (c_rounds ?_)
  refine wp_seq_k (fun K5 hK5 => ?_)
  refine wp_seq_k (fun K6 hK6 => ?_)
  refine wp_plain [true, true] rfl rfl ?_
  refine s_move hE rfl rfl ?_; clear hE a; intro a hE
  refine s_bin hE rfl rfl bin_lss rfl ?_; clear hE a; intro a hE
  replace hE := hE.cast 17 rfl (show _ = Value.bool true from (congrArg Value.bool (by decide)))
  refine q_nil ?_
  replace hE : Env a 94 [(1, _), (2, _), (3, _), (4, _), (17, _)] := hE.sel [1, 2, 3, 4, 17] rfl
  refine hK6 _ _ ?_
  refine wp_cond_true (hE.eval rfl) ?_
  refine wp_skip ?_
  refine hK5 _ _ ?_
  refine wp_seq_k (fun K7 hK7 => ?_)
  refine wp_block ?_
  refine wp_seq_k (fun K8 hK8 => ?_)
  refine wp_plain [true, true, true, true, true, true, false, false, false, true] rfl rfl ?_
  refine s_move hE rfl rfl ?_; clear hE a; intro a hE
  refine s_move hE rfl rfl ?_; clear hE a; intro a hE
  refine s_fieldAddr hE rfl fo39_1 rfl ?_; clear hE a; intro a hE
  refine s_indexArr (j := 0) hE rfl rfl arr32 rfl (by decide) rfl ?_; clear hE a; intro a hE
  refine s_fieldAddr hE rfl fo31_0 rfl ?_; clear hE a; intro a hE
  refine s_load1 hE rfl (hM.get 1 rfl) rfl one4 (by intro X h; cases h) rfl ?_; clear hE a; intro a hE
  refine s_call hE rfl Try.call34 (rflag_c h.v0.1 _) rfl ?_
  rintro e w3 ⟨rfl, hN⟩
  refine ⟨_, rfl, trivial, ?_⟩; clear hE a; intro a hE
  replace hM : Mem _ _ w3 [_, _] := hM.call0 hN trivial; clear hN
  refine s_buildSlice (xs := [.tmp 26]) (bv [UInt8.ofNat (flagN h.v0.1)]) hE hM sl55 rfl rfl rfl (by intro v hv; first | (cases hv; done) | (obtain ⟨x, _, rfl⟩ := List.mem_map.1 (show v ∈ bv [UInt8.ofNat (flagN h.v0.1)] from hv); rfl)) rfl rfl rfl rfl ?_; clear hE a; intro a v27 w4 hE hM'
  clear hM; have hM := hM'; clear hM'
  replace hM := hM.ownEq (m' := [UInt8.ofNat (flagN h.v0.1)].length) (cs' := bv [UInt8.ofNat (flagN h.v0.1)]) rfl rfl
  replace hM : Mem _ _ w4 [_, _, _] := hM.pick [1, 0, 2] rfl
  obtain ⟨cq1, hq1⟩ := own_rd (hM.get 1 rfl)
  have hLb1 : ((lP0 h) ++ [UInt8.ofNat (flagN h.v0.1)]).length = 10 + 1 := (by have hl_p : (lP0 h).length = 10 := (lP0_len); have hl_q : [UInt8.ofNat (flagN h.v0.1)].length = 1 := (by first | (simp; done) | (simp [*]; done) | (simp; omega)); rw [List.length_append]; omega)
  refine s_append hE rfl rfl hM sl55 (Src.rd Try.underlying55 hq1 (bv_one _)) (len47 (by have hl_x : (lP0 h).length = 10 := (lP0_len); have hl_y : [UInt8.ofNat (flagN h.v0.1)].length = 1 := (by first | (simp; done) | (simp [*]; done) | (simp; omega)); first | omega | (simp; done) | (simp; omega))) (by have hl_x : (lP0 h).length = 10 := (lP0_len); have hl_y : [UInt8.ofNat (flagN h.v0.1)].length = 1 := (by first | (simp; done) | (simp [*]; done) | (simp; omega)); first | omega | (simp; done) | (simp; omega)) (by intro X h; cases h) rfl ?_; clear hE a; intro a v28 w5 hE hM'; clear hM; have hM := hM'; clear hM'
  replace hM := Mem.ownApp (p := lP0 h) (q := [UInt8.ofNat (flagN h.v0.1)]) hM (by first | rfl | (simp; done))
  replace hM : Mem _ _ w5 [_, _] := hM.pick [0, 2] rfl
  refine s_assign hE rfl rfl ?_; clear hE a; intro a hE
  refine q_nil ?_
  replace hE : Env a 94 [(1, _), (2, _), (3, _), (4, _), (17, _)] := hE.sel [1, 2, 3, 4, 17] rfl
  refine hK8 _ _ ?_
  refine wp_seq_k (fun K9 hK9 => ?_)
  refine wp_plain [true, true, true, true, true, true, false, false, true] rfl rfl ?_
  refine s_move hE rfl rfl ?_; clear hE a; intro a hE
  refine s_move hE rfl rfl ?_; clear hE a; intro a hE
  refine s_fieldAddr hE rfl fo39_1 rfl ?_; clear hE a; intro a hE
  refine s_indexArr (j := 0) hE rfl rfl arr32 rfl (by decide) rfl ?_; clear hE a; intro a hE
  refine s_fieldAddr hE rfl fo31_1 rfl ?_; clear hE a; intro a hE
  refine s_load1 hE rfl (hM.get 1 rfl) rfl one24 (by intro X h; cases h) rfl ?_; clear hE a; intro a hE
  refine s_call hE rfl Try.call35 (rdigits_c 8 h.v0.2.1 _ (by first | omega | assumption | (simp; done) | (simp; omega) | decide) (by first | omega | assumption | (simp; done) | (simp; omega) | decide)) rfl ?_
  rintro e w6 ⟨v35, rfl, hN⟩
  refine ⟨_, rfl, trivial, ?_⟩; clear hE a; intro a hE
  replace hM : Mem _ _ w6 [_, _, _] := hM.call0 hN ⟨rfl, trivial⟩; clear hN
  replace hM : Mem _ _ w6 [_, _, _] := hM.pick [1, 0, 2] rfl
  obtain ⟨cq2, hq2⟩ := own_rd (hM.get 1 rfl)
  have hLb2 : (((lP0 h) ++ [UInt8.ofNat (flagN h.v0.1)]) ++ (laid 8 h.v0.2.1)).length = 10 + 1 + 8 := (by have hl_p : ((lP0 h) ++ [UInt8.ofNat (flagN h.v0.1)]).length = 10 + 1 := hLb1; have hl_q : (laid 8 h.v0.2.1).length = 8 := (laid_length ..); rw [List.length_append]; omega)
  refine s_append hE rfl rfl hM sl55 (Src.rd Try.underlying55 hq2 (bv_one _)) (len47 (by have hl_x : ((lP0 h) ++ [UInt8.ofNat (flagN h.v0.1)]).length = 10 + 1 := hLb1; have hl_y : (laid 8 h.v0.2.1).length = 8 := (laid_length ..); first | omega | (simp; done) | (simp; omega))) (by have hl_x : ((lP0 h) ++ [UInt8.ofNat (flagN h.v0.1)]).length = 10 + 1 := hLb1; have hl_y : (laid 8 h.v0.2.1).length = 8 := (laid_length ..); first | omega | (simp; done) | (simp; omega)) (by intro X h; cases h) rfl ?_; clear hE a; intro a v36 w7 hE hM'; clear hM; have hM := hM'; clear hM'
  replace hM := Mem.ownApp (p := (lP0 h) ++ [UInt8.ofNat (flagN h.v0.1)]) (q := laid 8 h.v0.2.1) hM (by first | rfl | (simp; done))
  refine s_assign hE rfl rfl ?_; clear hE a; intro a hE
  refine q_nil ?_
  replace hE : Env a 94 [(1, _), (2, _), (3, _), (4, _), (17, _)] := hE.sel [1, 2, 3, 4, 17] rfl
  refine hK9 _ _ ?_
  refine wp_plain [true, true, true, true, true, true, false, true] rfl rfl ?_
  refine s_move hE rfl rfl ?_; clear hE a; intro a hE
  refine s_move hE rfl rfl ?_; clear hE a; intro a hE
  refine s_fieldAddr hE rfl fo39_1 rfl ?_; clear hE a; intro a hE
  refine s_indexArr (j := 0) hE rfl rfl arr32 rfl (by decide) rfl ?_; clear hE a; intro a hE
  refine s_fieldAddr hE rfl fo31_2 rfl ?_; clear hE a; intro a hE
  refine s_loadN hE rfl (hM.get 2 rfl) row29 rfl (by intro X h; cases h) rfl ?_; clear hE a; intro a hE
  replace hE := hE.cast 42 rfl (show _ = Value.agg ([bv h.v0.2.2.1, bv h.v0.2.2.2] : List (List Value)).flatten.toArray from (by first | rfl | simp only [List.flatten_cons, List.flatten_nil, List.append_nil, List.append_assoc]))
  obtain ⟨cq3, hq3⟩ := own_rd (hM.get 0 rfl)
  have hLb3 : (((((lP0 h) ++ [UInt8.ofNat (flagN h.v0.1)]) ++ (laid 8 h.v0.2.1)) ++ h.v0.2.2.1) ++ h.v0.2.2.2).length = 10 + 1 + 8 + 64 := (by have hl_q : (((lP0 h) ++ [UInt8.ofNat (flagN h.v0.1)]) ++ (laid 8 h.v0.2.1)).length = 10 + 1 + 8 := hLb2; have hl_stx : h.v0.2.2.1.length = 32 := hk.v0.2.1; have hl_sty : h.v0.2.2.2.length = 32 := hk.v0.2.2; rw [List.length_append, List.length_append]; omega)
  refine s_call hE rfl Try.call36 (rboxput_c _ (((lP0 h) ++ [UInt8.ofNat (flagN h.v0.1)]) ++ (laid 8 h.v0.2.1)) _ h.v0.2.2.1 h.v0.2.2.2 _ hq3 hk.v0.2.1 hk.v0.2.2 (by have hl_0 : (((lP0 h) ++ [UInt8.ofNat (flagN h.v0.1)]) ++ (laid 8 h.v0.2.1)).length = 10 + 1 + 8 := hLb2; have hl_1x : h.v0.2.2.1.length = 32 := hk.v0.2.1; have hl_1y : h.v0.2.2.2.length = 32 := hk.v0.2.2; first | omega | assumption | (simp; done) | (simp; omega) | decide)) rfl ?_
  rintro e w8 ⟨v43, rfl, hN⟩
  refine ⟨_, rfl, trivial, ?_⟩; clear hE a; intro a hE
  replace hM : Mem _ _ w8 [_, _, _, _] := hM.call0 hN ⟨rfl, trivial⟩; clear hN
  refine s_assign hE rfl rfl ?_; clear hE a; intro a hE
  refine q_nil ?_
  replace hE : Env a 94 [(1, _), (2, _), (3, _), (4, _), (17, _)] := hE.sel [1, 2, 3, 4, 17] rfl
  refine q_block_n ?_
  refine hK7 _ _ ?_
  refine wp_plain [true, true, true] rfl rfl ?_
  refine s_move hE rfl rfl ?_; clear hE a; intro a hE
  refine s_bin hE rfl rfl (show Bin _ _ _ _ _ (.int .i64 1) from bin_add (by rw [wrap_i64 (by omega) (by omega)]; omega)) rfl ?_; clear hE a; intro a hE
  refine s_assign hE rfl rfl ?_; clear hE a; intro a hE
  refine q_nil ?_
  replace hE : Env a 94 [(1, _), (2, _), (3, _), (4, _), (17, _)] := hE.sel [1, 2, 3, 4, 17] rfl
  replace hM := Mem.ownB (p := ((((lP0 h) ++ [UInt8.ofNat (flagN h.v0.1)]) ++ (laid 8 h.v0.2.1)) ++ h.v0.2.2.1) ++ h.v0.2.2.2) (q := lP1 h) hM (by simp [lP1, layV, layS, magicH, laid1])
  replace hM : Mem _ _ w8 [_, _, _] := hM.pick [0, 1, 3] rfl
  refine q_then_n (c_rounds ?_)
  refine wp_seq_k (fun K10 hK10 => ?_)
  refine wp_seq_k (fun K11 hK11 => ?_)
  refine wp_plain [true, true] rfl rfl ?_
  refine s_move hE rfl rfl ?_; clear hE a; intro a hE
  refine s_bin hE rfl rfl bin_lss rfl ?_; clear hE a; intro a hE
  replace hE := hE.cast 17 rfl (show _ = Value.bool true from (congrArg Value.bool (by decide)))
  refine q_nil ?_
  replace hE : Env a 94 [(1, _), (2, _), (3, _), (4, _), (17, _)] := hE.sel [1, 2, 3, 4, 17] rfl
  refine hK11 _ _ ?_
  refine wp_cond_true (hE.eval rfl) ?_
  refine wp_skip ?_
  refine hK10 _ _ ?_
  refine wp_seq_k (fun K12 hK12 => ?_)
  refine wp_block ?_
  refine wp_seq_k (fun K13 hK13 => ?_)
  refine wp_plain [true, true, true, true, true, true, false, false, false, true] rfl rfl ?_
  refine s_move hE rfl rfl ?_; clear hE a; intro a hE
  refine s_move hE rfl rfl ?_; clear hE a; intro a hE
  refine s_fieldAddr hE rfl fo39_1 rfl ?_; clear hE a; intro a hE
  refine s_indexArr (j := 1) hE rfl rfl arr32 rfl (by decide) rfl ?_; clear hE a; intro a hE
  refine s_fieldAddr hE rfl fo31_0 rfl ?_; clear hE a; intro a hE
  refine s_load1 hE rfl (hM.get 2 rfl) rfl one4 (by intro X h; cases h) rfl ?_; clear hE a; intro a hE
  refine s_call hE rfl Try.call34 (rflag_c h.v1.1 _) rfl ?_
  rintro e w9 ⟨rfl, hN⟩
  refine ⟨_, rfl, trivial, ?_⟩; clear hE a; intro a hE
  replace hM : Mem _ _ w9 [_, _, _] := hM.call0 hN trivial; clear hN
  refine s_buildSlice (xs := [.tmp 26]) (bv [UInt8.ofNat (flagN h.v1.1)]) hE hM sl55 rfl rfl rfl (by intro v hv; first | (cases hv; done) | (obtain ⟨x, _, rfl⟩ := List.mem_map.1 (show v ∈ bv [UInt8.ofNat (flagN h.v1.1)] from hv); rfl)) rfl rfl rfl rfl ?_; clear hE a; intro a v27 w10 hE hM'
  clear hM; have hM := hM'; clear hM'
  replace hM := hM.ownEq (m' := [UInt8.ofNat (flagN h.v1.1)].length) (cs' := bv [UInt8.ofNat (flagN h.v1.1)]) rfl rfl
  replace hM : Mem _ _ w10 [_, _, _, _] := hM.pick [1, 0, 2, 3] rfl
  obtain ⟨cq4, hq4⟩ := own_rd (hM.get 1 rfl)
  have hLb4 : ((lP1 h) ++ [UInt8.ofNat (flagN h.v1.1)]).length = 83 + 1 := (by have hl_p : (lP1 h).length = 83 := (lP1_len hk); have hl_q : [UInt8.ofNat (flagN h.v1.1)].length = 1 := (by first | (simp; done) | (simp [*]; done) | (simp; omega)); rw [List.length_append]; omega)
  refine s_append hE rfl rfl hM sl55 (Src.rd Try.underlying55 hq4 (bv_one _)) (len47 (by have hl_x : (lP1 h).length = 83 := (lP1_len hk); have hl_y : [UInt8.ofNat (flagN h.v1.1)].length = 1 := (by first | (simp; done) | (simp [*]; done) | (simp; omega)); first | omega | (simp; done) | (simp; omega))) (by have hl_x : (lP1 h).length = 83 := (lP1_len hk); have hl_y : [UInt8.ofNat (flagN h.v1.1)].length = 1 := (by first | (simp; done) | (simp [*]; done) | (simp; omega)); first | omega | (simp; done) | (simp; omega)) (by intro X h; cases h) rfl ?_; clear hE a; intro a v28 w11 hE hM'; clear hM; have hM := hM'; clear hM'
  replace hM := Mem.ownApp (p := lP1 h) (q := [UInt8.ofNat (flagN h.v1.1)]) hM (by first | rfl | (simp; done))
  replace hM : Mem _ _ w11 [_, _, _] := hM.pick [0, 2, 3] rfl
  refine s_assign hE rfl rfl ?_; clear hE a; intro a hE
  refine q_nil ?_
  replace hE : Env a 94 [(1, _), (2, _), (3, _), (4, _), (17, _)] := hE.sel [1, 2, 3, 4, 17] rfl
  refine hK13 _ _ ?_
  refine wp_seq_k (fun K14 hK14 => ?_)
  refine wp_plain [true, true, true, true, true, true, false, false, true] rfl rfl ?_
  refine s_move hE rfl rfl ?_; clear hE a; intro a hE
  refine s_move hE rfl rfl ?_; clear hE a; intro a hE
  refine s_fieldAddr hE rfl fo39_1 rfl ?_; clear hE a; intro a hE
  refine s_indexArr (j := 1) hE rfl rfl arr32 rfl (by decide) rfl ?_; clear hE a; intro a hE
  refine s_fieldAddr hE rfl fo31_1 rfl ?_; clear hE a; intro a hE
  refine s_load1 hE rfl (hM.get 2 rfl) rfl one24 (by intro X h; cases h) rfl ?_; clear hE a; intro a hE
  refine s_call hE rfl Try.call35 (rdigits_c 8 h.v1.2.1 _ (by first | omega | assumption | (simp; done) | (simp; omega) | decide) (by first | omega | assumption | (simp; done) | (simp; omega) | decide)) rfl ?_
  rintro e w12 ⟨v35, rfl, hN⟩
  refine ⟨_, rfl, trivial, ?_⟩; clear hE a; intro a hE
  replace hM : Mem _ _ w12 [_, _, _, _] := hM.call0 hN ⟨rfl, trivial⟩; clear hN
  replace hM : Mem _ _ w12 [_, _, _, _] := hM.pick [1, 0, 2, 3] rfl
  obtain ⟨cq5, hq5⟩ := own_rd (hM.get 1 rfl)
  have hLb5 : (((lP1 h) ++ [UInt8.ofNat (flagN h.v1.1)]) ++ (laid 8 h.v1.2.1)).length = 83 + 1 + 8 := (by have hl_p : ((lP1 h) ++ [UInt8.ofNat (flagN h.v1.1)]).length = 83 + 1 := hLb4; have hl_q : (laid 8 h.v1.2.1).length = 8 := (laid_length ..); rw [List.length_append]; omega)
  refine s_append hE rfl rfl hM sl55 (Src.rd Try.underlying55 hq5 (bv_one _)) (len47 (by have hl_x : ((lP1 h) ++ [UInt8.ofNat (flagN h.v1.1)]).length = 83 + 1 := hLb4; have hl_y : (laid 8 h.v1.2.1).length = 8 := (laid_length ..); first | omega | (simp; done) | (simp; omega))) (by have hl_x : ((lP1 h) ++ [UInt8.ofNat (flagN h.v1.1)]).length = 83 + 1 := hLb4; have hl_y : (laid 8 h.v1.2.1).length = 8 := (laid_length ..); first | omega | (simp; done) | (simp; omega)) (by intro X h; cases h) rfl ?_; clear hE a; intro a v36 w13 hE hM'; clear hM; have hM := hM'; clear hM'
  replace hM := Mem.ownApp (p := (lP1 h) ++ [UInt8.ofNat (flagN h.v1.1)]) (q := laid 8 h.v1.2.1) hM (by first | rfl | (simp; done))
  refine s_assign hE rfl rfl ?_; clear hE a; intro a hE
  refine q_nil ?_
  replace hE : Env a 94 [(1, _), (2, _), (3, _), (4, _), (17, _)] := hE.sel [1, 2, 3, 4, 17] rfl
  refine hK14 _ _ ?_
  refine wp_plain [true, true, true, true, true, true, false, true] rfl rfl ?_
  refine s_move hE rfl rfl ?_; clear hE a; intro a hE
  refine s_move hE rfl rfl ?_; clear hE a; intro a hE
  refine s_fieldAddr hE rfl fo39_1 rfl ?_; clear hE a; intro a hE
  refine s_indexArr (j := 1) hE rfl rfl arr32 rfl (by decide) rfl ?_; clear hE a; intro a hE
  refine s_fieldAddr hE rfl fo31_2 rfl ?_; clear hE a; intro a hE
  refine s_loadN hE rfl (hM.get 3 rfl) row29 rfl (by intro X h; cases h) rfl ?_; clear hE a; intro a hE
  replace hE := hE.cast 42 rfl (show _ = Value.agg ([bv h.v1.2.2.1, bv h.v1.2.2.2] : List (List Value)).flatten.toArray from (by first | rfl | simp only [List.flatten_cons, List.flatten_nil, List.append_nil, List.append_assoc]))
  obtain ⟨cq6, hq6⟩ := own_rd (hM.get 0 rfl)
  have hLb6 : (((((lP1 h) ++ [UInt8.ofNat (flagN h.v1.1)]) ++ (laid 8 h.v1.2.1)) ++ h.v1.2.2.1) ++ h.v1.2.2.2).length = 83 + 1 + 8 + 64 := (by have hl_q : (((lP1 h) ++ [UInt8.ofNat (flagN h.v1.1)]) ++ (laid 8 h.v1.2.1)).length = 83 + 1 + 8 := hLb5; have hl_stx : h.v1.2.2.1.length = 32 := hk.v1.2.1; have hl_sty : h.v1.2.2.2.length = 32 := hk.v1.2.2; rw [List.length_append, List.length_append]; omega)
  refine s_call hE rfl Try.call36 (rboxput_c _ (((lP1 h) ++ [UInt8.ofNat (flagN h.v1.1)]) ++ (laid 8 h.v1.2.1)) _ h.v1.2.2.1 h.v1.2.2.2 _ hq6 hk.v1.2.1 hk.v1.2.2 (by have hl_0 : (((lP1 h) ++ [UInt8.ofNat (flagN h.v1.1)]) ++ (laid 8 h.v1.2.1)).length = 83 + 1 + 8 := hLb5; have hl_1x : h.v1.2.2.1.length = 32 := hk.v1.2.1; have hl_1y : h.v1.2.2.2.length = 32 := hk.v1.2.2; first | omega | assumption | (simp; done) | (simp; omega) | decide)) rfl ?_
  rintro e w14 ⟨v43, rfl, hN⟩
  refine ⟨_, rfl, trivial, ?_⟩; clear hE a; intro a hE
  replace hM : Mem _ _ w14 [_, _, _, _, _] := hM.call0 hN ⟨rfl, trivial⟩; clear hN
  refine s_assign hE rfl rfl ?_; clear hE a; intro a hE
  refine q_nil ?_
  replace hE : Env a 94 [(1, _), (2, _), (3, _), (4, _), (17, _)] := hE.sel [1, 2, 3, 4, 17] rfl
  refine q_block_n ?_
  refine hK12 _ _ ?_
  refine wp_plain [true, true, true] rfl rfl ?_
  refine s_move hE rfl rfl ?_; clear hE a; intro a hE
  refine s_bin hE rfl rfl (show Bin _ _ _ _ _ (.int .i64 2) from bin_add (by rw [wrap_i64 (by omega) (by omega)]; omega)) rfl ?_; clear hE a; intro a hE
  refine s_assign hE rfl rfl ?_; clear hE a; intro a hE
  refine q_nil ?_
  replace hE : Env a 94 [(1, _), (2, _), (3, _), (4, _), (17, _)] := hE.sel [1, 2, 3, 4, 17] rfl
  replace hM : Mem _ _ w14 [_, _, _, _] := hM.pick [0, 2, 3, 4] rfl
  replace hM := Mem.ownB (p := ((((lP1 h) ++ [UInt8.ofNat (flagN h.v1.1)]) ++ (laid 8 h.v1.2.1)) ++ h.v1.2.2.1) ++ h.v1.2.2.2) (q := lP2 h) hM (by simp [lP2, layV, layS, magicH, laid1])
  replace hM : Mem _ _ w14 [_, _, _] := hM.pick [0, 2, 3] rfl
  refine q_then_n (c_rounds ?_)
  refine wp_seq_k (fun K15 hK15 => ?_)
  refine wp_seq_k (fun K16 hK16 => ?_)
  refine wp_plain [true, true] rfl rfl ?_
  refine s_move hE rfl rfl ?_; clear hE a; intro a hE
  refine s_bin hE rfl rfl bin_lss rfl ?_; clear hE a; intro a hE
  replace hE := hE.cast 17 rfl (show _ = Value.bool false from (congrArg Value.bool (by decide)))
  refine q_nil ?_
  replace hE : Env a 94 [(1, _), (2, _), (3, _), (4, _), (17, _)] := hE.sel [1, 2, 3, 4, 17] rfl
  refine hK16 _ _ ?_
  refine wp_cond_false (hE.eval rfl) ?_
  refine wp_exit ?_
  refine q_then_e ?_
  refine q_then_e ?_
  refine q_block_x ?_
  refine hK3 _ _ ?_
  refine wp_seq_k (fun K17 hK17 => ?_)
  refine wp_seq_k (fun K18 hK18 => ?_)
  refine wp_plain [true] rfl rfl ?_
  refine s_assign hE rfl rfl ?_; clear hE a; intro a hE
  refine q_nil ?_
  refine hK18 _ _ ?_
  refine wp_block ?_
  refine wp_loop_rounds 5 (c_rounds ?_)
  refine wp_seq_k (fun K19 hK19 => ?_)
  refine wp_seq_k (fun K20 hK20 => ?_)
  refine wp_plain [true, true] rfl rfl ?_
  refine s_move hE rfl rfl ?_; clear hE a; intro a hE
  refine s_bin hE rfl rfl bin_lss rfl ?_; clear hE a; intro a hE
  replace hE := hE.cast 45 rfl (show _ = Value.bool true from (congrArg Value.bool (by decide)))
  refine q_nil ?_
  replace hE : Env a 94 [(1, _), (2, _), (3, _), (4, _), (5, _), (17, _), (45, _)] := hE.sel [1, 2, 3, 4, 5, 17, 45] rfl
  refine hK20 _ _ ?_
  refine wp_cond_true (hE.eval rfl) ?_
  refine wp_skip ?_
  refine hK19 _ _ ?_
  refine wp_seq_k (fun K21 hK21 => ?_)
  refine wp_block ?_
  refine wp_seq_k (fun K22 hK22 => ?_)
  refine wp_plain [true, true, true, true, true, true, false, false, false, true] rfl rfl ?_
  refine s_move hE rfl rfl ?_; clear hE a; intro a hE
  refine s_move hE rfl rfl ?_; clear hE a; intro a hE
  refine s_fieldAddr hE rfl fo39_2 rfl ?_; clear hE a; intro a hE
  refine s_indexArr (j := 0) hE rfl rfl arr37 rfl (by decide) rfl ?_; clear hE a; intro a hE
  refine s_fieldAddr hE rfl fo36_0 rfl ?_; clear hE a; intro a hE
  refine s_load1 hE rfl (hM.get 2 rfl) rfl one4 (by intro X h; cases h) rfl ?_; clear hE a; intro a hE
  refine s_call hE rfl Try.call34 (rflag_c h.s0.1 _) rfl ?_
  rintro e w15 ⟨rfl, hN⟩
  refine ⟨_, rfl, trivial, ?_⟩; clear hE a; intro a hE
  replace hM : Mem _ _ w15 [_, _, _] := hM.call0 hN trivial; clear hN
  refine s_buildSlice (xs := [.tmp 54]) (bv [UInt8.ofNat (flagN h.s0.1)]) hE hM sl55 rfl rfl rfl (by intro v hv; first | (cases hv; done) | (obtain ⟨x, _, rfl⟩ := List.mem_map.1 (show v ∈ bv [UInt8.ofNat (flagN h.s0.1)] from hv); rfl)) rfl rfl rfl rfl ?_; clear hE a; intro a v55 w16 hE hM'
  clear hM; have hM := hM'; clear hM'
  replace hM := hM.ownEq (m' := [UInt8.ofNat (flagN h.s0.1)].length) (cs' := bv [UInt8.ofNat (flagN h.s0.1)]) rfl rfl
  replace hM : Mem _ _ w16 [_, _, _, _] := hM.pick [1, 0, 2, 3] rfl
  obtain ⟨cq7, hq7⟩ := own_rd (hM.get 1 rfl)
  have hLb7 : ((lP2 h) ++ [UInt8.ofNat (flagN h.s0.1)]).length = 156 + 1 := (by have hl_p : (lP2 h).length = 156 := (lP2_len hk); have hl_q : [UInt8.ofNat (flagN h.s0.1)].length = 1 := (by first | (simp; done) | (simp [*]; done) | (simp; omega)); rw [List.length_append]; omega)
  refine s_append hE rfl rfl hM sl55 (Src.rd Try.underlying55 hq7 (bv_one _)) (len47 (by have hl_x : (lP2 h).length = 156 := (lP2_len hk); have hl_y : [UInt8.ofNat (flagN h.s0.1)].length = 1 := (by first | (simp; done) | (simp [*]; done) | (simp; omega)); first | omega | (simp; done) | (simp; omega))) (by have hl_x : (lP2 h).length = 156 := (lP2_len hk); have hl_y : [UInt8.ofNat (flagN h.s0.1)].length = 1 := (by first | (simp; done) | (simp [*]; done) | (simp; omega)); first | omega | (simp; done) | (simp; omega)) (by intro X h; cases h) rfl ?_; clear hE a; intro a v56 w17 hE hM'; clear hM; have hM := hM'; clear hM'
  replace hM := Mem.ownApp (p := lP2 h) (q := [UInt8.ofNat (flagN h.s0.1)]) hM (by first | rfl | (simp; done))
  replace hM : Mem _ _ w17 [_, _, _] := hM.pick [0, 2, 3] rfl
  refine s_assign hE rfl rfl ?_; clear hE a; intro a hE
  refine q_nil ?_
  replace hE : Env a 94 [(1, _), (2, _), (3, _), (4, _), (5, _), (17, _), (45, _)] := hE.sel [1, 2, 3, 4, 5, 17, 45] rfl
  refine hK22 _ _ ?_
  refine wp_seq_k (fun K23 hK23 => ?_)
  refine wp_plain [true, true, true, true, true, true, true, false, false, true] rfl rfl ?_
  refine s_move hE rfl rfl ?_; clear hE a; intro a hE
  refine s_move hE rfl rfl ?_; clear hE a; intro a hE
  refine s_fieldAddr hE rfl fo39_2 rfl ?_; clear hE a; intro a hE
  refine s_indexArr (j := 0) hE rfl rfl arr37 rfl (by decide) rfl ?_; clear hE a; intro a hE
  refine s_fieldAddr hE rfl fo36_1 rfl ?_; clear hE a; intro a hE
  refine s_load1 hE rfl (hM.get 2 rfl) rfl one3 (by intro X h; cases h) rfl ?_; clear hE a; intro a hE
  refine s_conv hE rfl (cnv_int Try.underlying3 Try.underlying24 (wrap_u64_toNat (z := h.s0.2.1) (by omega) (by omega))) rfl ?_; clear hE a; intro a hE
  refine s_call hE rfl Try.call35 (rdigits_c 4 h.s0.2.1.toNat _ (by first | omega | assumption | (simp; done) | (simp; omega) | decide) (by first | omega | assumption | (simp; done) | (simp; omega) | decide)) rfl ?_
  rintro e w18 ⟨v64, rfl, hN⟩
  refine ⟨_, rfl, trivial, ?_⟩; clear hE a; intro a hE
  replace hM : Mem _ _ w18 [_, _, _, _] := hM.call0 hN ⟨rfl, trivial⟩; clear hN
  replace hM : Mem _ _ w18 [_, _, _, _] := hM.pick [1, 0, 2, 3] rfl
  obtain ⟨cq8, hq8⟩ := own_rd (hM.get 1 rfl)
  have hLb8 : (((lP2 h) ++ [UInt8.ofNat (flagN h.s0.1)]) ++ (laid 4 h.s0.2.1.toNat)).length = 156 + 1 + 4 := (by have hl_p : ((lP2 h) ++ [UInt8.ofNat (flagN h.s0.1)]).length = 156 + 1 := hLb7; have hl_q : (laid 4 h.s0.2.1.toNat).length = 4 := (laid_length ..); rw [List.length_append]; omega)
  refine s_append hE rfl rfl hM sl55 (Src.rd Try.underlying55 hq8 (bv_one _)) (len47 (by have hl_x : ((lP2 h) ++ [UInt8.ofNat (flagN h.s0.1)]).length = 156 + 1 := hLb7; have hl_y : (laid 4 h.s0.2.1.toNat).length = 4 := (laid_length ..); first | omega | (simp; done) | (simp; omega))) (by have hl_x : ((lP2 h) ++ [UInt8.ofNat (flagN h.s0.1)]).length = 156 + 1 := hLb7; have hl_y : (laid 4 h.s0.2.1.toNat).length = 4 := (laid_length ..); first | omega | (simp; done) | (simp; omega)) (by intro X h; cases h) rfl ?_; clear hE a; intro a v65 w19 hE hM'; clear hM; have hM := hM'; clear hM'
  replace hM := Mem.ownApp (p := (lP2 h) ++ [UInt8.ofNat (flagN h.s0.1)]) (q := laid 4 h.s0.2.1.toNat) hM (by first | rfl | (simp; done))
  refine s_assign hE rfl rfl ?_; clear hE a; intro a hE
  refine q_nil ?_
  replace hE : Env a 94 [(1, _), (2, _), (3, _), (4, _), (5, _), (17, _), (45, _)] := hE.sel [1, 2, 3, 4, 5, 17, 45] rfl
  refine hK23 _ _ ?_
  refine wp_seq_k (fun K24 hK24 => ?_)
  refine wp_seq_k (fun K25 hK25 => ?_)
  refine wp_plain [true] rfl rfl ?_
  refine s_assign hE rfl rfl ?_; clear hE a; intro a hE
  refine q_nil ?_
  refine hK25 _ _ ?_
  refine wp_block ?_
  replace hM : Mem _ _ w19 [_, _] := hM.pick [0, 3] rfl
  replace hM := Mem.ownB (p := ((lP2 h) ++ [UInt8.ofNat (flagN h.s0.1)]) ++ (laid 4 h.s0.2.1.toNat)) (q := (((lP2 h) ++ [UInt8.ofNat (flagN h.s0.1)]) ++ (laid 4 h.s0.2.1.toNat)) ++ h.s0.2.2.1.take 0) hM (by simp)
  refine c_loop (fun (kk : Nat) a w' => kk ≤ 16 ∧ ∃ vl3, Env a 94 [(1, .pointer (some ⟨b1, 0, none⟩)), (2, .slice none 0 0), (3, vl3), (4, .int .i64 2), (5, .int .i64 0), (6, .int .i64 ((kk : Nat) : Int)), (17, .bool false), (45, .bool true)] ∧ Mem w [] w' [own vl3 1 ((((lP2 h) ++ [UInt8.ofNat (flagN h.s0.1)]) ++ (laid 4 h.s0.2.1.toNat)) ++ h.s0.2.2.1.take kk).length (bv ((((lP2 h) ++ [UInt8.ofNat (flagN h.s0.1)]) ++ (laid 4 h.s0.2.1.toNat)) ++ h.s0.2.2.1.take kk)), blk b1 [[.int .i64 h.m], [.int .i64 h.r], [.bool h.v0.1], [.int .u64 ((h.v0.2.1 : Nat) : Int)], bv h.v0.2.2.1, bv h.v0.2.2.2, [.bool h.v1.1], [.int .u64 ((h.v1.2.1 : Nat) : Int)], bv h.v1.2.2.1, bv h.v1.2.2.2, [.bool h.s0.1], [.int .i64 h.s0.2.1], bv h.s0.2.2.1, bv h.s0.2.2.2.1, bv h.s0.2.2.2.2, [.bool h.s1.1], [.int .i64 h.s1.2.1], bv h.s1.2.2.1, bv h.s1.2.2.2.1, bv h.s1.2.2.2.2, [.bool h.s2.1], [.int .i64 h.s2.2.1], bv h.s2.2.2.1, bv h.s2.2.2.2.1, bv h.s2.2.2.2.2, [.bool h.s3.1], [.int .i64 h.s3.2.1], bv h.s3.2.2.1, bv h.s3.2.2.2.1, bv h.s3.2.2.2.2] [1, 1, 1, 1, 32, 32, 1, 1, 32, 32, 1, 1, 16, 32, 32, 1, 1, 16, 32, 32, 1, 1, 16, 32, 32, 1, 1, 16, 32, 32] 39]) (fun kk => 16 - kk) 0 ⟨Nat.zero_le _, _, hE.sel [1, 2, 3, 4, 5, 6, 17, 45] rfl, hM⟩ ?_
  clear hE hM a; rintro kk a w20 ⟨hkk, vl3, hE, hM⟩
  refine wp_seq_k (fun K26 hK26 => ?_)
  refine wp_seq_k (fun K27 hK27 => ?_)
  refine wp_plain [true, true] rfl rfl ?_
  refine s_move hE rfl rfl ?_; clear hE a; intro a hE
  refine s_bin hE rfl rfl bin_lss rfl ?_; clear hE a; intro a hE
  refine q_nil ?_
  replace hE : Env a 94 [(1, _), (2, _), (3, _), (4, _), (5, _), (6, _), (17, _), (45, _), (67, _)] := hE.sel [1, 2, 3, 4, 5, 6, 17, 45, 67] rfl
  refine hK27 _ _ ?_
  refine hE.split 67 rfl (fun hb67 hE' => ?_) (fun hb67 hE' => ?_)
  · replace hE := hE'; clear hE'
    replace hb67 := of_decide_eq_true hb67
    replace hb67 : kk < 16 := by omega
    replace hb67 : kk < 16 := by omega
    refine wp_cond_true (hE.eval rfl) ?_
    refine wp_skip ?_
    refine hK26 _ _ ?_
    refine wp_seq_k (fun K28 hK28 => ?_)
    refine wp_block ?_
    refine wp_plain [true, true, true, true, true, true, true, true, false, false, true] rfl rfl ?_
    refine s_move hE rfl rfl ?_; clear hE a; intro a hE
    refine s_move hE rfl rfl ?_; clear hE a; intro a hE
    refine s_move hE rfl rfl ?_; clear hE a; intro a hE
    refine s_fieldAddr hE rfl fo39_2 rfl ?_; clear hE a; intro a hE
    refine s_indexArr (j := 0) hE rfl rfl arr37 rfl (by decide) rfl ?_; clear hE a; intro a hE
    refine s_fieldAddr hE rfl fo36_2 rfl ?_; clear hE a; intro a hE
    refine s_indexArr (j := kk) hE rfl rfl arr34 (by first | rfl | omega) (by first | omega | decide) rfl ?_; clear hE a; intro a hE
    refine s_loadPart8 (j := kk) (g := h.s0.2.2.1) 12 hE rfl (by first | rfl | omega | (simp; done) | (simp; omega)) (hM.get 1 rfl) rfl (by have hl_ : h.s0.2.2.1.length = 16 := hk.s0.2.1; first | omega | (rw [bv_length]; omega) | (simp; omega)) one5 (by intro X h; cases h) rfl ?_; clear hE a; intro a hE
    refine s_buildSlice (xs := [.tmp 77]) (bv [h.s0.2.2.1.getD kk 0]) hE hM sl55 rfl rfl rfl (by intro v hv; first | (cases hv; done) | (obtain ⟨x, _, rfl⟩ := List.mem_map.1 (show v ∈ bv [h.s0.2.2.1.getD kk 0] from hv); rfl)) rfl rfl rfl rfl ?_; clear hE a; intro a v78 w21 hE hM'
    clear hM; have hM := hM'; clear hM'
    replace hM := hM.ownEq (m' := [h.s0.2.2.1.getD kk 0].length) (cs' := bv [h.s0.2.2.1.getD kk 0]) rfl rfl
    replace hM : Mem _ _ w21 [_, _, _] := hM.pick [1, 0, 2] rfl
    obtain ⟨cq9, hq9⟩ := own_rd (hM.get 1 rfl)
    have hLb9 : (((((lP2 h) ++ [UInt8.ofNat (flagN h.s0.1)]) ++ (laid 4 h.s0.2.1.toNat)) ++ h.s0.2.2.1.take kk) ++ [h.s0.2.2.1.getD kk 0]).length = 156 + 1 + 4 + kk + 1 := (by have hl_p : ((((lP2 h) ++ [UInt8.ofNat (flagN h.s0.1)]) ++ (laid 4 h.s0.2.1.toNat)) ++ h.s0.2.2.1.take kk).length = 156 + 1 + 4 + kk := (by have hl_x : (((lP2 h) ++ [UInt8.ofNat (flagN h.s0.1)]) ++ (laid 4 h.s0.2.1.toNat)).length = 156 + 1 + 4 := hLb8; have hs_ := hk.s0.2.1; simp only [List.length_append, List.length_take, hs_, hl_x]; omega); have hl_q : [h.s0.2.2.1.getD kk 0].length = 1 := (by first | (simp; done) | (simp [*]; done) | (simp; omega)); rw [List.length_append]; omega)
    refine s_append hE rfl rfl hM sl55 (Src.rd Try.underlying55 hq9 (bv_one _)) (len47 (by have hl_x : ((((lP2 h) ++ [UInt8.ofNat (flagN h.s0.1)]) ++ (laid 4 h.s0.2.1.toNat)) ++ h.s0.2.2.1.take kk).length = 156 + 1 + 4 + kk := (by have hl_x : (((lP2 h) ++ [UInt8.ofNat (flagN h.s0.1)]) ++ (laid 4 h.s0.2.1.toNat)).length = 156 + 1 + 4 := hLb8; have hs_ := hk.s0.2.1; simp only [List.length_append, List.length_take, hs_, hl_x]; omega); have hl_y : [h.s0.2.2.1.getD kk 0].length = 1 := (by first | (simp; done) | (simp [*]; done) | (simp; omega)); first | omega | (simp; done) | (simp; omega))) (by have hl_x : ((((lP2 h) ++ [UInt8.ofNat (flagN h.s0.1)]) ++ (laid 4 h.s0.2.1.toNat)) ++ h.s0.2.2.1.take kk).length = 156 + 1 + 4 + kk := (by have hl_x : (((lP2 h) ++ [UInt8.ofNat (flagN h.s0.1)]) ++ (laid 4 h.s0.2.1.toNat)).length = 156 + 1 + 4 := hLb8; have hs_ := hk.s0.2.1; simp only [List.length_append, List.length_take, hs_, hl_x]; omega); have hl_y : [h.s0.2.2.1.getD kk 0].length = 1 := (by first | (simp; done) | (simp [*]; done) | (simp; omega)); first | omega | (simp; done) | (simp; omega)) (by intro X h; cases h) rfl ?_; clear hE a; intro a v79 w22 hE hM'; clear hM; have hM := hM'; clear hM'
    replace hM := Mem.ownApp (p := (((lP2 h) ++ [UInt8.ofNat (flagN h.s0.1)]) ++ (laid 4 h.s0.2.1.toNat)) ++ h.s0.2.2.1.take kk) (q := [h.s0.2.2.1.getD kk 0]) hM (by first | rfl | (simp; done))
    replace hM : Mem _ _ w22 [_, _] := hM.pick [0, 2] rfl
    refine s_assign hE rfl rfl ?_; clear hE a; intro a hE
    refine q_nil ?_
    replace hE : Env a 94 [(1, _), (2, _), (3, _), (4, _), (5, _), (6, _), (17, _), (45, _), (67, _)] := hE.sel [1, 2, 3, 4, 5, 6, 17, 45, 67] rfl
    refine q_block_n ?_
    refine hK28 _ _ ?_
    refine wp_plain [true, true, true] rfl rfl ?_
    refine s_move hE rfl rfl ?_; clear hE a; intro a hE
    refine s_bin hE rfl rfl (show Bin _ _ _ _ _ (.int .i64 ((kk + 1 : Nat) : Int)) from bin_add (by rw [wrap_i64 (by omega) (by omega)]; omega)) rfl ?_; clear hE a; intro a hE
    refine s_assign hE rfl rfl ?_; clear hE a; intro a hE
    refine q_nil ?_
    replace hE : Env a 94 [(1, _), (2, _), (3, _), (4, _), (5, _), (6, _), (17, _), (45, _), (67, _)] := hE.sel [1, 2, 3, 4, 5, 6, 17, 45, 67] rfl
    replace hE := hE.cast 6 rfl (show _ = Value.int .i64 (((kk + 1) : Nat) : Int) from (congrArg _ (by omega)))
    replace hM := Mem.ownB (p := ((((lP2 h) ++ [UInt8.ofNat (flagN h.s0.1)]) ++ (laid 4 h.s0.2.1.toNat)) ++ h.s0.2.2.1.take kk) ++ [h.s0.2.2.1.getD kk 0]) (q := (((lP2 h) ++ [UInt8.ofNat (flagN h.s0.1)]) ++ (laid 4 h.s0.2.1.toNat)) ++ h.s0.2.2.1.take (kk + 1)) hM (by rw [List.append_assoc, ← take_snoc (by have := hk.s0.2.1; omega)])
    replace hM : Mem _ _ w22 [_, _] := hM.pick [0, 1] rfl
    exact ⟨kk + 1, ⟨by omega, _, hE.sel [1, 2, 3, 4, 5, 6, 17, 45] rfl, hM⟩, by omega⟩
  · replace hE := hE'; clear hE'
    replace hb67 := of_decide_eq_false hb67
    replace hb67 : ¬ (kk < 16) := by omega
    obtain rfl : 16 = kk := by omega
    replace hM := Mem.ownB (p := (((lP2 h) ++ [UInt8.ofNat (flagN h.s0.1)]) ++ (laid 4 h.s0.2.1.toNat)) ++ h.s0.2.2.1.take 16) (q := (((lP2 h) ++ [UInt8.ofNat (flagN h.s0.1)]) ++ (laid 4 h.s0.2.1.toNat)) ++ h.s0.2.2.1) hM (by rw [take_all hk.s0.2.1])
    refine wp_cond_false (hE.eval rfl) ?_
    refine wp_exit ?_
    refine q_then_e ?_
    refine q_then_e ?_
    refine q_block_x ?_
    refine hK24 _ _ ?_
    refine wp_plain [true, true, true, true, true, true, false, true] rfl rfl ?_
    refine s_move hE rfl rfl ?_; clear hE a; intro a hE
    refine s_move hE rfl rfl ?_; clear hE a; intro a hE
    refine s_fieldAddr hE rfl fo39_2 rfl ?_; clear hE a; intro a hE
    refine s_indexArr (j := 0) hE rfl rfl arr37 rfl (by decide) rfl ?_; clear hE a; intro a hE
    refine s_fieldAddr hE rfl fo36_3 rfl ?_; clear hE a; intro a hE
    refine s_loadN hE rfl (hM.get 1 rfl) row29 rfl (by intro X h; cases h) rfl ?_; clear hE a; intro a hE
    replace hE := hE.cast 85 rfl (show _ = Value.agg ([bv h.s0.2.2.2.1, bv h.s0.2.2.2.2] : List (List Value)).flatten.toArray from (by first | rfl | simp only [List.flatten_cons, List.flatten_nil, List.append_nil, List.append_assoc]))
    obtain ⟨cq10, hq10⟩ := own_rd (hM.get 0 rfl)
    have hLb10 : ((((((lP2 h) ++ [UInt8.ofNat (flagN h.s0.1)]) ++ (laid 4 h.s0.2.1.toNat)) ++ h.s0.2.2.1) ++ h.s0.2.2.2.1) ++ h.s0.2.2.2.2).length = 156 + 1 + 4 + 16 + 64 := (by have hl_q : ((((lP2 h) ++ [UInt8.ofNat (flagN h.s0.1)]) ++ (laid 4 h.s0.2.1.toNat)) ++ h.s0.2.2.1).length = 156 + 1 + 4 + 16 := (by have hl_x : (((lP2 h) ++ [UInt8.ofNat (flagN h.s0.1)]) ++ (laid 4 h.s0.2.1.toNat)).length = 156 + 1 + 4 := hLb8; have hs_ := hk.s0.2.1; simp only [List.length_append, hs_, hl_x]); have hl_stx : h.s0.2.2.2.1.length = 32 := hk.s0.2.2.1; have hl_sty : h.s0.2.2.2.2.length = 32 := hk.s0.2.2.2; rw [List.length_append, List.length_append]; omega)
    refine s_call hE rfl Try.call36 (rboxput_c _ ((((lP2 h) ++ [UInt8.ofNat (flagN h.s0.1)]) ++ (laid 4 h.s0.2.1.toNat)) ++ h.s0.2.2.1) _ h.s0.2.2.2.1 h.s0.2.2.2.2 _ hq10 hk.s0.2.2.1 hk.s0.2.2.2 (by have hl_0 : ((((lP2 h) ++ [UInt8.ofNat (flagN h.s0.1)]) ++ (laid 4 h.s0.2.1.toNat)) ++ h.s0.2.2.1).length = 156 + 1 + 4 + 16 := (by have hl_x : (((lP2 h) ++ [UInt8.ofNat (flagN h.s0.1)]) ++ (laid 4 h.s0.2.1.toNat)).length = 156 + 1 + 4 := hLb8; have hs_ := hk.s0.2.1; simp only [List.length_append, hs_, hl_x]); have hl_1x : h.s0.2.2.2.1.length = 32 := hk.s0.2.2.1; have hl_1y : h.s0.2.2.2.2.length = 32 := hk.s0.2.2.2; first | omega | assumption | (simp; done) | (simp; omega) | decide)) rfl ?_
    rintro e w21 ⟨v86, rfl, hN⟩
    refine ⟨_, rfl, trivial, ?_⟩; clear hE a; intro a hE
    replace hM : Mem _ _ w21 [_, _, _] := hM.call0 hN ⟨rfl, trivial⟩; clear hN
    refine s_assign hE rfl rfl ?_; clear hE a; intro a hE
    refine q_nil ?_
    replace hE : Env a 94 [(1, _), (2, _), (3, _), (4, _), (5, _), (6, _), (17, _), (45, _), (67, _)] := hE.sel [1, 2, 3, 4, 5, 6, 17, 45, 67] rfl
    refine q_block_n ?_
    refine hK21 _ _ ?_
    refine wp_plain [true, true, true] rfl rfl ?_
    refine s_move hE rfl rfl ?_; clear hE a; intro a hE
    refine s_bin hE rfl rfl (show Bin _ _ _ _ _ (.int .i64 1) from bin_add (by rw [wrap_i64 (by omega) (by omega)]; omega)) rfl ?_; clear hE a; intro a hE
    refine s_assign hE rfl rfl ?_; clear hE a; intro a hE
    refine q_nil ?_
    replace hE : Env a 94 [(1, _), (2, _), (3, _), (4, _), (5, _), (6, _), (17, _), (45, _), (67, _)] := hE.sel [1, 2, 3, 4, 5, 6, 17, 45, 67] rfl
    replace hM := Mem.ownB (p := (((((lP2 h) ++ [UInt8.ofNat (flagN h.s0.1)]) ++ (laid 4 h.s0.2.1.toNat)) ++ h.s0.2.2.1) ++ h.s0.2.2.2.1) ++ h.s0.2.2.2.2) (q := lP3 h) hM (by simp [lP3, layV, layS, magicH, laid1])
    replace hM : Mem _ _ w21 [_, _, _] := hM.pick [0, 1, 2] rfl
    refine q_then_n (c_rounds ?_)
    refine wp_seq_k (fun K28 hK28 => ?_)
    refine wp_seq_k (fun K29 hK29 => ?_)
    refine wp_plain [true, true] rfl rfl ?_
    refine s_move hE rfl rfl ?_; clear hE a; intro a hE
    refine s_bin hE rfl rfl bin_lss rfl ?_; clear hE a; intro a hE
    replace hE := hE.cast 45 rfl (show _ = Value.bool true from (congrArg Value.bool (by decide)))
    refine q_nil ?_
    replace hE : Env a 94 [(1, _), (2, _), (3, _), (4, _), (5, _), (6, _), (17, _), (45, _), (67, _)] := hE.sel [1, 2, 3, 4, 5, 6, 17, 45, 67] rfl
    refine hK29 _ _ ?_
    refine wp_cond_true (hE.eval rfl) ?_
    refine wp_skip ?_
    refine hK28 _ _ ?_
    refine wp_seq_k (fun K30 hK30 => ?_)
    refine wp_block ?_
    refine wp_seq_k (fun K31 hK31 => ?_)
    refine wp_plain [true, true, true, true, true, true, false, false, false, true] rfl rfl ?_
    refine s_move hE rfl rfl ?_; clear hE a; intro a hE
    refine s_move hE rfl rfl ?_; clear hE a; intro a hE
    refine s_fieldAddr hE rfl fo39_2 rfl ?_; clear hE a; intro a hE
    refine s_indexArr (j := 1) hE rfl rfl arr37 rfl (by decide) rfl ?_; clear hE a; intro a hE
    refine s_fieldAddr hE rfl fo36_0 rfl ?_; clear hE a; intro a hE
    refine s_load1 hE rfl (hM.get 2 rfl) rfl one4 (by intro X h; cases h) rfl ?_; clear hE a; intro a hE
    refine s_call hE rfl Try.call34 (rflag_c h.s1.1 _) rfl ?_
    rintro e w22 ⟨rfl, hN⟩
    refine ⟨_, rfl, trivial, ?_⟩; clear hE a; intro a hE
    replace hM : Mem _ _ w22 [_, _, _] := hM.call0 hN trivial; clear hN
    refine s_buildSlice (xs := [.tmp 54]) (bv [UInt8.ofNat (flagN h.s1.1)]) hE hM sl55 rfl rfl rfl (by intro v hv; first | (cases hv; done) | (obtain ⟨x, _, rfl⟩ := List.mem_map.1 (show v ∈ bv [UInt8.ofNat (flagN h.s1.1)] from hv); rfl)) rfl rfl rfl rfl ?_; clear hE a; intro a v55 w23 hE hM'
    clear hM; have hM := hM'; clear hM'
    replace hM := hM.ownEq (m' := [UInt8.ofNat (flagN h.s1.1)].length) (cs' := bv [UInt8.ofNat (flagN h.s1.1)]) rfl rfl
    replace hM : Mem _ _ w23 [_, _, _, _] := hM.pick [1, 0, 2, 3] rfl
    obtain ⟨cq11, hq11⟩ := own_rd (hM.get 1 rfl)
    have hLb11 : ((lP3 h) ++ [UInt8.ofNat (flagN h.s1.1)]).length = 241 + 1 := (by have hl_p : (lP3 h).length = 241 := (lP3_len hk); have hl_q : [UInt8.ofNat (flagN h.s1.1)].length = 1 := (by first | (simp; done) | (simp [*]; done) | (simp; omega)); rw [List.length_append]; omega)
    refine s_append hE rfl rfl hM sl55 (Src.rd Try.underlying55 hq11 (bv_one _)) (len47 (by have hl_x : (lP3 h).length = 241 := (lP3_len hk); have hl_y : [UInt8.ofNat (flagN h.s1.1)].length = 1 := (by first | (simp; done) | (simp [*]; done) | (simp; omega)); first | omega | (simp; done) | (simp; omega))) (by have hl_x : (lP3 h).length = 241 := (lP3_len hk); have hl_y : [UInt8.ofNat (flagN h.s1.1)].length = 1 := (by first | (simp; done) | (simp [*]; done) | (simp; omega)); first | omega | (simp; done) | (simp; omega)) (by intro X h; cases h) rfl ?_; clear hE a; intro a v56 w24 hE hM'; clear hM; have hM := hM'; clear hM'
    replace hM := Mem.ownApp (p := lP3 h) (q := [UInt8.ofNat (flagN h.s1.1)]) hM (by first | rfl | (simp; done))
    replace hM : Mem _ _ w24 [_, _, _] := hM.pick [0, 2, 3] rfl
    refine s_assign hE rfl rfl ?_; clear hE a; intro a hE
    refine q_nil ?_
    replace hE : Env a 94 [(1, _), (2, _), (3, _), (4, _), (5, _), (6, _), (17, _), (45, _), (67, _)] := hE.sel [1, 2, 3, 4, 5, 6, 17, 45, 67] rfl
    refine hK31 _ _ ?_
    refine wp_seq_k (fun K32 hK32 => ?_)
    refine wp_plain [true, true, true, true, true, true, true, false, false, true] rfl rfl ?_
    refine s_move hE rfl rfl ?_; clear hE a; intro a hE
    refine s_move hE rfl rfl ?_; clear hE a; intro a hE
    refine s_fieldAddr hE rfl fo39_2 rfl ?_; clear hE a; intro a hE
    refine s_indexArr (j := 1) hE rfl rfl arr37 rfl (by decide) rfl ?_; clear hE a; intro a hE
    refine s_fieldAddr hE rfl fo36_1 rfl ?_; clear hE a; intro a hE
    refine s_load1 hE rfl (hM.get 2 rfl) rfl one3 (by intro X h; cases h) rfl ?_; clear hE a; intro a hE
    refine s_conv hE rfl (cnv_int Try.underlying3 Try.underlying24 (wrap_u64_toNat (z := h.s1.2.1) (by omega) (by omega))) rfl ?_; clear hE a; intro a hE
    refine s_call hE rfl Try.call35 (rdigits_c 4 h.s1.2.1.toNat _ (by first | omega | assumption | (simp; done) | (simp; omega) | decide) (by first | omega | assumption | (simp; done) | (simp; omega) | decide)) rfl ?_
    rintro e w25 ⟨v64, rfl, hN⟩
    refine ⟨_, rfl, trivial, ?_⟩; clear hE a; intro a hE
    replace hM : Mem _ _ w25 [_, _, _, _] := hM.call0 hN ⟨rfl, trivial⟩; clear hN
    replace hM : Mem _ _ w25 [_, _, _, _] := hM.pick [1, 0, 2, 3] rfl
    obtain ⟨cq12, hq12⟩ := own_rd (hM.get 1 rfl)
    have hLb12 : (((lP3 h) ++ [UInt8.ofNat (flagN h.s1.1)]) ++ (laid 4 h.s1.2.1.toNat)).length = 241 + 1 + 4 := (by have hl_p : ((lP3 h) ++ [UInt8.ofNat (flagN h.s1.1)]).length = 241 + 1 := hLb11; have hl_q : (laid 4 h.s1.2.1.toNat).length = 4 := (laid_length ..); rw [List.length_append]; omega)
    refine s_append hE rfl rfl hM sl55 (Src.rd Try.underlying55 hq12 (bv_one _)) (len47 (by have hl_x : ((lP3 h) ++ [UInt8.ofNat (flagN h.s1.1)]).length = 241 + 1 := hLb11; have hl_y : (laid 4 h.s1.2.1.toNat).length = 4 := (laid_length ..); first | omega | (simp; done) | (simp; omega))) (by have hl_x : ((lP3 h) ++ [UInt8.ofNat (flagN h.s1.1)]).length = 241 + 1 := hLb11; have hl_y : (laid 4 h.s1.2.1.toNat).length = 4 := (laid_length ..); first | omega | (simp; done) | (simp; omega)) (by intro X h; cases h) rfl ?_; clear hE a; intro a v65 w26 hE hM'; clear hM; have hM := hM'; clear hM'
    replace hM := Mem.ownApp (p := (lP3 h) ++ [UInt8.ofNat (flagN h.s1.1)]) (q := laid 4 h.s1.2.1.toNat) hM (by first | rfl | (simp; done))
    refine s_assign hE rfl rfl ?_; clear hE a; intro a hE
    refine q_nil ?_
    replace hE : Env a 94 [(1, _), (2, _), (3, _), (4, _), (5, _), (6, _), (17, _), (45, _), (67, _)] := hE.sel [1, 2, 3, 4, 5, 6, 17, 45, 67] rfl
    refine hK32 _ _ ?_
    refine wp_seq_k (fun K33 hK33 => ?_)
    refine wp_seq_k (fun K34 hK34 => ?_)
    refine wp_plain [true] rfl rfl ?_
    refine s_assign hE rfl rfl ?_; clear hE a; intro a hE
    refine q_nil ?_
    refine hK34 _ _ ?_
    refine wp_block ?_
    replace hM : Mem _ _ w26 [_, _] := hM.pick [0, 3] rfl
    replace hM := Mem.ownB (p := ((lP3 h) ++ [UInt8.ofNat (flagN h.s1.1)]) ++ (laid 4 h.s1.2.1.toNat)) (q := (((lP3 h) ++ [UInt8.ofNat (flagN h.s1.1)]) ++ (laid 4 h.s1.2.1.toNat)) ++ h.s1.2.2.1.take 0) hM (by simp)
    refine c_loop (fun (kk : Nat) a w' => kk ≤ 16 ∧ ∃ vl3, Env a 94 [(1, .pointer (some ⟨b1, 0, none⟩)), (2, .slice none 0 0), (3, vl3), (4, .int .i64 2), (5, .int .i64 1), (6, .int .i64 ((kk : Nat) : Int)), (17, .bool false), (45, .bool true)] ∧ Mem w [] w' [own vl3 1 ((((lP3 h) ++ [UInt8.ofNat (flagN h.s1.1)]) ++ (laid 4 h.s1.2.1.toNat)) ++ h.s1.2.2.1.take kk).length (bv ((((lP3 h) ++ [UInt8.ofNat (flagN h.s1.1)]) ++ (laid 4 h.s1.2.1.toNat)) ++ h.s1.2.2.1.take kk)), blk b1 [[.int .i64 h.m], [.int .i64 h.r], [.bool h.v0.1], [.int .u64 ((h.v0.2.1 : Nat) : Int)], bv h.v0.2.2.1, bv h.v0.2.2.2, [.bool h.v1.1], [.int .u64 ((h.v1.2.1 : Nat) : Int)], bv h.v1.2.2.1, bv h.v1.2.2.2, [.bool h.s0.1], [.int .i64 h.s0.2.1], bv h.s0.2.2.1, bv h.s0.2.2.2.1, bv h.s0.2.2.2.2, [.bool h.s1.1], [.int .i64 h.s1.2.1], bv h.s1.2.2.1, bv h.s1.2.2.2.1, bv h.s1.2.2.2.2, [.bool h.s2.1], [.int .i64 h.s2.2.1], bv h.s2.2.2.1, bv h.s2.2.2.2.1, bv h.s2.2.2.2.2, [.bool h.s3.1], [.int .i64 h.s3.2.1], bv h.s3.2.2.1, bv h.s3.2.2.2.1, bv h.s3.2.2.2.2] [1, 1, 1, 1, 32, 32, 1, 1, 32, 32, 1, 1, 16, 32, 32, 1, 1, 16, 32, 32, 1, 1, 16, 32, 32, 1, 1, 16, 32, 32] 39]) (fun kk => 16 - kk) 0 ⟨Nat.zero_le _, _, hE.sel [1, 2, 3, 4, 5, 6, 17, 45] rfl, hM⟩ ?_
    clear hE hM a; rintro kk a w27 ⟨hkk, vl3, hE, hM⟩
    refine wp_seq_k (fun K35 hK35 => ?_)
    refine wp_seq_k (fun K36 hK36 => ?_)
    refine wp_plain [true, true] rfl rfl ?_
    refine s_move hE rfl rfl ?_; clear hE a; intro a hE
    refine s_bin hE rfl rfl bin_lss rfl ?_; clear hE a; intro a hE
    refine q_nil ?_
    replace hE : Env a 94 [(1, _), (2, _), (3, _), (4, _), (5, _), (6, _), (17, _), (45, _), (67, _)] := hE.sel [1, 2, 3, 4, 5, 6, 17, 45, 67] rfl
    refine hK36 _ _ ?_
    refine hE.split 67 rfl (fun hb67' hE' => ?_) (fun hb67' hE' => ?_)
    · replace hE := hE'; clear hE'
      replace hb67' := of_decide_eq_true hb67'
      replace hb67' : kk < 16 := by omega
      replace hb67' : kk < 16 := by omega
      refine wp_cond_true (hE.eval rfl) ?_
      refine wp_skip ?_
      refine hK35 _ _ ?_
      refine wp_seq_k (fun K37 hK37 => ?_)
      refine wp_block ?_
      refine wp_plain [true, true, true, true, true, true, true, true, false, false, true] rfl rfl ?_
      refine s_move hE rfl rfl ?_; clear hE a; intro a hE
      refine s_move hE rfl rfl ?_; clear hE a; intro a hE
      refine s_move hE rfl rfl ?_; clear hE a; intro a hE
      refine s_fieldAddr hE rfl fo39_2 rfl ?_; clear hE a; intro a hE
      refine s_indexArr (j := 1) hE rfl rfl arr37 rfl (by decide) rfl ?_; clear hE a; intro a hE
      refine s_fieldAddr hE rfl fo36_2 rfl ?_; clear hE a; intro a hE
      refine s_indexArr (j := kk) hE rfl rfl arr34 (by first | rfl | omega) (by first | omega | decide) rfl ?_; clear hE a; intro a hE
      refine s_loadPart8 (j := kk) (g := h.s1.2.2.1) 17 hE rfl (by first | rfl | omega | (simp; done) | (simp; omega)) (hM.get 1 rfl) rfl (by have hl_ : h.s1.2.2.1.length = 16 := hk.s1.2.1; first | omega | (rw [bv_length]; omega) | (simp; omega)) one5 (by intro X h; cases h) rfl ?_; clear hE a; intro a hE
      refine s_buildSlice (xs := [.tmp 77]) (bv [h.s1.2.2.1.getD kk 0]) hE hM sl55 rfl rfl rfl (by intro v hv; first | (cases hv; done) | (obtain ⟨x, _, rfl⟩ := List.mem_map.1 (show v ∈ bv [h.s1.2.2.1.getD kk 0] from hv); rfl)) rfl rfl rfl rfl ?_; clear hE a; intro a v78 w28 hE hM'
      clear hM; have hM := hM'; clear hM'
      replace hM := hM.ownEq (m' := [h.s1.2.2.1.getD kk 0].length) (cs' := bv [h.s1.2.2.1.getD kk 0]) rfl rfl
      replace hM : Mem _ _ w28 [_, _, _] := hM.pick [1, 0, 2] rfl
      obtain ⟨cq13, hq13⟩ := own_rd (hM.get 1 rfl)
      have hLb13 : (((((lP3 h) ++ [UInt8.ofNat (flagN h.s1.1)]) ++ (laid 4 h.s1.2.1.toNat)) ++ h.s1.2.2.1.take kk) ++ [h.s1.2.2.1.getD kk 0]).length = 241 + 1 + 4 + kk + 1 := (by have hl_p : ((((lP3 h) ++ [UInt8.ofNat (flagN h.s1.1)]) ++ (laid 4 h.s1.2.1.toNat)) ++ h.s1.2.2.1.take kk).length = 241 + 1 + 4 + kk := (by have hl_x : (((lP3 h) ++ [UInt8.ofNat (flagN h.s1.1)]) ++ (laid 4 h.s1.2.1.toNat)).length = 241 + 1 + 4 := hLb12; have hs_ := hk.s1.2.1; simp only [List.length_append, List.length_take, hs_, hl_x]; omega); have hl_q : [h.s1.2.2.1.getD kk 0].length = 1 := (by first | (simp; done) | (simp [*]; done) | (simp; omega)); rw [List.length_append]; omega)
      refine s_append hE rfl rfl hM sl55 (Src.rd Try.underlying55 hq13 (bv_one _)) (len47 (by have hl_x : ((((lP3 h) ++ [UInt8.ofNat (flagN h.s1.1)]) ++ (laid 4 h.s1.2.1.toNat)) ++ h.s1.2.2.1.take kk).length = 241 + 1 + 4 + kk := (by have hl_x : (((lP3 h) ++ [UInt8.ofNat (flagN h.s1.1)]) ++ (laid 4 h.s1.2.1.toNat)).length = 241 + 1 + 4 := hLb12; have hs_ := hk.s1.2.1; simp only [List.length_append, List.length_take, hs_, hl_x]; omega); have hl_y : [h.s1.2.2.1.getD kk 0].length = 1 := (by first | (simp; done) | (simp [*]; done) | (simp; omega)); first | omega | (simp; done) | (simp; omega))) (by have hl_x : ((((lP3 h) ++ [UInt8.ofNat (flagN h.s1.1)]) ++ (laid 4 h.s1.2.1.toNat)) ++ h.s1.2.2.1.take kk).length = 241 + 1 + 4 + kk := (by have hl_x : (((lP3 h) ++ [UInt8.ofNat (flagN h.s1.1)]) ++ (laid 4 h.s1.2.1.toNat)).length = 241 + 1 + 4 := hLb12; have hs_ := hk.s1.2.1; simp only [List.length_append, List.length_take, hs_, hl_x]; omega); have hl_y : [h.s1.2.2.1.getD kk 0].length = 1 := (by first | (simp; done) | (simp [*]; done) | (simp; omega)); first | omega | (simp; done) | (simp; omega)) (by intro X h; cases h) rfl ?_; clear hE a; intro a v79 w29 hE hM'; clear hM; have hM := hM'; clear hM'
      replace hM := Mem.ownApp (p := (((lP3 h) ++ [UInt8.ofNat (flagN h.s1.1)]) ++ (laid 4 h.s1.2.1.toNat)) ++ h.s1.2.2.1.take kk) (q := [h.s1.2.2.1.getD kk 0]) hM (by first | rfl | (simp; done))
      replace hM : Mem _ _ w29 [_, _] := hM.pick [0, 2] rfl
      refine s_assign hE rfl rfl ?_; clear hE a; intro a hE
      refine q_nil ?_
      replace hE : Env a 94 [(1, _), (2, _), (3, _), (4, _), (5, _), (6, _), (17, _), (45, _), (67, _)] := hE.sel [1, 2, 3, 4, 5, 6, 17, 45, 67] rfl
      refine q_block_n ?_
      refine hK37 _ _ ?_
      refine wp_plain [true, true, true] rfl rfl ?_
      refine s_move hE rfl rfl ?_; clear hE a; intro a hE
      refine s_bin hE rfl rfl (show Bin _ _ _ _ _ (.int .i64 ((kk + 1 : Nat) : Int)) from bin_add (by rw [wrap_i64 (by omega) (by omega)]; omega)) rfl ?_; clear hE a; intro a hE
      refine s_assign hE rfl rfl ?_; clear hE a; intro a hE
      refine q_nil ?_
      replace hE : Env a 94 [(1, _), (2, _), (3, _), (4, _), (5, _), (6, _), (17, _), (45, _), (67, _)] := hE.sel [1, 2, 3, 4, 5, 6, 17, 45, 67] rfl
      replace hE := hE.cast 6 rfl (show _ = Value.int .i64 (((kk + 1) : Nat) : Int) from (congrArg _ (by omega)))
      replace hM := Mem.ownB (p := ((((lP3 h) ++ [UInt8.ofNat (flagN h.s1.1)]) ++ (laid 4 h.s1.2.1.toNat)) ++ h.s1.2.2.1.take kk) ++ [h.s1.2.2.1.getD kk 0]) (q := (((lP3 h) ++ [UInt8.ofNat (flagN h.s1.1)]) ++ (laid 4 h.s1.2.1.toNat)) ++ h.s1.2.2.1.take (kk + 1)) hM (by rw [List.append_assoc, ← take_snoc (by have := hk.s1.2.1; omega)])
      replace hM : Mem _ _ w29 [_, _] := hM.pick [0, 1] rfl
      exact ⟨kk + 1, ⟨by omega, _, hE.sel [1, 2, 3, 4, 5, 6, 17, 45] rfl, hM⟩, by omega⟩
    · replace hE := hE'; clear hE'
      replace hb67' := of_decide_eq_false hb67'
      replace hb67' : ¬ (kk < 16) := by omega
      obtain rfl : 16 = kk := by omega
      replace hM := Mem.ownB (p := (((lP3 h) ++ [UInt8.ofNat (flagN h.s1.1)]) ++ (laid 4 h.s1.2.1.toNat)) ++ h.s1.2.2.1.take 16) (q := (((lP3 h) ++ [UInt8.ofNat (flagN h.s1.1)]) ++ (laid 4 h.s1.2.1.toNat)) ++ h.s1.2.2.1) hM (by rw [take_all hk.s1.2.1])
      refine wp_cond_false (hE.eval rfl) ?_
      refine wp_exit ?_
      refine q_then_e ?_
      refine q_then_e ?_
      refine q_block_x ?_
      refine hK33 _ _ ?_
      refine wp_plain [true, true, true, true, true, true, false, true] rfl rfl ?_
      refine s_move hE rfl rfl ?_; clear hE a; intro a hE
      refine s_move hE rfl rfl ?_; clear hE a; intro a hE
      refine s_fieldAddr hE rfl fo39_2 rfl ?_; clear hE a; intro a hE
      refine s_indexArr (j := 1) hE rfl rfl arr37 rfl (by decide) rfl ?_; clear hE a; intro a hE
      refine s_fieldAddr hE rfl fo36_3 rfl ?_; clear hE a; intro a hE
      refine s_loadN hE rfl (hM.get 1 rfl) row29 rfl (by intro X h; cases h) rfl ?_; clear hE a; intro a hE
      replace hE := hE.cast 85 rfl (show _ = Value.agg ([bv h.s1.2.2.2.1, bv h.s1.2.2.2.2] : List (List Value)).flatten.toArray from (by first | rfl | simp only [List.flatten_cons, List.flatten_nil, List.append_nil, List.append_assoc]))
      obtain ⟨cq14, hq14⟩ := own_rd (hM.get 0 rfl)
      have hLb14 : ((((((lP3 h) ++ [UInt8.ofNat (flagN h.s1.1)]) ++ (laid 4 h.s1.2.1.toNat)) ++ h.s1.2.2.1) ++ h.s1.2.2.2.1) ++ h.s1.2.2.2.2).length = 241 + 1 + 4 + 16 + 64 := (by have hl_q : ((((lP3 h) ++ [UInt8.ofNat (flagN h.s1.1)]) ++ (laid 4 h.s1.2.1.toNat)) ++ h.s1.2.2.1).length = 241 + 1 + 4 + 16 := (by have hl_x : (((lP3 h) ++ [UInt8.ofNat (flagN h.s1.1)]) ++ (laid 4 h.s1.2.1.toNat)).length = 241 + 1 + 4 := hLb12; have hs_ := hk.s1.2.1; simp only [List.length_append, hs_, hl_x]); have hl_stx : h.s1.2.2.2.1.length = 32 := hk.s1.2.2.1; have hl_sty : h.s1.2.2.2.2.length = 32 := hk.s1.2.2.2; rw [List.length_append, List.length_append]; omega)
      refine s_call hE rfl Try.call36 (rboxput_c _ ((((lP3 h) ++ [UInt8.ofNat (flagN h.s1.1)]) ++ (laid 4 h.s1.2.1.toNat)) ++ h.s1.2.2.1) _ h.s1.2.2.2.1 h.s1.2.2.2.2 _ hq14 hk.s1.2.2.1 hk.s1.2.2.2 (by have hl_0 : ((((lP3 h) ++ [UInt8.ofNat (flagN h.s1.1)]) ++ (laid 4 h.s1.2.1.toNat)) ++ h.s1.2.2.1).length = 241 + 1 + 4 + 16 := (by have hl_x : (((lP3 h) ++ [UInt8.ofNat (flagN h.s1.1)]) ++ (laid 4 h.s1.2.1.toNat)).length = 241 + 1 + 4 := hLb12; have hs_ := hk.s1.2.1; simp only [List.length_append, hs_, hl_x]); have hl_1x : h.s1.2.2.2.1.length = 32 := hk.s1.2.2.1; have hl_1y : h.s1.2.2.2.2.length = 32 := hk.s1.2.2.2; first | omega | assumption | (simp; done) | (simp; omega) | decide)) rfl ?_
      rintro e w28 ⟨v86, rfl, hN⟩
      refine ⟨_, rfl, trivial, ?_⟩; clear hE a; intro a hE
      replace hM : Mem _ _ w28 [_, _, _] := hM.call0 hN ⟨rfl, trivial⟩; clear hN
      refine s_assign hE rfl rfl ?_; clear hE a; intro a hE
      refine q_nil ?_
      replace hE : Env a 94 [(1, _), (2, _), (3, _), (4, _), (5, _), (6, _), (17, _), (45, _), (67, _)] := hE.sel [1, 2, 3, 4, 5, 6, 17, 45, 67] rfl
      refine q_block_n ?_
      refine hK30 _ _ ?_
      refine wp_plain [true, true, true] rfl rfl ?_
      refine s_move hE rfl rfl ?_; clear hE a; intro a hE
      refine s_bin hE rfl rfl (show Bin _ _ _ _ _ (.int .i64 2) from bin_add (by rw [wrap_i64 (by omega) (by omega)]; omega)) rfl ?_; clear hE a; intro a hE
      refine s_assign hE rfl rfl ?_; clear hE a; intro a hE
      refine q_nil ?_
      replace hE : Env a 94 [(1, _), (2, _), (3, _), (4, _), (5, _), (6, _), (17, _), (45, _), (67, _)] := hE.sel [1, 2, 3, 4, 5, 6, 17, 45, 67] rfl
      replace hM : Mem _ _ w28 [_, _] := hM.pick [0, 2] rfl
      replace hM := Mem.ownB (p := (((((lP3 h) ++ [UInt8.ofNat (flagN h.s1.1)]) ++ (laid 4 h.s1.2.1.toNat)) ++ h.s1.2.2.1) ++ h.s1.2.2.2.1) ++ h.s1.2.2.2.2) (q := lP4 h) hM (by simp [lP4, layV, layS, magicH, laid1])
      replace hM : Mem _ _ w28 [_, _] := hM.pick [0, 1] rfl
      refine q_then_n (c_rounds ?_)
      refine wp_seq_k (fun K37 hK37 => ?_)
      refine wp_seq_k (fun K38 hK38 => ?_)
      refine wp_plain [true, true] rfl rfl ?_
      refine s_move hE rfl rfl ?_; clear hE a; intro a hE
      refine s_bin hE rfl rfl bin_lss rfl ?_; clear hE a; intro a hE
      replace hE := hE.cast 45 rfl (show _ = Value.bool true from (congrArg Value.bool (by decide)))
      refine q_nil ?_
      replace hE : Env a 94 [(1, _), (2, _), (3, _), (4, _), (5, _), (6, _), (17, _), (45, _), (67, _)] := hE.sel [1, 2, 3, 4, 5, 6, 17, 45, 67] rfl
      refine hK38 _ _ ?_
      refine wp_cond_true (hE.eval rfl) ?_
      refine wp_skip ?_
      refine hK37 _ _ ?_
      refine wp_seq_k (fun K39 hK39 => ?_)
      refine wp_block ?_
      refine wp_seq_k (fun K40 hK40 => ?_)
      refine wp_plain [true, true, true, true, true, true, false, false, false, true] rfl rfl ?_
      refine s_move hE rfl rfl ?_; clear hE a; intro a hE
      refine s_move hE rfl rfl ?_; clear hE a; intro a hE
      refine s_fieldAddr hE rfl fo39_2 rfl ?_; clear hE a; intro a hE
      refine s_indexArr (j := 2) hE rfl rfl arr37 rfl (by decide) rfl ?_; clear hE a; intro a hE
      refine s_fieldAddr hE rfl fo36_0 rfl ?_; clear hE a; intro a hE
      refine s_load1 hE rfl (hM.get 1 rfl) rfl one4 (by intro X h; cases h) rfl ?_; clear hE a; intro a hE
      refine s_call hE rfl Try.call34 (rflag_c h.s2.1 _) rfl ?_
      rintro e w29 ⟨rfl, hN⟩
      refine ⟨_, rfl, trivial, ?_⟩; clear hE a; intro a hE
      replace hM : Mem _ _ w29 [_, _] := hM.call0 hN trivial; clear hN
      refine s_buildSlice (xs := [.tmp 54]) (bv [UInt8.ofNat (flagN h.s2.1)]) hE hM sl55 rfl rfl rfl (by intro v hv; first | (cases hv; done) | (obtain ⟨x, _, rfl⟩ := List.mem_map.1 (show v ∈ bv [UInt8.ofNat (flagN h.s2.1)] from hv); rfl)) rfl rfl rfl rfl ?_; clear hE a; intro a v55 w30 hE hM'
      clear hM; have hM := hM'; clear hM'
      replace hM := hM.ownEq (m' := [UInt8.ofNat (flagN h.s2.1)].length) (cs' := bv [UInt8.ofNat (flagN h.s2.1)]) rfl rfl
      replace hM : Mem _ _ w30 [_, _, _] := hM.pick [1, 0, 2] rfl
      obtain ⟨cq15, hq15⟩ := own_rd (hM.get 1 rfl)
      have hLb15 : ((lP4 h) ++ [UInt8.ofNat (flagN h.s2.1)]).length = 326 + 1 := (by have hl_p : (lP4 h).length = 326 := (lP4_len hk); have hl_q : [UInt8.ofNat (flagN h.s2.1)].length = 1 := (by first | (simp; done) | (simp [*]; done) | (simp; omega)); rw [List.length_append]; omega)
      refine s_append hE rfl rfl hM sl55 (Src.rd Try.underlying55 hq15 (bv_one _)) (len47 (by have hl_x : (lP4 h).length = 326 := (lP4_len hk); have hl_y : [UInt8.ofNat (flagN h.s2.1)].length = 1 := (by first | (simp; done) | (simp [*]; done) | (simp; omega)); first | omega | (simp; done) | (simp; omega))) (by have hl_x : (lP4 h).length = 326 := (lP4_len hk); have hl_y : [UInt8.ofNat (flagN h.s2.1)].length = 1 := (by first | (simp; done) | (simp [*]; done) | (simp; omega)); first | omega | (simp; done) | (simp; omega)) (by intro X h; cases h) rfl ?_; clear hE a; intro a v56 w31 hE hM'; clear hM; have hM := hM'; clear hM'
      replace hM := Mem.ownApp (p := lP4 h) (q := [UInt8.ofNat (flagN h.s2.1)]) hM (by first | rfl | (simp; done))
      replace hM : Mem _ _ w31 [_, _] := hM.pick [0, 2] rfl
      refine s_assign hE rfl rfl ?_; clear hE a; intro a hE
      refine q_nil ?_
      replace hE : Env a 94 [(1, _), (2, _), (3, _), (4, _), (5, _), (6, _), (17, _), (45, _), (67, _)] := hE.sel [1, 2, 3, 4, 5, 6, 17, 45, 67] rfl
      refine hK40 _ _ ?_
      refine wp_seq_k (fun K41 hK41 => ?_)
      refine wp_plain [true, true, true, true, true, true, true, false, false, true] rfl rfl ?_
      refine s_move hE rfl rfl ?_; clear hE a; intro a hE
      refine s_move hE rfl rfl ?_; clear hE a; intro a hE
      refine s_fieldAddr hE rfl fo39_2 rfl ?_; clear hE a; intro a hE
      refine s_indexArr (j := 2) hE rfl rfl arr37 rfl (by decide) rfl ?_; clear hE a; intro a hE
      refine s_fieldAddr hE rfl fo36_1 rfl ?_; clear hE a; intro a hE
      refine s_load1 hE rfl (hM.get 1 rfl) rfl one3 (by intro X h; cases h) rfl ?_; clear hE a; intro a hE
      refine s_conv hE rfl (cnv_int Try.underlying3 Try.underlying24 (wrap_u64_toNat (z := h.s2.2.1) (by omega) (by omega))) rfl ?_; clear hE a; intro a hE
      refine s_call hE rfl Try.call35 (rdigits_c 4 h.s2.2.1.toNat _ (by first | omega | assumption | (simp; done) | (simp; omega) | decide) (by first | omega | assumption | (simp; done) | (simp; omega) | decide)) rfl ?_
      rintro e w32 ⟨v64, rfl, hN⟩
      refine ⟨_, rfl, trivial, ?_⟩; clear hE a; intro a hE
      replace hM : Mem _ _ w32 [_, _, _] := hM.call0 hN ⟨rfl, trivial⟩; clear hN
      replace hM : Mem _ _ w32 [_, _, _] := hM.pick [1, 0, 2] rfl
      obtain ⟨cq16, hq16⟩ := own_rd (hM.get 1 rfl)
      have hLb16 : (((lP4 h) ++ [UInt8.ofNat (flagN h.s2.1)]) ++ (laid 4 h.s2.2.1.toNat)).length = 326 + 1 + 4 := (by have hl_p : ((lP4 h) ++ [UInt8.ofNat (flagN h.s2.1)]).length = 326 + 1 := hLb15; have hl_q : (laid 4 h.s2.2.1.toNat).length = 4 := (laid_length ..); rw [List.length_append]; omega)
      refine s_append hE rfl rfl hM sl55 (Src.rd Try.underlying55 hq16 (bv_one _)) (len47 (by have hl_x : ((lP4 h) ++ [UInt8.ofNat (flagN h.s2.1)]).length = 326 + 1 := hLb15; have hl_y : (laid 4 h.s2.2.1.toNat).length = 4 := (laid_length ..); first | omega | (simp; done) | (simp; omega))) (by have hl_x : ((lP4 h) ++ [UInt8.ofNat (flagN h.s2.1)]).length = 326 + 1 := hLb15; have hl_y : (laid 4 h.s2.2.1.toNat).length = 4 := (laid_length ..); first | omega | (simp; done) | (simp; omega)) (by intro X h; cases h) rfl ?_; clear hE a; intro a v65 w33 hE hM'; clear hM; have hM := hM'; clear hM'
      replace hM := Mem.ownApp (p := (lP4 h) ++ [UInt8.ofNat (flagN h.s2.1)]) (q := laid 4 h.s2.2.1.toNat) hM (by first | rfl | (simp; done))
      refine s_assign hE rfl rfl ?_; clear hE a; intro a hE
      refine q_nil ?_
      replace hE : Env a 94 [(1, _), (2, _), (3, _), (4, _), (5, _), (6, _), (17, _), (45, _), (67, _)] := hE.sel [1, 2, 3, 4, 5, 6, 17, 45, 67] rfl
      refine hK41 _ _ ?_
      refine wp_seq_k (fun K42 hK42 => ?_)
      refine wp_seq_k (fun K43 hK43 => ?_)
      refine wp_plain [true] rfl rfl ?_
      refine s_assign hE rfl rfl ?_; clear hE a; intro a hE
      refine q_nil ?_
      refine hK43 _ _ ?_
      refine wp_block ?_
      replace hM : Mem _ _ w33 [_, _] := hM.pick [0, 2] rfl
      replace hM := Mem.ownB (p := ((lP4 h) ++ [UInt8.ofNat (flagN h.s2.1)]) ++ (laid 4 h.s2.2.1.toNat)) (q := (((lP4 h) ++ [UInt8.ofNat (flagN h.s2.1)]) ++ (laid 4 h.s2.2.1.toNat)) ++ h.s2.2.2.1.take 0) hM (by simp)
      refine c_loop (fun (kk : Nat) a w' => kk ≤ 16 ∧ ∃ vl3, Env a 94 [(1, .pointer (some ⟨b1, 0, none⟩)), (2, .slice none 0 0), (3, vl3), (4, .int .i64 2), (5, .int .i64 2), (6, .int .i64 ((kk : Nat) : Int)), (17, .bool false), (45, .bool true)] ∧ Mem w [] w' [own vl3 1 ((((lP4 h) ++ [UInt8.ofNat (flagN h.s2.1)]) ++ (laid 4 h.s2.2.1.toNat)) ++ h.s2.2.2.1.take kk).length (bv ((((lP4 h) ++ [UInt8.ofNat (flagN h.s2.1)]) ++ (laid 4 h.s2.2.1.toNat)) ++ h.s2.2.2.1.take kk)), blk b1 [[.int .i64 h.m], [.int .i64 h.r], [.bool h.v0.1], [.int .u64 ((h.v0.2.1 : Nat) : Int)], bv h.v0.2.2.1, bv h.v0.2.2.2, [.bool h.v1.1], [.int .u64 ((h.v1.2.1 : Nat) : Int)], bv h.v1.2.2.1, bv h.v1.2.2.2, [.bool h.s0.1], [.int .i64 h.s0.2.1], bv h.s0.2.2.1, bv h.s0.2.2.2.1, bv h.s0.2.2.2.2, [.bool h.s1.1], [.int .i64 h.s1.2.1], bv h.s1.2.2.1, bv h.s1.2.2.2.1, bv h.s1.2.2.2.2, [.bool h.s2.1], [.int .i64 h.s2.2.1], bv h.s2.2.2.1, bv h.s2.2.2.2.1, bv h.s2.2.2.2.2, [.bool h.s3.1], [.int .i64 h.s3.2.1], bv h.s3.2.2.1, bv h.s3.2.2.2.1, bv h.s3.2.2.2.2] [1, 1, 1, 1, 32, 32, 1, 1, 32, 32, 1, 1, 16, 32, 32, 1, 1, 16, 32, 32, 1, 1, 16, 32, 32, 1, 1, 16, 32, 32] 39]) (fun kk => 16 - kk) 0 ⟨Nat.zero_le _, _, hE.sel [1, 2, 3, 4, 5, 6, 17, 45] rfl, hM⟩ ?_
      clear hE hM a; rintro kk a w34 ⟨hkk, vl3, hE, hM⟩
      refine wp_seq_k (fun K44 hK44 => ?_)
      refine wp_seq_k (fun K45 hK45 => ?_)
      refine wp_plain [true, true] rfl rfl ?_
      refine s_move hE rfl rfl ?_; clear hE a; intro a hE
      refine s_bin hE rfl rfl bin_lss rfl ?_; clear hE a; intro a hE
      refine q_nil ?_
      replace hE : Env a 94 [(1, _), (2, _), (3, _), (4, _), (5, _), (6, _), (17, _), (45, _), (67, _)] := hE.sel [1, 2, 3, 4, 5, 6, 17, 45, 67] rfl
      refine hK45 _ _ ?_
      refine hE.split 67 rfl (fun hb67'' hE' => ?_) (fun hb67'' hE' => ?_)
      · replace hE := hE'; clear hE'
        replace hb67'' := of_decide_eq_true hb67''
        replace hb67'' : kk < 16 := by omega
        replace hb67'' : kk < 16 := by omega
        refine wp_cond_true (hE.eval rfl) ?_
        refine wp_skip ?_
        refine hK44 _ _ ?_
        refine wp_seq_k (fun K46 hK46 => ?_)
        refine wp_block ?_
        refine wp_plain [true, true, true, true, true, true, true, true, false, false, true] rfl rfl ?_
        refine s_move hE rfl rfl ?_; clear hE a; intro a hE
        refine s_move hE rfl rfl ?_; clear hE a; intro a hE
        refine s_move hE rfl rfl ?_; clear hE a; intro a hE
        refine s_fieldAddr hE rfl fo39_2 rfl ?_; clear hE a; intro a hE
        refine s_indexArr (j := 2) hE rfl rfl arr37 rfl (by decide) rfl ?_; clear hE a; intro a hE
        refine s_fieldAddr hE rfl fo36_2 rfl ?_; clear hE a; intro a hE
        refine s_indexArr (j := kk) hE rfl rfl arr34 (by first | rfl | omega) (by first | omega | decide) rfl ?_; clear hE a; intro a hE
        refine s_loadPart8 (j := kk) (g := h.s2.2.2.1) 22 hE rfl (by first | rfl | omega | (simp; done) | (simp; omega)) (hM.get 1 rfl) rfl (by have hl_ : h.s2.2.2.1.length = 16 := hk.s2.2.1; first | omega | (rw [bv_length]; omega) | (simp; omega)) one5 (by intro X h; cases h) rfl ?_; clear hE a; intro a hE
        refine s_buildSlice (xs := [.tmp 77]) (bv [h.s2.2.2.1.getD kk 0]) hE hM sl55 rfl rfl rfl (by intro v hv; first | (cases hv; done) | (obtain ⟨x, _, rfl⟩ := List.mem_map.1 (show v ∈ bv [h.s2.2.2.1.getD kk 0] from hv); rfl)) rfl rfl rfl rfl ?_; clear hE a; intro a v78 w35 hE hM'
        clear hM; have hM := hM'; clear hM'
        replace hM := hM.ownEq (m' := [h.s2.2.2.1.getD kk 0].length) (cs' := bv [h.s2.2.2.1.getD kk 0]) rfl rfl
        replace hM : Mem _ _ w35 [_, _, _] := hM.pick [1, 0, 2] rfl
        obtain ⟨cq17, hq17⟩ := own_rd (hM.get 1 rfl)
        have hLb17 : (((((lP4 h) ++ [UInt8.ofNat (flagN h.s2.1)]) ++ (laid 4 h.s2.2.1.toNat)) ++ h.s2.2.2.1.take kk) ++ [h.s2.2.2.1.getD kk 0]).length = 326 + 1 + 4 + kk + 1 := (by have hl_p : ((((lP4 h) ++ [UInt8.ofNat (flagN h.s2.1)]) ++ (laid 4 h.s2.2.1.toNat)) ++ h.s2.2.2.1.take kk).length = 326 + 1 + 4 + kk := (by have hl_x : (((lP4 h) ++ [UInt8.ofNat (flagN h.s2.1)]) ++ (laid 4 h.s2.2.1.toNat)).length = 326 + 1 + 4 := hLb16; have hs_ := hk.s2.2.1; simp only [List.length_append, List.length_take, hs_, hl_x]; omega); have hl_q : [h.s2.2.2.1.getD kk 0].length = 1 := (by first | (simp; done) | (simp [*]; done) | (simp; omega)); rw [List.length_append]; omega)
        refine s_append hE rfl rfl hM sl55 (Src.rd Try.underlying55 hq17 (bv_one _)) (len47 (by have hl_x : ((((lP4 h) ++ [UInt8.ofNat (flagN h.s2.1)]) ++ (laid 4 h.s2.2.1.toNat)) ++ h.s2.2.2.1.take kk).length = 326 + 1 + 4 + kk := (by have hl_x : (((lP4 h) ++ [UInt8.ofNat (flagN h.s2.1)]) ++ (laid 4 h.s2.2.1.toNat)).length = 326 + 1 + 4 := hLb16; have hs_ := hk.s2.2.1; simp only [List.length_append, List.length_take, hs_, hl_x]; omega); have hl_y : [h.s2.2.2.1.getD kk 0].length = 1 := (by first | (simp; done) | (simp [*]; done) | (simp; omega)); first | omega | (simp; done) | (simp; omega))) (by have hl_x : ((((lP4 h) ++ [UInt8.ofNat (flagN h.s2.1)]) ++ (laid 4 h.s2.2.1.toNat)) ++ h.s2.2.2.1.take kk).length = 326 + 1 + 4 + kk := (by have hl_x : (((lP4 h) ++ [UInt8.ofNat (flagN h.s2.1)]) ++ (laid 4 h.s2.2.1.toNat)).length = 326 + 1 + 4 := hLb16; have hs_ := hk.s2.2.1; simp only [List.length_append, List.length_take, hs_, hl_x]; omega); have hl_y : [h.s2.2.2.1.getD kk 0].length = 1 := (by first | (simp; done) | (simp [*]; done) | (simp; omega)); first | omega | (simp; done) | (simp; omega)) (by intro X h; cases h) rfl ?_; clear hE a; intro a v79 w36 hE hM'; clear hM; have hM := hM'; clear hM'
        replace hM := Mem.ownApp (p := (((lP4 h) ++ [UInt8.ofNat (flagN h.s2.1)]) ++ (laid 4 h.s2.2.1.toNat)) ++ h.s2.2.2.1.take kk) (q := [h.s2.2.2.1.getD kk 0]) hM (by first | rfl | (simp; done))
        replace hM : Mem _ _ w36 [_, _] := hM.pick [0, 2] rfl
        refine s_assign hE rfl rfl ?_; clear hE a; intro a hE
        refine q_nil ?_
        replace hE : Env a 94 [(1, _), (2, _), (3, _), (4, _), (5, _), (6, _), (17, _), (45, _), (67, _)] := hE.sel [1, 2, 3, 4, 5, 6, 17, 45, 67] rfl
        refine q_block_n ?_
        refine hK46 _ _ ?_
        refine wp_plain [true, true, true] rfl rfl ?_
        refine s_move hE rfl rfl ?_; clear hE a; intro a hE
        refine s_bin hE rfl rfl (show Bin _ _ _ _ _ (.int .i64 ((kk + 1 : Nat) : Int)) from bin_add (by rw [wrap_i64 (by omega) (by omega)]; omega)) rfl ?_; clear hE a; intro a hE
        refine s_assign hE rfl rfl ?_; clear hE a; intro a hE
        refine q_nil ?_
        replace hE : Env a 94 [(1, _), (2, _), (3, _), (4, _), (5, _), (6, _), (17, _), (45, _), (67, _)] := hE.sel [1, 2, 3, 4, 5, 6, 17, 45, 67] rfl
        replace hE := hE.cast 6 rfl (show _ = Value.int .i64 (((kk + 1) : Nat) : Int) from (congrArg _ (by omega)))
        replace hM := Mem.ownB (p := ((((lP4 h) ++ [UInt8.ofNat (flagN h.s2.1)]) ++ (laid 4 h.s2.2.1.toNat)) ++ h.s2.2.2.1.take kk) ++ [h.s2.2.2.1.getD kk 0]) (q := (((lP4 h) ++ [UInt8.ofNat (flagN h.s2.1)]) ++ (laid 4 h.s2.2.1.toNat)) ++ h.s2.2.2.1.take (kk + 1)) hM (by rw [List.append_assoc, ← take_snoc (by have := hk.s2.2.1; omega)])
        replace hM : Mem _ _ w36 [_, _] := hM.pick [0, 1] rfl
        exact ⟨kk + 1, ⟨by omega, _, hE.sel [1, 2, 3, 4, 5, 6, 17, 45] rfl, hM⟩, by omega⟩
      · replace hE := hE'; clear hE'
        replace hb67'' := of_decide_eq_false hb67''
        replace hb67'' : ¬ (kk < 16) := by omega
        obtain rfl : 16 = kk := by omega
        replace hM := Mem.ownB (p := (((lP4 h) ++ [UInt8.ofNat (flagN h.s2.1)]) ++ (laid 4 h.s2.2.1.toNat)) ++ h.s2.2.2.1.take 16) (q := (((lP4 h) ++ [UInt8.ofNat (flagN h.s2.1)]) ++ (laid 4 h.s2.2.1.toNat)) ++ h.s2.2.2.1) hM (by rw [take_all hk.s2.2.1])
        refine wp_cond_false (hE.eval rfl) ?_
        refine wp_exit ?_
        refine q_then_e ?_
        refine q_then_e ?_
        refine q_block_x ?_
        refine hK42 _ _ ?_
        refine wp_plain [true, true, true, true, true, true, false, true] rfl rfl ?_
        refine s_move hE rfl rfl ?_; clear hE a; intro a hE
        refine s_move hE rfl rfl ?_; clear hE a; intro a hE
        refine s_fieldAddr hE rfl fo39_2 rfl ?_; clear hE a; intro a hE
        refine s_indexArr (j := 2) hE rfl rfl arr37 rfl (by decide) rfl ?_; clear hE a; intro a hE
        refine s_fieldAddr hE rfl fo36_3 rfl ?_; clear hE a; intro a hE
        refine s_loadN hE rfl (hM.get 1 rfl) row29 rfl (by intro X h; cases h) rfl ?_; clear hE a; intro a hE
        replace hE := hE.cast 85 rfl (show _ = Value.agg ([bv h.s2.2.2.2.1, bv h.s2.2.2.2.2] : List (List Value)).flatten.toArray from (by first | rfl | simp only [List.flatten_cons, List.flatten_nil, List.append_nil, List.append_assoc]))
        obtain ⟨cq18, hq18⟩ := own_rd (hM.get 0 rfl)
        have hLb18 : ((((((lP4 h) ++ [UInt8.ofNat (flagN h.s2.1)]) ++ (laid 4 h.s2.2.1.toNat)) ++ h.s2.2.2.1) ++ h.s2.2.2.2.1) ++ h.s2.2.2.2.2).length = 326 + 1 + 4 + 16 + 64 := (by have hl_q : ((((lP4 h) ++ [UInt8.ofNat (flagN h.s2.1)]) ++ (laid 4 h.s2.2.1.toNat)) ++ h.s2.2.2.1).length = 326 + 1 + 4 + 16 := (by have hl_x : (((lP4 h) ++ [UInt8.ofNat (flagN h.s2.1)]) ++ (laid 4 h.s2.2.1.toNat)).length = 326 + 1 + 4 := hLb16; have hs_ := hk.s2.2.1; simp only [List.length_append, hs_, hl_x]); have hl_stx : h.s2.2.2.2.1.length = 32 := hk.s2.2.2.1; have hl_sty : h.s2.2.2.2.2.length = 32 := hk.s2.2.2.2; rw [List.length_append, List.length_append]; omega)
        refine s_call hE rfl Try.call36 (rboxput_c _ ((((lP4 h) ++ [UInt8.ofNat (flagN h.s2.1)]) ++ (laid 4 h.s2.2.1.toNat)) ++ h.s2.2.2.1) _ h.s2.2.2.2.1 h.s2.2.2.2.2 _ hq18 hk.s2.2.2.1 hk.s2.2.2.2 (by have hl_0 : ((((lP4 h) ++ [UInt8.ofNat (flagN h.s2.1)]) ++ (laid 4 h.s2.2.1.toNat)) ++ h.s2.2.2.1).length = 326 + 1 + 4 + 16 := (by have hl_x : (((lP4 h) ++ [UInt8.ofNat (flagN h.s2.1)]) ++ (laid 4 h.s2.2.1.toNat)).length = 326 + 1 + 4 := hLb16; have hs_ := hk.s2.2.1; simp only [List.length_append, hs_, hl_x]); have hl_1x : h.s2.2.2.2.1.length = 32 := hk.s2.2.2.1; have hl_1y : h.s2.2.2.2.2.length = 32 := hk.s2.2.2.2; first | omega | assumption | (simp; done) | (simp; omega) | decide)) rfl ?_
        rintro e w35 ⟨v86, rfl, hN⟩
        refine ⟨_, rfl, trivial, ?_⟩; clear hE a; intro a hE
        replace hM : Mem _ _ w35 [_, _, _] := hM.call0 hN ⟨rfl, trivial⟩; clear hN
        refine s_assign hE rfl rfl ?_; clear hE a; intro a hE
        refine q_nil ?_
        replace hE : Env a 94 [(1, _), (2, _), (3, _), (4, _), (5, _), (6, _), (17, _), (45, _), (67, _)] := hE.sel [1, 2, 3, 4, 5, 6, 17, 45, 67] rfl
        refine q_block_n ?_
        refine hK39 _ _ ?_
        refine wp_plain [true, true, true] rfl rfl ?_
        refine s_move hE rfl rfl ?_; clear hE a; intro a hE
        refine s_bin hE rfl rfl (show Bin _ _ _ _ _ (.int .i64 3) from bin_add (by rw [wrap_i64 (by omega) (by omega)]; omega)) rfl ?_; clear hE a; intro a hE
        refine s_assign hE rfl rfl ?_; clear hE a; intro a hE
        refine q_nil ?_
        replace hE : Env a 94 [(1, _), (2, _), (3, _), (4, _), (5, _), (6, _), (17, _), (45, _), (67, _)] := hE.sel [1, 2, 3, 4, 5, 6, 17, 45, 67] rfl
        replace hM : Mem _ _ w35 [_, _] := hM.pick [0, 2] rfl
        replace hM := Mem.ownB (p := (((((lP4 h) ++ [UInt8.ofNat (flagN h.s2.1)]) ++ (laid 4 h.s2.2.1.toNat)) ++ h.s2.2.2.1) ++ h.s2.2.2.2.1) ++ h.s2.2.2.2.2) (q := lP5 h) hM (by simp [lP5, layV, layS, magicH, laid1])
        replace hM : Mem _ _ w35 [_, _] := hM.pick [0, 1] rfl
        refine q_then_n (c_rounds ?_)
        refine wp_seq_k (fun K46 hK46 => ?_)
        refine wp_seq_k (fun K47 hK47 => ?_)
        refine wp_plain [true, true] rfl rfl ?_
        refine s_move hE rfl rfl ?_; clear hE a; intro a hE
        refine s_bin hE rfl rfl bin_lss rfl ?_; clear hE a; intro a hE
        replace hE := hE.cast 45 rfl (show _ = Value.bool true from (congrArg Value.bool (by decide)))
        refine q_nil ?_
        replace hE : Env a 94 [(1, _), (2, _), (3, _), (4, _), (5, _), (6, _), (17, _), (45, _), (67, _)] := hE.sel [1, 2, 3, 4, 5, 6, 17, 45, 67] rfl
        refine hK47 _ _ ?_
        refine wp_cond_true (hE.eval rfl) ?_
        refine wp_skip ?_
        refine hK46 _ _ ?_
        refine wp_seq_k (fun K48 hK48 => ?_)
        refine wp_block ?_
        refine wp_seq_k (fun K49 hK49 => ?_)
        refine wp_plain [true, true, true, true, true, true, false, false, false, true] rfl rfl ?_
        refine s_move hE rfl rfl ?_; clear hE a; intro a hE
        refine s_move hE rfl rfl ?_; clear hE a; intro a hE
        refine s_fieldAddr hE rfl fo39_2 rfl ?_; clear hE a; intro a hE
        refine s_indexArr (j := 3) hE rfl rfl arr37 rfl (by decide) rfl ?_; clear hE a; intro a hE
        refine s_fieldAddr hE rfl fo36_0 rfl ?_; clear hE a; intro a hE
        refine s_load1 hE rfl (hM.get 1 rfl) rfl one4 (by intro X h; cases h) rfl ?_; clear hE a; intro a hE
        refine s_call hE rfl Try.call34 (rflag_c h.s3.1 _) rfl ?_
        rintro e w36 ⟨rfl, hN⟩
        refine ⟨_, rfl, trivial, ?_⟩; clear hE a; intro a hE
        replace hM : Mem _ _ w36 [_, _] := hM.call0 hN trivial; clear hN
        refine s_buildSlice (xs := [.tmp 54]) (bv [UInt8.ofNat (flagN h.s3.1)]) hE hM sl55 rfl rfl rfl (by intro v hv; first | (cases hv; done) | (obtain ⟨x, _, rfl⟩ := List.mem_map.1 (show v ∈ bv [UInt8.ofNat (flagN h.s3.1)] from hv); rfl)) rfl rfl rfl rfl ?_; clear hE a; intro a v55 w37 hE hM'
        clear hM; have hM := hM'; clear hM'
        replace hM := hM.ownEq (m' := [UInt8.ofNat (flagN h.s3.1)].length) (cs' := bv [UInt8.ofNat (flagN h.s3.1)]) rfl rfl
        replace hM : Mem _ _ w37 [_, _, _] := hM.pick [1, 0, 2] rfl
        obtain ⟨cq19, hq19⟩ := own_rd (hM.get 1 rfl)
        have hLb19 : ((lP5 h) ++ [UInt8.ofNat (flagN h.s3.1)]).length = 411 + 1 := (by have hl_p : (lP5 h).length = 411 := (lP5_len hk); have hl_q : [UInt8.ofNat (flagN h.s3.1)].length = 1 := (by first | (simp; done) | (simp [*]; done) | (simp; omega)); rw [List.length_append]; omega)
        refine s_append hE rfl rfl hM sl55 (Src.rd Try.underlying55 hq19 (bv_one _)) (len47 (by have hl_x : (lP5 h).length = 411 := (lP5_len hk); have hl_y : [UInt8.ofNat (flagN h.s3.1)].length = 1 := (by first | (simp; done) | (simp [*]; done) | (simp; omega)); first | omega | (simp; done) | (simp; omega))) (by have hl_x : (lP5 h).length = 411 := (lP5_len hk); have hl_y : [UInt8.ofNat (flagN h.s3.1)].length = 1 := (by first | (simp; done) | (simp [*]; done) | (simp; omega)); first | omega | (simp; done) | (simp; omega)) (by intro X h; cases h) rfl ?_; clear hE a; intro a v56 w38 hE hM'; clear hM; have hM := hM'; clear hM'
        replace hM := Mem.ownApp (p := lP5 h) (q := [UInt8.ofNat (flagN h.s3.1)]) hM (by first | rfl | (simp; done))
        replace hM : Mem _ _ w38 [_, _] := hM.pick [0, 2] rfl
        refine s_assign hE rfl rfl ?_; clear hE a; intro a hE
        refine q_nil ?_
        replace hE : Env a 94 [(1, _), (2, _), (3, _), (4, _), (5, _), (6, _), (17, _), (45, _), (67, _)] := hE.sel [1, 2, 3, 4, 5, 6, 17, 45, 67] rfl
        refine hK49 _ _ ?_
        refine wp_seq_k (fun K50 hK50 => ?_)
        refine wp_plain [true, true, true, true, true, true, true, false, false, true] rfl rfl ?_
        refine s_move hE rfl rfl ?_; clear hE a; intro a hE
        refine s_move hE rfl rfl ?_; clear hE a; intro a hE
        refine s_fieldAddr hE rfl fo39_2 rfl ?_; clear hE a; intro a hE
        refine s_indexArr (j := 3) hE rfl rfl arr37 rfl (by decide) rfl ?_; clear hE a; intro a hE
        refine s_fieldAddr hE rfl fo36_1 rfl ?_; clear hE a; intro a hE
        refine s_load1 hE rfl (hM.get 1 rfl) rfl one3 (by intro X h; cases h) rfl ?_; clear hE a; intro a hE
        refine s_conv hE rfl (cnv_int Try.underlying3 Try.underlying24 (wrap_u64_toNat (z := h.s3.2.1) (by omega) (by omega))) rfl ?_; clear hE a; intro a hE
        refine s_call hE rfl Try.call35 (rdigits_c 4 h.s3.2.1.toNat _ (by first | omega | assumption | (simp; done) | (simp; omega) | decide) (by first | omega | assumption | (simp; done) | (simp; omega) | decide)) rfl ?_
        rintro e w39 ⟨v64, rfl, hN⟩
        refine ⟨_, rfl, trivial, ?_⟩; clear hE a; intro a hE
        replace hM : Mem _ _ w39 [_, _, _] := hM.call0 hN ⟨rfl, trivial⟩; clear hN
        replace hM : Mem _ _ w39 [_, _, _] := hM.pick [1, 0, 2] rfl
        obtain ⟨cq20, hq20⟩ := own_rd (hM.get 1 rfl)
        have hLb20 : (((lP5 h) ++ [UInt8.ofNat (flagN h.s3.1)]) ++ (laid 4 h.s3.2.1.toNat)).length = 411 + 1 + 4 := (by have hl_p : ((lP5 h) ++ [UInt8.ofNat (flagN h.s3.1)]).length = 411 + 1 := hLb19; have hl_q : (laid 4 h.s3.2.1.toNat).length = 4 := (laid_length ..); rw [List.length_append]; omega)
        refine s_append hE rfl rfl hM sl55 (Src.rd Try.underlying55 hq20 (bv_one _)) (len47 (by have hl_x : ((lP5 h) ++ [UInt8.ofNat (flagN h.s3.1)]).length = 411 + 1 := hLb19; have hl_y : (laid 4 h.s3.2.1.toNat).length = 4 := (laid_length ..); first | omega | (simp; done) | (simp; omega))) (by have hl_x : ((lP5 h) ++ [UInt8.ofNat (flagN h.s3.1)]).length = 411 + 1 := hLb19; have hl_y : (laid 4 h.s3.2.1.toNat).length = 4 := (laid_length ..); first | omega | (simp; done) | (simp; omega)) (by intro X h; cases h) rfl ?_; clear hE a; intro a v65 w40 hE hM'; clear hM; have hM := hM'; clear hM'
        replace hM := Mem.ownApp (p := (lP5 h) ++ [UInt8.ofNat (flagN h.s3.1)]) (q := laid 4 h.s3.2.1.toNat) hM (by first | rfl | (simp; done))
        refine s_assign hE rfl rfl ?_; clear hE a; intro a hE
        refine q_nil ?_
        replace hE : Env a 94 [(1, _), (2, _), (3, _), (4, _), (5, _), (6, _), (17, _), (45, _), (67, _)] := hE.sel [1, 2, 3, 4, 5, 6, 17, 45, 67] rfl
        refine hK50 _ _ ?_
        refine wp_seq_k (fun K51 hK51 => ?_)
        refine wp_seq_k (fun K52 hK52 => ?_)
        refine wp_plain [true] rfl rfl ?_
        refine s_assign hE rfl rfl ?_; clear hE a; intro a hE
        refine q_nil ?_
        refine hK52 _ _ ?_
        refine wp_block ?_
        replace hM : Mem _ _ w40 [_, _] := hM.pick [0, 2] rfl
        replace hM := Mem.ownB (p := ((lP5 h) ++ [UInt8.ofNat (flagN h.s3.1)]) ++ (laid 4 h.s3.2.1.toNat)) (q := (((lP5 h) ++ [UInt8.ofNat (flagN h.s3.1)]) ++ (laid 4 h.s3.2.1.toNat)) ++ h.s3.2.2.1.take 0) hM (by simp)
        refine c_loop (fun (kk : Nat) a w' => kk ≤ 16 ∧ ∃ vl3, Env a 94 [(1, .pointer (some ⟨b1, 0, none⟩)), (2, .slice none 0 0), (3, vl3), (4, .int .i64 2), (5, .int .i64 3), (6, .int .i64 ((kk : Nat) : Int)), (17, .bool false), (45, .bool true)] ∧ Mem w [] w' [own vl3 1 ((((lP5 h) ++ [UInt8.ofNat (flagN h.s3.1)]) ++ (laid 4 h.s3.2.1.toNat)) ++ h.s3.2.2.1.take kk).length (bv ((((lP5 h) ++ [UInt8.ofNat (flagN h.s3.1)]) ++ (laid 4 h.s3.2.1.toNat)) ++ h.s3.2.2.1.take kk)), blk b1 [[.int .i64 h.m], [.int .i64 h.r], [.bool h.v0.1], [.int .u64 ((h.v0.2.1 : Nat) : Int)], bv h.v0.2.2.1, bv h.v0.2.2.2, [.bool h.v1.1], [.int .u64 ((h.v1.2.1 : Nat) : Int)], bv h.v1.2.2.1, bv h.v1.2.2.2, [.bool h.s0.1], [.int .i64 h.s0.2.1], bv h.s0.2.2.1, bv h.s0.2.2.2.1, bv h.s0.2.2.2.2, [.bool h.s1.1], [.int .i64 h.s1.2.1], bv h.s1.2.2.1, bv h.s1.2.2.2.1, bv h.s1.2.2.2.2, [.bool h.s2.1], [.int .i64 h.s2.2.1], bv h.s2.2.2.1, bv h.s2.2.2.2.1, bv h.s2.2.2.2.2, [.bool h.s3.1], [.int .i64 h.s3.2.1], bv h.s3.2.2.1, bv h.s3.2.2.2.1, bv h.s3.2.2.2.2] [1, 1, 1, 1, 32, 32, 1, 1, 32, 32, 1, 1, 16, 32, 32, 1, 1, 16, 32, 32, 1, 1, 16, 32, 32, 1, 1, 16, 32, 32] 39]) (fun kk => 16 - kk) 0 ⟨Nat.zero_le _, _, hE.sel [1, 2, 3, 4, 5, 6, 17, 45] rfl, hM⟩ ?_
        clear hE hM a; rintro kk a w41 ⟨hkk, vl3, hE, hM⟩
        refine wp_seq_k (fun K53 hK53 => ?_)
        refine wp_seq_k (fun K54 hK54 => ?_)
        refine wp_plain [true, true] rfl rfl ?_
        refine s_move hE rfl rfl ?_; clear hE a; intro a hE
        refine s_bin hE rfl rfl bin_lss rfl ?_; clear hE a; intro a hE
        refine q_nil ?_
        replace hE : Env a 94 [(1, _), (2, _), (3, _), (4, _), (5, _), (6, _), (17, _), (45, _), (67, _)] := hE.sel [1, 2, 3, 4, 5, 6, 17, 45, 67] rfl
        refine hK54 _ _ ?_
        refine hE.split 67 rfl (fun hb67''' hE' => ?_) (fun hb67''' hE' => ?_)
        · replace hE := hE'; clear hE'
          replace hb67''' := of_decide_eq_true hb67'''
          replace hb67''' : kk < 16 := by omega
          replace hb67''' : kk < 16 := by omega
          refine wp_cond_true (hE.eval rfl) ?_
          refine wp_skip ?_
          refine hK53 _ _ ?_
          refine wp_seq_k (fun K55 hK55 => ?_)
          refine wp_block ?_
          refine wp_plain [true, true, true, true, true, true, true, true, false, false, true] rfl rfl ?_
          refine s_move hE rfl rfl ?_; clear hE a; intro a hE
          refine s_move hE rfl rfl ?_; clear hE a; intro a hE
          refine s_move hE rfl rfl ?_; clear hE a; intro a hE
          refine s_fieldAddr hE rfl fo39_2 rfl ?_; clear hE a; intro a hE
          refine s_indexArr (j := 3) hE rfl rfl arr37 rfl (by decide) rfl ?_; clear hE a; intro a hE
          refine s_fieldAddr hE rfl fo36_2 rfl ?_; clear hE a; intro a hE
          refine s_indexArr (j := kk) hE rfl rfl arr34 (by first | rfl | omega) (by first | omega | decide) rfl ?_; clear hE a; intro a hE
          refine s_loadPart8 (j := kk) (g := h.s3.2.2.1) 27 hE rfl (by first | rfl | omega | (simp; done) | (simp; omega)) (hM.get 1 rfl) rfl (by have hl_ : h.s3.2.2.1.length = 16 := hk.s3.2.1; first | omega | (rw [bv_length]; omega) | (simp; omega)) one5 (by intro X h; cases h) rfl ?_; clear hE a; intro a hE
          refine s_buildSlice (xs := [.tmp 77]) (bv [h.s3.2.2.1.getD kk 0]) hE hM sl55 rfl rfl rfl (by intro v hv; first | (cases hv; done) | (obtain ⟨x, _, rfl⟩ := List.mem_map.1 (show v ∈ bv [h.s3.2.2.1.getD kk 0] from hv); rfl)) rfl rfl rfl rfl ?_; clear hE a; intro a v78 w42 hE hM'
          clear hM; have hM := hM'; clear hM'
          replace hM := hM.ownEq (m' := [h.s3.2.2.1.getD kk 0].length) (cs' := bv [h.s3.2.2.1.getD kk 0]) rfl rfl
          replace hM : Mem _ _ w42 [_, _, _] := hM.pick [1, 0, 2] rfl
          obtain ⟨cq21, hq21⟩ := own_rd (hM.get 1 rfl)
          have hLb21 : (((((lP5 h) ++ [UInt8.ofNat (flagN h.s3.1)]) ++ (laid 4 h.s3.2.1.toNat)) ++ h.s3.2.2.1.take kk) ++ [h.s3.2.2.1.getD kk 0]).length = 411 + 1 + 4 + kk + 1 := (by have hl_p : ((((lP5 h) ++ [UInt8.ofNat (flagN h.s3.1)]) ++ (laid 4 h.s3.2.1.toNat)) ++ h.s3.2.2.1.take kk).length = 411 + 1 + 4 + kk := (by have hl_x : (((lP5 h) ++ [UInt8.ofNat (flagN h.s3.1)]) ++ (laid 4 h.s3.2.1.toNat)).length = 411 + 1 + 4 := hLb20; have hs_ := hk.s3.2.1; simp only [List.length_append, List.length_take, hs_, hl_x]; omega); have hl_q : [h.s3.2.2.1.getD kk 0].length = 1 := (by first | (simp; done) | (simp [*]; done) | (simp; omega)); rw [List.length_append]; omega)
          refine s_append hE rfl rfl hM sl55 (Src.rd Try.underlying55 hq21 (bv_one _)) (len47 (by have hl_x : ((((lP5 h) ++ [UInt8.ofNat (flagN h.s3.1)]) ++ (laid 4 h.s3.2.1.toNat)) ++ h.s3.2.2.1.take kk).length = 411 + 1 + 4 + kk := (by have hl_x : (((lP5 h) ++ [UInt8.ofNat (flagN h.s3.1)]) ++ (laid 4 h.s3.2.1.toNat)).length = 411 + 1 + 4 := hLb20; have hs_ := hk.s3.2.1; simp only [List.length_append, List.length_take, hs_, hl_x]; omega); have hl_y : [h.s3.2.2.1.getD kk 0].length = 1 := (by first | (simp; done) | (simp [*]; done) | (simp; omega)); first | omega | (simp; done) | (simp; omega))) (by have hl_x : ((((lP5 h) ++ [UInt8.ofNat (flagN h.s3.1)]) ++ (laid 4 h.s3.2.1.toNat)) ++ h.s3.2.2.1.take kk).length = 411 + 1 + 4 + kk := (by have hl_x : (((lP5 h) ++ [UInt8.ofNat (flagN h.s3.1)]) ++ (laid 4 h.s3.2.1.toNat)).length = 411 + 1 + 4 := hLb20; have hs_ := hk.s3.2.1; simp only [List.length_append, List.length_take, hs_, hl_x]; omega); have hl_y : [h.s3.2.2.1.getD kk 0].length = 1 := (by first | (simp; done) | (simp [*]; done) | (simp; omega)); first | omega | (simp; done) | (simp; omega)) (by intro X h; cases h) rfl ?_; clear hE a; intro a v79 w43 hE hM'; clear hM; have hM := hM'; clear hM'
          replace hM := Mem.ownApp (p := (((lP5 h) ++ [UInt8.ofNat (flagN h.s3.1)]) ++ (laid 4 h.s3.2.1.toNat)) ++ h.s3.2.2.1.take kk) (q := [h.s3.2.2.1.getD kk 0]) hM (by first | rfl | (simp; done))
          replace hM : Mem _ _ w43 [_, _] := hM.pick [0, 2] rfl
          refine s_assign hE rfl rfl ?_; clear hE a; intro a hE
          refine q_nil ?_
          replace hE : Env a 94 [(1, _), (2, _), (3, _), (4, _), (5, _), (6, _), (17, _), (45, _), (67, _)] := hE.sel [1, 2, 3, 4, 5, 6, 17, 45, 67] rfl
          refine q_block_n ?_
          refine hK55 _ _ ?_
          refine wp_plain [true, true, true] rfl rfl ?_
          refine s_move hE rfl rfl ?_; clear hE a; intro a hE
          refine s_bin hE rfl rfl (show Bin _ _ _ _ _ (.int .i64 ((kk + 1 : Nat) : Int)) from bin_add (by rw [wrap_i64 (by omega) (by omega)]; omega)) rfl ?_; clear hE a; intro a hE
          refine s_assign hE rfl rfl ?_; clear hE a; intro a hE
          refine q_nil ?_
          replace hE : Env a 94 [(1, _), (2, _), (3, _), (4, _), (5, _), (6, _), (17, _), (45, _), (67, _)] := hE.sel [1, 2, 3, 4, 5, 6, 17, 45, 67] rfl
          replace hE := hE.cast 6 rfl (show _ = Value.int .i64 (((kk + 1) : Nat) : Int) from (congrArg _ (by omega)))
          replace hM := Mem.ownB (p := ((((lP5 h) ++ [UInt8.ofNat (flagN h.s3.1)]) ++ (laid 4 h.s3.2.1.toNat)) ++ h.s3.2.2.1.take kk) ++ [h.s3.2.2.1.getD kk 0]) (q := (((lP5 h) ++ [UInt8.ofNat (flagN h.s3.1)]) ++ (laid 4 h.s3.2.1.toNat)) ++ h.s3.2.2.1.take (kk + 1)) hM (by rw [List.append_assoc, ← take_snoc (by have := hk.s3.2.1; omega)])
          replace hM : Mem _ _ w43 [_, _] := hM.pick [0, 1] rfl
          exact ⟨kk + 1, ⟨by omega, _, hE.sel [1, 2, 3, 4, 5, 6, 17, 45] rfl, hM⟩, by omega⟩
        · replace hE := hE'; clear hE'
          replace hb67''' := of_decide_eq_false hb67'''
          replace hb67''' : ¬ (kk < 16) := by omega
          obtain rfl : 16 = kk := by omega
          replace hM := Mem.ownB (p := (((lP5 h) ++ [UInt8.ofNat (flagN h.s3.1)]) ++ (laid 4 h.s3.2.1.toNat)) ++ h.s3.2.2.1.take 16) (q := (((lP5 h) ++ [UInt8.ofNat (flagN h.s3.1)]) ++ (laid 4 h.s3.2.1.toNat)) ++ h.s3.2.2.1) hM (by rw [take_all hk.s3.2.1])
          refine wp_cond_false (hE.eval rfl) ?_
          refine wp_exit ?_
          refine q_then_e ?_
          refine q_then_e ?_
          refine q_block_x ?_
          refine hK51 _ _ ?_
          refine wp_plain [true, true, true, true, true, true, false, true] rfl rfl ?_
          refine s_move hE rfl rfl ?_; clear hE a; intro a hE
          refine s_move hE rfl rfl ?_; clear hE a; intro a hE
          refine s_fieldAddr hE rfl fo39_2 rfl ?_; clear hE a; intro a hE
          refine s_indexArr (j := 3) hE rfl rfl arr37 rfl (by decide) rfl ?_; clear hE a; intro a hE
          refine s_fieldAddr hE rfl fo36_3 rfl ?_; clear hE a; intro a hE
          refine s_loadN hE rfl (hM.get 1 rfl) row29 rfl (by intro X h; cases h) rfl ?_; clear hE a; intro a hE
          replace hE := hE.cast 85 rfl (show _ = Value.agg ([bv h.s3.2.2.2.1, bv h.s3.2.2.2.2] : List (List Value)).flatten.toArray from (by first | rfl | simp only [List.flatten_cons, List.flatten_nil, List.append_nil, List.append_assoc]))
          obtain ⟨cq22, hq22⟩ := own_rd (hM.get 0 rfl)
          have hLb22 : ((((((lP5 h) ++ [UInt8.ofNat (flagN h.s3.1)]) ++ (laid 4 h.s3.2.1.toNat)) ++ h.s3.2.2.1) ++ h.s3.2.2.2.1) ++ h.s3.2.2.2.2).length = 411 + 1 + 4 + 16 + 64 := (by have hl_q : ((((lP5 h) ++ [UInt8.ofNat (flagN h.s3.1)]) ++ (laid 4 h.s3.2.1.toNat)) ++ h.s3.2.2.1).length = 411 + 1 + 4 + 16 := (by have hl_x : (((lP5 h) ++ [UInt8.ofNat (flagN h.s3.1)]) ++ (laid 4 h.s3.2.1.toNat)).length = 411 + 1 + 4 := hLb20; have hs_ := hk.s3.2.1; simp only [List.length_append, hs_, hl_x]); have hl_stx : h.s3.2.2.2.1.length = 32 := hk.s3.2.2.1; have hl_sty : h.s3.2.2.2.2.length = 32 := hk.s3.2.2.2; rw [List.length_append, List.length_append]; omega)
          refine s_call hE rfl Try.call36 (rboxput_c _ ((((lP5 h) ++ [UInt8.ofNat (flagN h.s3.1)]) ++ (laid 4 h.s3.2.1.toNat)) ++ h.s3.2.2.1) _ h.s3.2.2.2.1 h.s3.2.2.2.2 _ hq22 hk.s3.2.2.1 hk.s3.2.2.2 (by have hl_0 : ((((lP5 h) ++ [UInt8.ofNat (flagN h.s3.1)]) ++ (laid 4 h.s3.2.1.toNat)) ++ h.s3.2.2.1).length = 411 + 1 + 4 + 16 := (by have hl_x : (((lP5 h) ++ [UInt8.ofNat (flagN h.s3.1)]) ++ (laid 4 h.s3.2.1.toNat)).length = 411 + 1 + 4 := hLb20; have hs_ := hk.s3.2.1; simp only [List.length_append, hs_, hl_x]); have hl_1x : h.s3.2.2.2.1.length = 32 := hk.s3.2.2.1; have hl_1y : h.s3.2.2.2.2.length = 32 := hk.s3.2.2.2; first | omega | assumption | (simp; done) | (simp; omega) | decide)) rfl ?_
          rintro e w42 ⟨v86, rfl, hN⟩
          refine ⟨_, rfl, trivial, ?_⟩; clear hE a; intro a hE
          replace hM : Mem _ _ w42 [_, _, _] := hM.call0 hN ⟨rfl, trivial⟩; clear hN
          refine s_assign hE rfl rfl ?_; clear hE a; intro a hE
          refine q_nil ?_
          replace hE : Env a 94 [(1, _), (2, _), (3, _), (4, _), (5, _), (6, _), (17, _), (45, _), (67, _)] := hE.sel [1, 2, 3, 4, 5, 6, 17, 45, 67] rfl
          refine q_block_n ?_
          refine hK48 _ _ ?_
          refine wp_plain [true, true, true] rfl rfl ?_
          refine s_move hE rfl rfl ?_; clear hE a; intro a hE
          refine s_bin hE rfl rfl (show Bin _ _ _ _ _ (.int .i64 4) from bin_add (by rw [wrap_i64 (by omega) (by omega)]; omega)) rfl ?_; clear hE a; intro a hE
          refine s_assign hE rfl rfl ?_; clear hE a; intro a hE
          refine q_nil ?_
          replace hE : Env a 94 [(1, _), (2, _), (3, _), (4, _), (5, _), (6, _), (17, _), (45, _), (67, _)] := hE.sel [1, 2, 3, 4, 5, 6, 17, 45, 67] rfl
          replace hM : Mem _ _ w42 [_, _] := hM.pick [0, 2] rfl
          replace hM := Mem.ownB (p := (((((lP5 h) ++ [UInt8.ofNat (flagN h.s3.1)]) ++ (laid 4 h.s3.2.1.toNat)) ++ h.s3.2.2.1) ++ h.s3.2.2.2.1) ++ h.s3.2.2.2.2) (q := lP6 h) hM (by simp [lP6, layV, layS, magicH, laid1])
          replace hM : Mem _ _ w42 [_, _] := hM.pick [0, 1] rfl
          refine q_then_n (c_rounds ?_)
          refine wp_seq_k (fun K55 hK55 => ?_)
          refine wp_seq_k (fun K56 hK56 => ?_)
          refine wp_plain [true, true] rfl rfl ?_
          refine s_move hE rfl rfl ?_; clear hE a; intro a hE
          refine s_bin hE rfl rfl bin_lss rfl ?_; clear hE a; intro a hE
          replace hE := hE.cast 45 rfl (show _ = Value.bool false from (congrArg Value.bool (by decide)))
          refine q_nil ?_
          replace hE : Env a 94 [(1, _), (2, _), (3, _), (4, _), (5, _), (6, _), (17, _), (45, _), (67, _)] := hE.sel [1, 2, 3, 4, 5, 6, 17, 45, 67] rfl
          refine hK56 _ _ ?_
          refine wp_cond_false (hE.eval rfl) ?_
          refine wp_exit ?_
          refine q_then_e ?_
          refine q_then_e ?_
          refine q_block_x ?_
          refine hK17 _ _ ?_
          refine wp_seq_k (fun K57 hK57 => ?_)
          refine wp_block ?_
          replace hM := Mem.ownB (p := lP6 h) (q := lP6 h ++ List.replicate 0 0) hM (by simp)
          refine c_loop (fun (i : Nat) a w' => i ≤ 16 ∧ ∃ vl3, Env a 94 [(1, .pointer (some ⟨b1, 0, none⟩)), (2, .slice none 0 0), (3, vl3), (4, .int .i64 2), (5, .int .i64 4), (6, .int .i64 16), (17, .bool false), (45, .bool false), (67, .bool false)] ∧ Mem w [] w' [own vl3 1 (lP6 h ++ List.replicate i 0).length (bv (lP6 h ++ List.replicate i 0)), blk b1 [[.int .i64 h.m], [.int .i64 h.r], [.bool h.v0.1], [.int .u64 ((h.v0.2.1 : Nat) : Int)], bv h.v0.2.2.1, bv h.v0.2.2.2, [.bool h.v1.1], [.int .u64 ((h.v1.2.1 : Nat) : Int)], bv h.v1.2.2.1, bv h.v1.2.2.2, [.bool h.s0.1], [.int .i64 h.s0.2.1], bv h.s0.2.2.1, bv h.s0.2.2.2.1, bv h.s0.2.2.2.2, [.bool h.s1.1], [.int .i64 h.s1.2.1], bv h.s1.2.2.1, bv h.s1.2.2.2.1, bv h.s1.2.2.2.2, [.bool h.s2.1], [.int .i64 h.s2.2.1], bv h.s2.2.2.1, bv h.s2.2.2.2.1, bv h.s2.2.2.2.2, [.bool h.s3.1], [.int .i64 h.s3.2.1], bv h.s3.2.2.1, bv h.s3.2.2.2.1, bv h.s3.2.2.2.2] [1, 1, 1, 1, 32, 32, 1, 1, 32, 32, 1, 1, 16, 32, 32, 1, 1, 16, 32, 32, 1, 1, 16, 32, 32, 1, 1, 16, 32, 32] 39]) (fun i => 16 - i) 0 ⟨Nat.zero_le _, _, hE.sel [1, 2, 3, 4, 5, 6, 17, 45, 67] rfl, hM⟩ ?_
          clear hE hM a; rintro i a w43 ⟨hi, vl3, hE, hM⟩
          refine wp_seq_k (fun K58 hK58 => ?_)
          refine wp_seq_k (fun K59 hK59 => ?_)
          refine wp_plain [true, true, true] rfl rfl ?_
          refine s_move hE rfl rfl ?_; clear hE a; intro a hE
          refine s_len hE rfl Try.underlying55 (own_slice (hM.get 0 rfl)) rfl ?_; clear hE a; intro a hE
          replace hE := hE.cast 88 rfl (show _ = Value.int .i64 ((496 + i : Nat) : Int) from (congrArg (fun n : Nat => Value.int .i64 (n : Int)) (by simp only [List.length_append, List.length_replicate, lP6_len hk])))
          refine s_bin hE rfl rfl bin_lss rfl ?_; clear hE a; intro a hE
          refine q_nil ?_
          replace hE : Env a 94 [(1, _), (2, _), (3, _), (4, _), (5, _), (6, _), (17, _), (45, _), (67, _), (89, _)] := hE.sel [1, 2, 3, 4, 5, 6, 17, 45, 67, 89] rfl
          refine hK59 _ _ ?_
          refine hE.split 89 rfl (fun hb89 hE' => ?_) (fun hb89 hE' => ?_)
          · replace hE := hE'; clear hE'
            replace hb89 := of_decide_eq_true hb89
            replace hb89 : (496 + i) < 512 := by omega
            replace hb89 : i < 16 := by omega
            refine wp_cond_true (hE.eval rfl) ?_
            refine wp_skip ?_
            refine hK58 _ _ ?_
            refine wp_block ?_
            refine wp_plain [true, false, false, true] rfl rfl ?_
            refine s_move hE rfl rfl ?_; clear hE a; intro a hE
            refine s_buildSlice (xs := [.const (.int .u8 0)]) (bv [0]) hE hM sl55 rfl rfl rfl (by intro v hv; first | (cases hv; done) | (obtain ⟨x, _, rfl⟩ := List.mem_map.1 (show v ∈ bv [0] from hv); rfl)) rfl rfl rfl rfl ?_; clear hE a; intro a v91 w44 hE hM'
            clear hM; have hM := hM'; clear hM'
            replace hM := hM.ownEq (m' := [0].length) (cs' := bv [0]) rfl rfl
            replace hM : Mem _ _ w44 [_, _, _] := hM.pick [1, 0, 2] rfl
            obtain ⟨cq23, hq23⟩ := own_rd (hM.get 1 rfl)
            have hLb23 : ((lP6 h ++ List.replicate i 0) ++ [0]).length = 496 + i + 1 := (by have hl_p : (lP6 h ++ List.replicate i 0).length = 496 + i := (by simp only [List.length_append, List.length_replicate, lP6_len hk]); have hl_q : [0].length = 1 := (by first | (simp; done) | (simp [*]; done) | (simp; omega)); rw [List.length_append]; omega)
            refine s_append hE rfl rfl hM sl55 (Src.rd Try.underlying55 hq23 (bv_one _)) (len47 (by have hl_x : (lP6 h ++ List.replicate i 0).length = 496 + i := (by simp only [List.length_append, List.length_replicate, lP6_len hk]); have hl_y : [0].length = 1 := (by first | (simp; done) | (simp [*]; done) | (simp; omega)); first | omega | (simp; done) | (simp; omega))) (by have hl_x : (lP6 h ++ List.replicate i 0).length = 496 + i := (by simp only [List.length_append, List.length_replicate, lP6_len hk]); have hl_y : [0].length = 1 := (by first | (simp; done) | (simp [*]; done) | (simp; omega)); first | omega | (simp; done) | (simp; omega)) (by intro X h; cases h) rfl ?_; clear hE a; intro a v92 w45 hE hM'; clear hM; have hM := hM'; clear hM'
            replace hM := Mem.ownApp (p := lP6 h ++ List.replicate i 0) (q := [0]) hM (by first | rfl | (simp; done))
            replace hM : Mem _ _ w45 [_, _] := hM.pick [0, 2] rfl
            refine s_assign hE rfl rfl ?_; clear hE a; intro a hE
            refine q_nil ?_
            replace hE : Env a 94 [(1, _), (2, _), (3, _), (4, _), (5, _), (6, _), (17, _), (45, _), (67, _), (89, _)] := hE.sel [1, 2, 3, 4, 5, 6, 17, 45, 67, 89] rfl
            refine q_block_n ?_
            replace hM := Mem.ownB (p := (lP6 h ++ List.replicate i 0) ++ [0]) (q := lP6 h ++ List.replicate (i + 1) 0) hM (by rw [List.append_assoc, ← List.replicate_succ'])
            replace hM : Mem _ _ w45 [_, _] := hM.pick [0, 1] rfl
            exact ⟨i + 1, ⟨by omega, _, hE.sel [1, 2, 3, 4, 5, 6, 17, 45, 67] rfl, hM⟩, by omega⟩
          · replace hE := hE'; clear hE'
            replace hb89 := of_decide_eq_false hb89
            replace hb89 : ¬ ((496 + i) < 512) := by omega
            obtain rfl : 16 = i := by omega
            replace hM := Mem.ownB (p := lP6 h ++ List.replicate 16 0) (q := padH (layH h)) hM (by rw [lP6_eq]; rfl)
            refine wp_cond_false (hE.eval rfl) ?_
            refine wp_exit ?_
            refine q_then_e ?_
            refine q_then_e ?_
            refine q_block_x ?_
            refine hK57 _ _ ?_
            refine wp_seq_k (fun K60 hK60 => ?_)
            refine wp_plain [true, true] rfl rfl ?_
            refine s_move hE rfl rfl ?_; clear hE a; intro a hE
            refine s_assign hE rfl rfl ?_; clear hE a; intro a hE
            refine q_nil ?_
            replace hE : Env a 94 [(1, _), (2, _), (3, _), (4, _), (5, _), (6, _), (17, _), (45, _), (67, _), (89, _)] := hE.sel [1, 2, 3, 4, 5, 6, 17, 45, 67, 89] rfl
            refine hK60 _ _ ?_
            refine wp_ret ?_
            refine f_ret1 hE rfl rfl ?_
            exact ⟨_, (by first | rfl | (simp; done)), hM.pick [0] rfl⟩
theorem rcut_c (v : Value) (bs : List UInt8) (c : Nat) (w : World) (hr_bs : (rd v 1 bs.length c (bv bs)).holds w) (hl : bs.length = 512) : Calls Try.prog 21 #[v] w fun e w' => ∃ v'0, e = .returned (v'0) ∧ Mem w [] w' [own v'0 64 ((cut8 bs).length) ((cut8 bs).flatMap bv)] := by
  have hM : Mem w [] w [rd v 1 bs.length c (bv bs)] := Mem.startR w (fun g hg => by
    simp only [List.mem_cons, List.not_mem_nil, or_false] at hg
    rcases hg with rfl
    · exact ⟨hr_bs, rfl⟩)
  refine f_enter 39 Try.func21 rfl rfl rfl ?_
  intro a hE
  replace hE : Env a 39 [(0, _)] := hE
  refine wp_seq_k (fun K1 hK1 => ?_)
  refine wp_plain [true] rfl rfl ?_
  refine s_assign hE rfl rfl ?_; clear hE a; intro a hE
  refine q_nil ?_
  refine hK1 _ _ ?_
  refine wp_seq_k (fun K2 hK2 => ?_)
  refine wp_plain [true] rfl rfl ?_
  refine s_assign hE rfl rfl ?_; clear hE a; intro a hE
  refine q_nil ?_
  refine hK2 _ _ ?_
  refine wp_seq_k (fun K3 hK3 => ?_)
  refine wp_seq_k (fun K4 hK4 => ?_)
  refine wp_plain [true] rfl rfl ?_
  refine s_assign hE rfl rfl ?_; clear hE a; intro a hE
  refine q_nil ?_
  refine hK4 _ _ ?_
  refine wp_block ?_
  replace hM := hM.addNil 64
  replace hM := hM.ownEq (m' := ([] : List (List UInt8)).length) (cs' := ([] : List (List UInt8)).flatMap bv) rfl rfl
  replace hM := Mem.ownRowsEq (f := bv) (ls := ([] : List (List UInt8))) (ms := (cut8 bs).take 0) hM (by simp)
  refine c_loop (fun (i : Nat) a w' => i ≤ 8 ∧ ∃ vl3, Env a 39 [(0, v), (2, .slice none 0 0), (3, vl3), (4, .int .i64 ((i : Nat) : Int))] ∧ Mem w [] w' [own vl3 64 (((cut8 bs).take i).length) (((cut8 bs).take i).flatMap bv), rd v 1 bs.length c (bv bs)]) (fun i => 8 - i) 0 ⟨Nat.zero_le _, _, hE.sel [0, 2, 3, 4] rfl, hM⟩ ?_
  clear hE hM a; rintro i a w1 ⟨hi, vl3, hE, hM⟩
  refine wp_seq_k (fun K5 hK5 => ?_)
  refine wp_seq_k (fun K6 hK6 => ?_)
  refine wp_plain [true, true, true, true, true] rfl rfl ?_
  refine s_move hE rfl rfl ?_; clear hE a; intro a hE
  refine s_bin hE rfl rfl (show Bin _ _ _ _ _ (.int .i64 ((64 * i : Nat) : Int)) from bin_mul (by rw [wrap_i64 (by omega) (by omega)]; omega)) rfl ?_; clear hE a; intro a hE
  refine s_move hE rfl rfl ?_; clear hE a; intro a hE
  refine s_len hE rfl Try.underlying55 (rd_slice (hM.get 1 rfl)) rfl ?_; clear hE a; intro a hE
  refine s_bin hE rfl rfl bin_lss rfl ?_; clear hE a; intro a hE
  refine q_nil ?_
  replace hE : Env a 39 [(0, _), (2, _), (3, _), (4, _), (11, _)] := hE.sel [0, 2, 3, 4, 11] rfl
  refine hK6 _ _ ?_
  refine hE.split 11 rfl (fun hb11 hE' => ?_) (fun hb11 hE' => ?_)
  · replace hE := hE'; clear hE'
    replace hb11 := of_decide_eq_true hb11
    replace hb11 : (64 * i) < bs.length := by omega
    replace hb11 : i < 8 := by omega
    refine wp_cond_true (hE.eval rfl) ?_
    refine wp_skip ?_
    refine hK5 _ _ ?_
    refine wp_seq_k (fun K7 hK7 => ?_)
    refine wp_block ?_
    refine wp_seq_k (fun K8 hK8 => ?_)
    refine wp_plain [false] rfl rfl ?_
    refine s_alloc [64] hE hM zero59 rfl rfl ?_; clear hE a; intro a b5 w2 hE hM'
    clear hM; have hM := hM'; clear hM'
    refine q_nil ?_
    refine hK8 _ _ ?_
    refine wp_seq_k (fun K9 hK9 => ?_)
    refine wp_seq_k (fun K10 hK10 => ?_)
    refine wp_plain [true] rfl rfl ?_
    refine s_assign hE rfl rfl ?_; clear hE a; intro a hE
    refine q_nil ?_
    refine hK10 _ _ ?_
    refine wp_block ?_
    replace hM := Mem.blkB (p := List.replicate 64 (0 : UInt8)) (q := (seg bs (64 * i) 64).take 0 ++ List.replicate (64 - 0) 0) hM (by simp)
    refine c_loop (fun (k : Nat) a w' => k ≤ 64 ∧ Env a 39 [(0, v), (2, .slice none 0 0), (3, vl3), (4, .int .i64 ((i : Nat) : Int)), (5, .pointer (some ⟨b5, 0, none⟩)), (6, .int .i64 ((k : Nat) : Int)), (11, .bool true)] ∧ Mem w [] w' [blk b5 [bv ((seg bs (64 * i) 64).take k ++ List.replicate (64 - k) 0)] [64] 59, own vl3 64 (((cut8 bs).take i).length) (((cut8 bs).take i).flatMap bv), rd v 1 bs.length c (bv bs)]) (fun k => 64 - k) 0 ⟨Nat.zero_le _, hE.sel [0, 2, 3, 4, 5, 6, 11] rfl, hM⟩ ?_
    clear hE hM a; rintro k a w3 ⟨hk, hE, hM⟩
    refine wp_seq_k (fun K11 hK11 => ?_)
    refine wp_seq_k (fun K12 hK12 => ?_)
    refine wp_plain [true, true] rfl rfl ?_
    refine s_move hE rfl rfl ?_; clear hE a; intro a hE
    refine s_bin hE rfl rfl bin_lss rfl ?_; clear hE a; intro a hE
    refine q_nil ?_
    replace hE : Env a 39 [(0, _), (2, _), (3, _), (4, _), (5, _), (6, _), (11, _), (15, _)] := hE.sel [0, 2, 3, 4, 5, 6, 11, 15] rfl
    refine hK12 _ _ ?_
    refine hE.split 15 rfl (fun hb15 hE' => ?_) (fun hb15 hE' => ?_)
    · replace hE := hE'; clear hE'
      replace hb15 := of_decide_eq_true hb15
      replace hb15 : k < 64 := by omega
      replace hb15 : k < 64 := by omega
      refine wp_cond_true (hE.eval rfl) ?_
      refine wp_skip ?_
      refine hK11 _ _ ?_
      refine wp_seq_k (fun K13 hK13 => ?_)
      refine wp_block ?_
      refine wp_seq_k (fun K14 hK14 => ?_)
      refine wp_plain [true, true, true, true, true, true, true] rfl rfl ?_
      refine s_move hE rfl rfl ?_; clear hE a; intro a hE
      refine s_bin hE rfl rfl (show Bin _ _ _ _ _ (.int .i64 ((64 * i : Nat) : Int)) from bin_mul (by rw [wrap_i64 (by omega) (by omega)]; omega)) rfl ?_; clear hE a; intro a hE
      refine s_move hE rfl rfl ?_; clear hE a; intro a hE
      refine s_bin hE rfl rfl (show Bin _ _ _ _ _ (.int .i64 (((64 * i) + k : Nat) : Int)) from bin_add (by rw [wrap_i64 (by omega) (by omega)]; omega)) rfl ?_; clear hE a; intro a hE
      refine s_move hE rfl rfl ?_; clear hE a; intro a hE
      refine s_len hE rfl Try.underlying55 (rd_slice (hM.get 2 rfl)) rfl ?_; clear hE a; intro a hE
      refine s_bin hE rfl rfl bin_lss rfl ?_; clear hE a; intro a hE
      refine q_nil ?_
      replace hE : Env a 39 [(0, _), (2, _), (3, _), (4, _), (5, _), (6, _), (11, _), (15, _), (24, _)] := hE.sel [0, 2, 3, 4, 5, 6, 11, 15, 24] rfl
      refine hK14 _ _ ?_
      replace hE := hE.cast 24 rfl (show _ = Value.bool true from (congrArg Value.bool (decide_eq_true (by omega))))
      refine wp_cond_true (hE.eval rfl) ?_
      refine wp_plain [true, true, true, true, true, true, true, true, true, false] rfl rfl ?_
      refine s_move hE rfl rfl ?_; clear hE a; intro a hE
      refine s_move hE rfl rfl ?_; clear hE a; intro a hE
      refine s_move hE rfl rfl ?_; clear hE a; intro a hE
      refine s_bin hE rfl rfl (show Bin _ _ _ _ _ (.int .i64 ((64 * i : Nat) : Int)) from bin_mul (by rw [wrap_i64 (by omega) (by omega)]; omega)) rfl ?_; clear hE a; intro a hE
      refine s_move hE rfl rfl ?_; clear hE a; intro a hE
      refine s_bin hE rfl rfl (show Bin _ _ _ _ _ (.int .i64 (((64 * i) + k : Nat) : Int)) from bin_add (by rw [wrap_i64 (by omega) (by omega)]; omega)) rfl ?_; clear hE a; intro a hE
      refine s_indexRd (j := (64 * i) + k) hE rfl (hM.get 2 rfl) rfl slt55 (by first | rfl | omega) (by first | omega | (rw [bv_length]; omega) | (simp; omega)) rfl ?_; clear hE a; intro a p31 hE hc31 hp31
      rw [bv_elem (by first | omega | (rw [bv_length]; omega) | (simp; omega))] at hc31
      refine s_loadAt1 hE rfl hc31 one5 (by intro X h; cases h) rfl ?_; clear hE a; intro a hE
      refine s_indexArr (j := k) hE rfl rfl arr59 (by first | rfl | omega) (by first | omega | decide) rfl ?_; clear hE a; intro a hE
      refine s_storeIdx (j := k) hE rfl (by omega) rfl hM rfl rfl sz5 (by have hl_ : ((seg bs (64 * i) 64).take k ++ List.replicate (64 - k) 0).length = 64 := (cpy_len (seg_len (by omega)) (by omega)); first | omega | (rw [bv_length]; omega) | (simp; omega)) (by intro X h; cases h) ?_; intro w4 hM'; clear hM; have hM := hM'; clear hM'
      first | rw [bv_set'] at hM | rw [bv_setI] at hM
      refine q_nil ?_
      replace hE : Env a 39 [(0, _), (2, _), (3, _), (4, _), (5, _), (6, _), (11, _), (15, _), (24, _)] := hE.sel [0, 2, 3, 4, 5, 6, 11, 15, 24] rfl
      refine q_block_n ?_
      refine hK13 _ _ ?_
      refine wp_plain [true, true, true] rfl rfl ?_
      refine s_move hE rfl rfl ?_; clear hE a; intro a hE
      refine s_bin hE rfl rfl (show Bin _ _ _ _ _ (.int .i64 ((k + 1 : Nat) : Int)) from bin_add (by rw [wrap_i64 (by omega) (by omega)]; omega)) rfl ?_; clear hE a; intro a hE
      refine s_assign hE rfl rfl ?_; clear hE a; intro a hE
      refine q_nil ?_
      replace hE : Env a 39 [(0, _), (2, _), (3, _), (4, _), (5, _), (6, _), (11, _), (15, _), (24, _)] := hE.sel [0, 2, 3, 4, 5, 6, 11, 15, 24] rfl
      replace hE := hE.cast 6 rfl (show _ = Value.int .i64 (((k + 1) : Nat) : Int) from (congrArg _ (by omega)))
      replace hM := Mem.blkB (p := ((seg bs (64 * i) 64).take k ++ List.replicate (64 - k) 0).set k (bs.getD ((64 * i) + k) 0)) (q := (seg bs (64 * i) 64).take (k + 1) ++ List.replicate (64 - (k + 1)) 0) hM (by rw [getD_dt (k := 64) (by omega)]; exact cpy_set (by rw [seg_len (by omega)]; omega) (seg_len (by omega)))
      replace hM : Mem _ _ w4 [_, _, _] := hM.pick [0, 1, 2] rfl
      exact ⟨k + 1, ⟨by omega, hE.sel [0, 2, 3, 4, 5, 6, 11] rfl, hM⟩, by omega⟩
    · replace hE := hE'; clear hE'
      replace hb15 := of_decide_eq_false hb15
      replace hb15 : ¬ (k < 64) := by omega
      obtain rfl : 64 = k := by omega
      replace hM := Mem.blkB (p := (seg bs (64 * i) 64).take 64 ++ List.replicate (64 - 64) 0) (q := seg bs (64 * i) 64) hM (cpy_end (seg_len (by omega)))
      refine wp_cond_false (hE.eval rfl) ?_
      refine wp_exit ?_
      refine q_then_e ?_
      refine q_then_e ?_
      refine q_block_x ?_
      refine hK9 _ _ ?_
      refine wp_plain [true, true, false, false, true] rfl rfl ?_
      refine s_move hE rfl rfl ?_; clear hE a; intro a hE
      refine s_loadN hE rfl (hM.get 0 rfl) row59 rfl (by intro X h; cases h) rfl ?_; clear hE a; intro a hE
      have hro36_0 : (seg bs (64 * i) 64).length = 64 := (seg_len (by omega))
      refine s_buildSlice (xs := [.tmp 35]) (([seg bs (64 * i) 64] : List (List UInt8)).flatMap bv) hE hM sl40 rfl rfl rfl (by intro v hv; simp only [List.mem_cons, List.not_mem_nil, or_false] at hv; rcases hv with rfl; exact ((bv_length _).trans hro36_0)) (by simp [Value.cells]) rfl rfl rfl ?_; clear hE a; intro a v36 w4 hE hM'
      clear hM; have hM := hM'; clear hM'
      replace hM := hM.ownEq (m' := ([seg bs (64 * i) 64] : List (List UInt8)).length) (cs' := ([seg bs (64 * i) 64] : List (List UInt8)).flatMap bv) rfl rfl
      replace hM : Mem _ _ w4 [_, _, _, _] := hM.pick [2, 0, 1, 3] rfl
      obtain ⟨cq1, hq1⟩ := own_rd (hM.get 1 rfl)
      refine s_append hE rfl rfl hM sl40 (Src.rd Try.underlying40 hq1 (bvs_one _)) (len47 (by first | omega | (simp; omega))) (by first | omega | (simp; omega)) (by intro X h; cases h) rfl ?_; clear hE a; intro a v37 w5 hE hM'; clear hM; have hM := hM'; clear hM'
      replace hM := Mem.ownRowsL (f := bv) (ls := (cut8 bs).take i) (ms := ([seg bs (64 * i) 64] : List (List UInt8))) hM rfl rfl
      replace hM : Mem _ _ w5 [_, _, _] := hM.pick [0, 2, 3] rfl
      refine s_assign hE rfl rfl ?_; clear hE a; intro a hE
      refine q_nil ?_
      replace hE : Env a 39 [(0, _), (2, _), (3, _), (4, _), (5, _), (6, _), (11, _), (15, _)] := hE.sel [0, 2, 3, 4, 5, 6, 11, 15] rfl
      refine q_block_n ?_
      refine hK7 _ _ ?_
      refine wp_plain [true, true, true] rfl rfl ?_
      refine s_move hE rfl rfl ?_; clear hE a; intro a hE
      refine s_bin hE rfl rfl (show Bin _ _ _ _ _ (.int .i64 ((i + 1 : Nat) : Int)) from bin_add (by rw [wrap_i64 (by omega) (by omega)]; omega)) rfl ?_; clear hE a; intro a hE
      refine s_assign hE rfl rfl ?_; clear hE a; intro a hE
      refine q_nil ?_
      replace hE : Env a 39 [(0, _), (2, _), (3, _), (4, _), (5, _), (6, _), (11, _), (15, _)] := hE.sel [0, 2, 3, 4, 5, 6, 11, 15] rfl
      replace hE := hE.cast 4 rfl (show _ = Value.int .i64 (((i + 1) : Nat) : Int) from (congrArg _ (by omega)))
      replace hM := Mem.ownRowsEq (f := bv) (ls := ((cut8 bs).take i) ++ ([seg bs (64 * i) 64] : List (List UInt8))) (ms := (cut8 bs).take (i + 1)) hM (cut8_step (by omega))
      replace hM : Mem _ _ w5 [_, _] := hM.pick [0, 2] rfl
      exact ⟨i + 1, ⟨by omega, _, hE.sel [0, 2, 3, 4] rfl, hM⟩, by omega⟩
  · replace hE := hE'; clear hE'
    replace hb11 := of_decide_eq_false hb11
    replace hb11 : ¬ ((64 * i) < bs.length) := by omega
    obtain rfl : 8 = i := by omega
    replace hM := Mem.ownRowsEq (f := bv) (ls := (cut8 bs).take 8) (ms := cut8 bs) hM (List.take_of_length_le (by simp))
    refine wp_cond_false (hE.eval rfl) ?_
    refine wp_exit ?_
    refine q_then_e ?_
    refine q_then_e ?_
    refine q_block_x ?_
    refine hK3 _ _ ?_
    refine wp_seq_k (fun K7 hK7 => ?_)
    refine wp_plain [true, true] rfl rfl ?_
    refine s_move hE rfl rfl ?_; clear hE a; intro a hE
    refine s_assign hE rfl rfl ?_; clear hE a; intro a hE
    refine q_nil ?_
    replace hE : Env a 39 [(0, _), (2, _), (3, _), (4, _), (11, _)] := hE.sel [0, 2, 3, 4, 11] rfl
    refine hK7 _ _ ?_
    refine wp_ret ?_
    refine f_ret1 hE rfl rfl ?_
    exact ⟨_, (by first | rfl | (simp; done)), hM.pick [0] rfl⟩
theorem rput_ok (h : Hd) (w : World) (hk : OkHd h) (hc : checkH h = 0) : Calls Try.prog 9 #[.agg ([[.int .i64 h.m], [.int .i64 h.r], [.bool h.v0.1], [.int .u64 ((h.v0.2.1 : Nat) : Int)], bv h.v0.2.2.1, bv h.v0.2.2.2, [.bool h.v1.1], [.int .u64 ((h.v1.2.1 : Nat) : Int)], bv h.v1.2.2.1, bv h.v1.2.2.2, [.bool h.s0.1], [.int .i64 h.s0.2.1], bv h.s0.2.2.1, bv h.s0.2.2.2.1, bv h.s0.2.2.2.2, [.bool h.s1.1], [.int .i64 h.s1.2.1], bv h.s1.2.2.1, bv h.s1.2.2.2.1, bv h.s1.2.2.2.2, [.bool h.s2.1], [.int .i64 h.s2.2.1], bv h.s2.2.2.1, bv h.s2.2.2.2.1, bv h.s2.2.2.2.2, [.bool h.s3.1], [.int .i64 h.s3.2.1], bv h.s3.2.2.1, bv h.s3.2.2.2.1, bv h.s3.2.2.2.2] : List (List Value)).flatten.toArray] w fun e w' => ∃ v'0, e = .returned (.tuple #[v'0, .int .i64 0]) ∧ Mem w [] w' [own v'0 64 ((cutH (layH h)).length) ((cutH (layH h)).flatMap bv)] := by
  obtain ⟨hs, hlg⟩ := check_ok hc
  have hit := long_it hlg
  have hM := Mem.start0 w
  refine f_enter 13 Try.func9 rfl rfl rfl ?_
  intro a hE
  replace hE : Env a 13 [(0, _)] := hE
  refine wp_seq_k (fun K1 hK1 => ?_)
  refine wp_plain [false, true, true] rfl rfl ?_
  have hbl1_4 : h.v0.2.2.1.length = 32 := hk.v0.2.1
  have hbl1_5 : h.v0.2.2.2.length = 32 := hk.v0.2.2
  have hbl1_8 : h.v1.2.2.1.length = 32 := hk.v1.2.1
  have hbl1_9 : h.v1.2.2.2.length = 32 := hk.v1.2.2
  have hbl1_12 : h.s0.2.2.1.length = 16 := hk.s0.2.1
  have hbl1_13 : h.s0.2.2.2.1.length = 32 := hk.s0.2.2.1
  have hbl1_14 : h.s0.2.2.2.2.length = 32 := hk.s0.2.2.2
  have hbl1_17 : h.s1.2.2.1.length = 16 := hk.s1.2.1
  have hbl1_18 : h.s1.2.2.2.1.length = 32 := hk.s1.2.2.1
  have hbl1_19 : h.s1.2.2.2.2.length = 32 := hk.s1.2.2.2
  have hbl1_22 : h.s2.2.2.1.length = 16 := hk.s2.2.1
  have hbl1_23 : h.s2.2.2.2.1.length = 32 := hk.s2.2.2.1
  have hbl1_24 : h.s2.2.2.2.2.length = 32 := hk.s2.2.2.2
  have hbl1_27 : h.s3.2.2.1.length = 16 := hk.s3.2.1
  have hbl1_28 : h.s3.2.2.2.1.length = 32 := hk.s3.2.2.1
  have hbl1_29 : h.s3.2.2.2.2.length = 32 := hk.s3.2.2.2
  refine s_box (ss := [[.int .i64 h.m], [.int .i64 h.r], [.bool h.v0.1], [.int .u64 ((h.v0.2.1 : Nat) : Int)], bv h.v0.2.2.1, bv h.v0.2.2.2, [.bool h.v1.1], [.int .u64 ((h.v1.2.1 : Nat) : Int)], bv h.v1.2.2.1, bv h.v1.2.2.2, [.bool h.s0.1], [.int .i64 h.s0.2.1], bv h.s0.2.2.1, bv h.s0.2.2.2.1, bv h.s0.2.2.2.2, [.bool h.s1.1], [.int .i64 h.s1.2.1], bv h.s1.2.2.1, bv h.s1.2.2.2.1, bv h.s1.2.2.2.2, [.bool h.s2.1], [.int .i64 h.s2.2.1], bv h.s2.2.2.1, bv h.s2.2.2.2.1, bv h.s2.2.2.2.2, [.bool h.s3.1], [.int .i64 h.s3.2.1], bv h.s3.2.2.1, bv h.s3.2.2.2.1, bv h.s3.2.2.2.2]) [1, 1, 1, 1, 32, 32, 1, 1, 32, 32, 1, 1, 16, 32, 32, 1, 1, 16, 32, 32, 1, 1, 16, 32, 32, 1, 1, 16, 32, 32] hE hM rfl rfl (by simp only [List.map_cons, List.map_nil, bv_length, List.length_cons, List.length_nil, List.length_replicate, hbl1_4, hbl1_5, hbl1_8, hbl1_9, hbl1_12, hbl1_13, hbl1_14, hbl1_17, hbl1_18, hbl1_19, hbl1_22, hbl1_23, hbl1_24, hbl1_27, hbl1_28, hbl1_29]) rfl ?_; clear hE a; intro a b1 w1 hE hM'
  clear hM; have hM := hM'; clear hM'
  refine s_assign hE rfl rfl ?_; clear hE a; intro a hE
  refine s_assign hE rfl rfl ?_; clear hE a; intro a hE
  refine q_nil ?_
  replace hE : Env a 13 [(1, _), (2, _), (3, _)] := hE.sel [1, 2, 3] rfl
  refine hK1 _ _ ?_
  refine wp_seq_k (fun K2 hK2 => ?_)
  refine wp_plain [true, false, true] rfl rfl ?_
  refine s_loadN hE rfl (hM.get 0 rfl) row39 rfl (by intro X h; cases h) rfl ?_; clear hE a; intro a hE
  replace hE := hE.cast 5 rfl (show _ = Value.agg ([[.int .i64 h.m], [.int .i64 h.r], [.bool h.v0.1], [.int .u64 ((h.v0.2.1 : Nat) : Int)], bv h.v0.2.2.1, bv h.v0.2.2.2, [.bool h.v1.1], [.int .u64 ((h.v1.2.1 : Nat) : Int)], bv h.v1.2.2.1, bv h.v1.2.2.2, [.bool h.s0.1], [.int .i64 h.s0.2.1], bv h.s0.2.2.1, bv h.s0.2.2.2.1, bv h.s0.2.2.2.2, [.bool h.s1.1], [.int .i64 h.s1.2.1], bv h.s1.2.2.1, bv h.s1.2.2.2.1, bv h.s1.2.2.2.2, [.bool h.s2.1], [.int .i64 h.s2.2.1], bv h.s2.2.2.1, bv h.s2.2.2.2.1, bv h.s2.2.2.2.2, [.bool h.s3.1], [.int .i64 h.s3.2.1], bv h.s3.2.2.1, bv h.s3.2.2.2.1, bv h.s3.2.2.2.2] : List (List Value)).flatten.toArray from (by first | rfl | simp only [List.flatten_cons, List.flatten_nil, List.append_nil, List.append_assoc]))
  refine s_call hE rfl Try.call11 (rcheck_c h _ hk ) rfl ?_
  rintro e w2 ⟨rfl, hN⟩
  refine ⟨_, rfl, trivial, ?_⟩; clear hE a; intro a hE
  replace hM : Mem _ _ w2 [_] := hM.call0 hN trivial; clear hN
  refine s_assign hE rfl rfl ?_; clear hE a; intro a hE
  refine q_nil ?_
  replace hE : Env a 13 [(1, _), (2, _), (3, _), (4, _)] := hE.sel [1, 2, 3, 4] rfl
  refine hK2 _ _ ?_
  refine wp_seq_k (fun K3 hK3 => ?_)
  refine wp_seq_k (fun K4 hK4 => ?_)
  refine wp_plain [true, true] rfl rfl ?_
  refine s_move hE rfl rfl ?_; clear hE a; intro a hE
  refine s_bin hE rfl rfl bin_neq rfl ?_; clear hE a; intro a hE
  refine q_nil ?_
  replace hE : Env a 13 [(1, _), (2, _), (3, _), (4, _), (8, _)] := hE.sel [1, 2, 3, 4, 8] rfl
  refine hK4 _ _ ?_
  replace hE := hE.cast 8 rfl (show _ = Value.bool false from (congrArg Value.bool (by first | rfl | (rw [hc]; rfl) | (simp [hc]; done))))
  refine wp_cond_false (hE.eval rfl) ?_
  refine wp_skip ?_
  refine hK3 _ _ ?_
  refine wp_seq_k (fun K5 hK5 => ?_)
  refine wp_plain [true, false, false, true, true] rfl rfl ?_
  refine s_loadN hE rfl (hM.get 0 rfl) row39 rfl (by intro X h; cases h) rfl ?_; clear hE a; intro a hE
  replace hE := hE.cast 10 rfl (show _ = Value.agg ([[.int .i64 h.m], [.int .i64 h.r], [.bool h.v0.1], [.int .u64 ((h.v0.2.1 : Nat) : Int)], bv h.v0.2.2.1, bv h.v0.2.2.2, [.bool h.v1.1], [.int .u64 ((h.v1.2.1 : Nat) : Int)], bv h.v1.2.2.1, bv h.v1.2.2.2, [.bool h.s0.1], [.int .i64 h.s0.2.1], bv h.s0.2.2.1, bv h.s0.2.2.2.1, bv h.s0.2.2.2.2, [.bool h.s1.1], [.int .i64 h.s1.2.1], bv h.s1.2.2.1, bv h.s1.2.2.2.1, bv h.s1.2.2.2.2, [.bool h.s2.1], [.int .i64 h.s2.2.1], bv h.s2.2.2.1, bv h.s2.2.2.2.1, bv h.s2.2.2.2.2, [.bool h.s3.1], [.int .i64 h.s3.2.1], bv h.s3.2.2.1, bv h.s3.2.2.2.1, bv h.s3.2.2.2.2] : List (List Value)).flatten.toArray from (by first | rfl | simp only [List.flatten_cons, List.flatten_nil, List.append_nil, List.append_assoc]))
  refine s_call hE rfl Try.call22 (rlay_c h _ hk hs hit) rfl ?_
  rintro e w3 ⟨v11, rfl, hN⟩
  refine ⟨_, rfl, trivial, ?_⟩; clear hE a; intro a hE
  replace hM : Mem _ _ w3 [_, _] := hM.call0 hN ⟨rfl, trivial⟩; clear hN
  obtain ⟨cq1, hq1⟩ := own_rd (hM.get 0 rfl)
  refine s_call hE rfl Try.call21 (rcut_c _ (padH (layH h)) _ _ hq1 (padH_len (layH_len hk))) rfl ?_
  rintro e w4 ⟨v12, rfl, hN⟩
  refine ⟨_, rfl, trivial, ?_⟩; clear hE a; intro a hE
  replace hM : Mem _ _ w4 [_, _, _] := hM.call0 hN ⟨rfl, trivial⟩; clear hN
  refine s_assign hE rfl rfl ?_; clear hE a; intro a hE
  refine s_assign hE rfl rfl ?_; clear hE a; intro a hE
  refine q_nil ?_
  replace hE : Env a 13 [(1, _), (2, _), (3, _), (4, _), (8, _)] := hE.sel [1, 2, 3, 4, 8] rfl
  refine hK5 _ _ ?_
  refine wp_ret ?_
  refine f_ret2 hE rfl rfl rfl ?_
  replace hM := Mem.ownRowsEq (f := bv) (ls := cut8 (padH (layH h))) (ms := cutH (layH h)) hM rfl
  exact ⟨_, (by first | rfl | (simp; done)), hM.pick [0] rfl⟩
theorem rput_no (h : Hd) (w : World) (hk : OkHd h) (hc : checkH h = 2) : Calls Try.prog 9 #[.agg ([[.int .i64 h.m], [.int .i64 h.r], [.bool h.v0.1], [.int .u64 ((h.v0.2.1 : Nat) : Int)], bv h.v0.2.2.1, bv h.v0.2.2.2, [.bool h.v1.1], [.int .u64 ((h.v1.2.1 : Nat) : Int)], bv h.v1.2.2.1, bv h.v1.2.2.2, [.bool h.s0.1], [.int .i64 h.s0.2.1], bv h.s0.2.2.1, bv h.s0.2.2.2.1, bv h.s0.2.2.2.2, [.bool h.s1.1], [.int .i64 h.s1.2.1], bv h.s1.2.2.1, bv h.s1.2.2.2.1, bv h.s1.2.2.2.2, [.bool h.s2.1], [.int .i64 h.s2.2.1], bv h.s2.2.2.1, bv h.s2.2.2.2.1, bv h.s2.2.2.2.2, [.bool h.s3.1], [.int .i64 h.s3.2.1], bv h.s3.2.2.1, bv h.s3.2.2.2.1, bv h.s3.2.2.2.2] : List (List Value)).flatten.toArray] w fun e w' => e = .returned (.tuple #[.slice none 0 0, .int .i64 2]) ∧ Mem w [] w' [] := by
  have hM := Mem.start0 w
  refine f_enter 13 Try.func9 rfl rfl rfl ?_
  intro a hE
  replace hE : Env a 13 [(0, _)] := hE
  refine wp_seq_k (fun K1 hK1 => ?_)
  refine wp_plain [false, true, true] rfl rfl ?_
  have hbl1_4 : h.v0.2.2.1.length = 32 := hk.v0.2.1
  have hbl1_5 : h.v0.2.2.2.length = 32 := hk.v0.2.2
  have hbl1_8 : h.v1.2.2.1.length = 32 := hk.v1.2.1
  have hbl1_9 : h.v1.2.2.2.length = 32 := hk.v1.2.2
  have hbl1_12 : h.s0.2.2.1.length = 16 := hk.s0.2.1
  have hbl1_13 : h.s0.2.2.2.1.length = 32 := hk.s0.2.2.1
  have hbl1_14 : h.s0.2.2.2.2.length = 32 := hk.s0.2.2.2
  have hbl1_17 : h.s1.2.2.1.length = 16 := hk.s1.2.1
  have hbl1_18 : h.s1.2.2.2.1.length = 32 := hk.s1.2.2.1
  have hbl1_19 : h.s1.2.2.2.2.length = 32 := hk.s1.2.2.2
  have hbl1_22 : h.s2.2.2.1.length = 16 := hk.s2.2.1
  have hbl1_23 : h.s2.2.2.2.1.length = 32 := hk.s2.2.2.1
  have hbl1_24 : h.s2.2.2.2.2.length = 32 := hk.s2.2.2.2
  have hbl1_27 : h.s3.2.2.1.length = 16 := hk.s3.2.1
  have hbl1_28 : h.s3.2.2.2.1.length = 32 := hk.s3.2.2.1
  have hbl1_29 : h.s3.2.2.2.2.length = 32 := hk.s3.2.2.2
  refine s_box (ss := [[.int .i64 h.m], [.int .i64 h.r], [.bool h.v0.1], [.int .u64 ((h.v0.2.1 : Nat) : Int)], bv h.v0.2.2.1, bv h.v0.2.2.2, [.bool h.v1.1], [.int .u64 ((h.v1.2.1 : Nat) : Int)], bv h.v1.2.2.1, bv h.v1.2.2.2, [.bool h.s0.1], [.int .i64 h.s0.2.1], bv h.s0.2.2.1, bv h.s0.2.2.2.1, bv h.s0.2.2.2.2, [.bool h.s1.1], [.int .i64 h.s1.2.1], bv h.s1.2.2.1, bv h.s1.2.2.2.1, bv h.s1.2.2.2.2, [.bool h.s2.1], [.int .i64 h.s2.2.1], bv h.s2.2.2.1, bv h.s2.2.2.2.1, bv h.s2.2.2.2.2, [.bool h.s3.1], [.int .i64 h.s3.2.1], bv h.s3.2.2.1, bv h.s3.2.2.2.1, bv h.s3.2.2.2.2]) [1, 1, 1, 1, 32, 32, 1, 1, 32, 32, 1, 1, 16, 32, 32, 1, 1, 16, 32, 32, 1, 1, 16, 32, 32, 1, 1, 16, 32, 32] hE hM rfl rfl (by simp only [List.map_cons, List.map_nil, bv_length, List.length_cons, List.length_nil, List.length_replicate, hbl1_4, hbl1_5, hbl1_8, hbl1_9, hbl1_12, hbl1_13, hbl1_14, hbl1_17, hbl1_18, hbl1_19, hbl1_22, hbl1_23, hbl1_24, hbl1_27, hbl1_28, hbl1_29]) rfl ?_; clear hE a; intro a b1 w1 hE hM'
  clear hM; have hM := hM'; clear hM'
  refine s_assign hE rfl rfl ?_; clear hE a; intro a hE
  refine s_assign hE rfl rfl ?_; clear hE a; intro a hE
  refine q_nil ?_
  replace hE : Env a 13 [(1, _), (2, _), (3, _)] := hE.sel [1, 2, 3] rfl
  refine hK1 _ _ ?_
  refine wp_seq_k (fun K2 hK2 => ?_)
  refine wp_plain [true, false, true] rfl rfl ?_
  refine s_loadN hE rfl (hM.get 0 rfl) row39 rfl (by intro X h; cases h) rfl ?_; clear hE a; intro a hE
  replace hE := hE.cast 5 rfl (show _ = Value.agg ([[.int .i64 h.m], [.int .i64 h.r], [.bool h.v0.1], [.int .u64 ((h.v0.2.1 : Nat) : Int)], bv h.v0.2.2.1, bv h.v0.2.2.2, [.bool h.v1.1], [.int .u64 ((h.v1.2.1 : Nat) : Int)], bv h.v1.2.2.1, bv h.v1.2.2.2, [.bool h.s0.1], [.int .i64 h.s0.2.1], bv h.s0.2.2.1, bv h.s0.2.2.2.1, bv h.s0.2.2.2.2, [.bool h.s1.1], [.int .i64 h.s1.2.1], bv h.s1.2.2.1, bv h.s1.2.2.2.1, bv h.s1.2.2.2.2, [.bool h.s2.1], [.int .i64 h.s2.2.1], bv h.s2.2.2.1, bv h.s2.2.2.2.1, bv h.s2.2.2.2.2, [.bool h.s3.1], [.int .i64 h.s3.2.1], bv h.s3.2.2.1, bv h.s3.2.2.2.1, bv h.s3.2.2.2.2] : List (List Value)).flatten.toArray from (by first | rfl | simp only [List.flatten_cons, List.flatten_nil, List.append_nil, List.append_assoc]))
  refine s_call hE rfl Try.call11 (rcheck_c h _ hk ) rfl ?_
  rintro e w2 ⟨rfl, hN⟩
  refine ⟨_, rfl, trivial, ?_⟩; clear hE a; intro a hE
  replace hM : Mem _ _ w2 [_] := hM.call0 hN trivial; clear hN
  refine s_assign hE rfl rfl ?_; clear hE a; intro a hE
  refine q_nil ?_
  replace hE : Env a 13 [(1, _), (2, _), (3, _), (4, _)] := hE.sel [1, 2, 3, 4] rfl
  refine hK2 _ _ ?_
  refine wp_seq_k (fun K3 hK3 => ?_)
  refine wp_seq_k (fun K4 hK4 => ?_)
  refine wp_plain [true, true] rfl rfl ?_
  refine s_move hE rfl rfl ?_; clear hE a; intro a hE
  refine s_bin hE rfl rfl bin_neq rfl ?_; clear hE a; intro a hE
  refine q_nil ?_
  replace hE : Env a 13 [(1, _), (2, _), (3, _), (4, _), (8, _)] := hE.sel [1, 2, 3, 4, 8] rfl
  refine hK4 _ _ ?_
  replace hE := hE.cast 8 rfl (show _ = Value.bool true from (congrArg Value.bool (by first | rfl | (rw [hc]; rfl) | (simp [hc]; done))))
  refine wp_cond_true (hE.eval rfl) ?_
  refine wp_seq_k (fun K5 hK5 => ?_)
  refine wp_plain [true, true, true] rfl rfl ?_
  refine s_move hE rfl rfl ?_; clear hE a; intro a hE
  refine s_assign hE rfl rfl ?_; clear hE a; intro a hE
  refine s_assign hE rfl rfl ?_; clear hE a; intro a hE
  refine q_nil ?_
  replace hE : Env a 13 [(1, _), (2, _), (3, _), (4, _), (8, _)] := hE.sel [1, 2, 3, 4, 8] rfl
  refine hK5 _ _ ?_
  refine wp_ret ?_
  refine q_then_r ?_
  refine f_ret2 hE rfl rfl rfl ?_
  exact ⟨(by first | rfl | (simp [hc]; done)), hM.pick [] rfl⟩
theorem rput_a (h : Hd) (w : World) (hk : OkHd h) : Calls Try.prog 9 #[.agg ([[.int .i64 h.m], [.int .i64 h.r], [.bool h.v0.1], [.int .u64 ((h.v0.2.1 : Nat) : Int)], bv h.v0.2.2.1, bv h.v0.2.2.2, [.bool h.v1.1], [.int .u64 ((h.v1.2.1 : Nat) : Int)], bv h.v1.2.2.1, bv h.v1.2.2.2, [.bool h.s0.1], [.int .i64 h.s0.2.1], bv h.s0.2.2.1, bv h.s0.2.2.2.1, bv h.s0.2.2.2.2, [.bool h.s1.1], [.int .i64 h.s1.2.1], bv h.s1.2.2.1, bv h.s1.2.2.2.1, bv h.s1.2.2.2.2, [.bool h.s2.1], [.int .i64 h.s2.2.1], bv h.s2.2.2.1, bv h.s2.2.2.2.1, bv h.s2.2.2.2.2, [.bool h.s3.1], [.int .i64 h.s3.2.1], bv h.s3.2.2.1, bv h.s3.2.2.2.1, bv h.s3.2.2.2.2] : List (List Value)).flatten.toArray] w fun e w' => ∃ v', e = .returned (.tuple #[v', .int .i64 ((checkH h : Nat) : Int)]) ∧ Mem w [] w' [own v' 64 (putH h).length ((putH h).flatMap bv)] := by
  by_cases hc : checkH h = 0
  · rw [show putH h = cutH (layH h) from if_pos hc, hc]
    exact rput_ok h w hk hc
  · rw [show putH h = [] from if_neg hc, check_no hc]
    refine Calls.mono (rput_no h w hk (check_no hc)) ?_
    rintro e w' ⟨rfl, hM⟩
    exact ⟨_, rfl, hM.addNil 64⟩
end Go.Proofs.Ytamjaacddbecaaa
