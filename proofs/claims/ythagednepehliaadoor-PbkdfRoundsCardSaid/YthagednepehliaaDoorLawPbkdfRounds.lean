/- PbkdfRounds of casematelaw05 returns true for whatever bytes and salt; they read behind the call as before. No condition. -/
import Derived.Test.YthagednepehliaaDoorLp
import Derived.Test.YthagednepehliaaDoorTie
import Derived.Test.YthagednepehliaaDoorCards
namespace Go.Proofs.YthagednepehliaaDoor
open Go Go.Kx
open Go.ChangeShapes Go.WideShapes Go.ChangeAt Go.RowKit

theorem pbkdfRounds_c (v u : Value) (pass salt : List UInt8) (c cu : Nat) (w : World) (hG : (glb 0).holds w) (hr : (rd v 1 pass.length c (bv pass)).holds w) (hu : (rd u 1 salt.length cu (bv salt)).holds w) (hpl : pass.length ≤ 140737488351232) (hsl : salt.length ≤ 140737488351232) : Calls Tryd.prog 7 #[v, u] w fun e w' => e = .returned (.bool true) ∧ Mem w [] w' [] := by
  have hM : Mem w [] w [rd v 1 pass.length c (bv pass), rd u 1 salt.length cu (bv salt), glb 0] := Mem.startR w (fun g hg => by
    simp only [List.mem_cons, List.not_mem_nil, or_false] at hg
    rcases hg with rfl | rfl | rfl
    · exact ⟨hr, rfl⟩
    · exact ⟨hu, rfl⟩
    · exact ⟨hG, rfl⟩)
  refine f_enter 84 Tryd.func7 rfl rfl rfl ?_
  intro a hE
  replace hE : Env a 84 [(0, _), (1, _)] := hE
  refine wp_seq_k (fun K1 hK1 => ?_)
  refine wp_plain [true] rfl rfl ?_
  refine s_assign hE rfl rfl ?_; clear hE a; intro a hE
  refine q_nil ?_
  refine hK1 _ _ ?_
  refine wp_seq_k (fun K2 hK2 => ?_)
  refine wp_seq_k (fun K3 hK3 => ?_)
  refine wp_plain [true, true, true, true, true, true, true, true] rfl rfl ?_
  refine s_move hE rfl rfl ?_; clear hE a; intro a hE
  refine s_len hE rfl Tryd.underlying22 (rd_slice (hM.get 0 rfl)) rfl ?_; clear hE a; intro a hE
  refine s_bin hE rfl rfl bin_gtr rfl ?_; clear hE a; intro a hE
  refine s_move hE rfl rfl ?_; clear hE a; intro a hE
  refine hE.split 15 rfl (fun hb15 hE' => ?_) (fun hb15 hE' => ?_)
  · replace hE := hE'; clear hE'
    replace hb15 := of_decide_eq_true hb15
    refine g_no (b := true) hE rfl rfl rfl ?_; clear hE a; intro a hE
    refine g_no (b := true) hE rfl rfl rfl ?_; clear hE a; intro a hE
    refine g_no (b := true) hE rfl rfl rfl ?_; clear hE a; intro a hE
    refine s_pickt hE rfl rfl rfl ?_; clear hE a; intro a hE
    refine q_nil ?_
    replace hE : Env a 84 [(0, _), (1, _), (4, _), (19, _)] := hE.sel [0, 1, 4, 19] rfl
    refine hK3 _ _ ?_
    refine wp_cond_true (hE.eval rfl) ?_
    refine wp_seq_k (fun K4 hK4 => ?_)
    refine wp_plain [false, true] rfl rfl ?_
    refine s_call hE rfl Tryd.call15 (awake_c _ (hM.get 2 rfl)) rfl ?_
    rintro e w1 ⟨rfl, hN⟩
    refine ⟨_, rfl, trivial, ?_⟩; clear hE a; intro a hE
    replace hM : Mem _ _ w1 [_, _, _] := hM.call0 hN trivial; clear hN
    refine s_assign hE rfl rfl ?_; clear hE a; intro a hE
    refine q_nil ?_
    replace hE : Env a 84 [(0, _), (1, _), (4, _), (19, _)] := hE.sel [0, 1, 4, 19] rfl
    refine hK4 _ _ ?_
    refine wp_ret ?_
    refine q_then_r ?_
    refine f_ret1 hE rfl rfl ?_
    exact ⟨rfl, hM.nil⟩
  · replace hE := hE'; clear hE'
    replace hb15 := of_decide_eq_false hb15
    refine g_yes hE rfl rfl ?_
    refine s_move hE rfl rfl ?_; clear hE a; intro a hE
    refine g_yes hE rfl rfl ?_
    refine s_len hE rfl Tryd.underlying22 (rd_slice (hM.get 1 rfl)) rfl ?_; clear hE a; intro a hE
    refine g_yes hE rfl rfl ?_
    refine s_bin hE rfl rfl bin_gtr rfl ?_; clear hE a; intro a hE
    refine s_pickf hE rfl rfl rfl ?_; clear hE a; intro a hE
    refine q_nil ?_
    replace hE : Env a 84 [(0, _), (1, _), (4, _), (19, _)] := hE.sel [0, 1, 4, 19] rfl
    refine hK3 _ _ ?_
    refine hE.split 19 rfl (fun hb19 hE' => ?_) (fun hb19 hE' => ?_)
    · replace hE := hE'; clear hE'
      replace hb19 := of_decide_eq_true hb19
      refine wp_cond_true (hE.eval rfl) ?_
      refine wp_seq_k (fun K4 hK4 => ?_)
      refine wp_plain [false, true] rfl rfl ?_
      refine s_call hE rfl Tryd.call15 (awake_c _ (hM.get 2 rfl)) rfl ?_
      rintro e w1 ⟨rfl, hN⟩
      refine ⟨_, rfl, trivial, ?_⟩; clear hE a; intro a hE
      replace hM : Mem _ _ w1 [_, _, _] := hM.call0 hN trivial; clear hN
      refine s_assign hE rfl rfl ?_; clear hE a; intro a hE
      refine q_nil ?_
      replace hE : Env a 84 [(0, _), (1, _), (4, _), (19, _)] := hE.sel [0, 1, 4, 19] rfl
      refine hK4 _ _ ?_
      refine wp_ret ?_
      refine q_then_r ?_
      refine f_ret1 hE rfl rfl ?_
      exact ⟨rfl, hM.nil⟩
    · replace hE := hE'; clear hE'
      replace hb19 := of_decide_eq_false hb19
      refine wp_cond_false (hE.eval rfl) ?_
      refine wp_skip ?_
      refine hK2 _ _ ?_
      refine wp_seq_k (fun K4 hK4 => ?_)
      refine wp_plain [true, true, false, false, false, false, false] rfl rfl ?_
      refine s_move hE rfl rfl ?_; clear hE a; intro a hE
      refine s_move hE rfl rfl ?_; clear hE a; intro a hE
      refine s_buildSlice (xs := [.const (.int .u8 0), .const (.int .u8 0), .const (.int .u8 0), .const (.int .u8 1)]) (bv [0, 0, 0, 1]) hE hM sl22 rfl rfl rfl (by intro v hv; obtain ⟨x, _, rfl⟩ := List.mem_map.1 (show v ∈ bv [0, 0, 0, 1] from hv); rfl) rfl rfl rfl rfl ?_; clear hE a; intro a v23 w1 hE hM'
      clear hM; have hM := hM'; clear hM'
      have h1 := rd_one (hM.get 2 rfl)
      have h2 := own_one (hM.get 0 rfl)
      refine s_buildSlice (xs := [.tmp 22, .tmp 23]) ([u, v23]) hE hM sl57 rfl rfl rfl (by intro v hv; simp only [List.mem_cons, List.not_mem_nil, or_false] at hv; rcases hv with rfl | rfl; rw [h1.1]; rfl; rw [h2.1]; rfl) (by simp [h1.1, h2.1]) rfl rfl rfl ?_; clear hE a; intro a v24 w2 hE hM'
      clear hM; have hM := hM'; clear hM'
      obtain ⟨cl, hl⟩ := own_rd (hM.get 0 rfl)
      obtain ⟨cf, h4⟩ := own_rd (hM.get 1 rfl)
      refine s_call hE rfl Tryd.call23 ((by have h := parts_c v _ pass [salt, [0, 0, 0, 1]] _ _ c _ _ (hM.get 4 rfl) (hM.get 2 rfl) hl (rdv_cons (hM.get 3 rfl) (rdv_cons (p := [0, 0, 0, 1]) h4 (rdv_nil _))) (by omega) (by simp; omega) (by simp); rw [show ([salt, [0, 0, 0, 1]] : List (List UInt8)).flatten = salt ++ [0, 0, 0, 1] from by simp, show hmacW pass (salt ++ [0, 0, 0, 1]) = uW pass salt 1 0 from rfl] at h; exact h)) rfl ?_
      rintro e w3 ⟨rfl, hN⟩
      refine ⟨_, rfl, trivial, ?_⟩; clear hE a; intro a hE
      replace hM : Mem _ _ w3 [_, _, _, _, _] := hM.call0 hN trivial; clear hN
      refine s_alloc [32] hE hM zero42 rfl rfl ?_; clear hE a; intro a b5 w4 hE hM'
      clear hM; have hM := hM'; clear hM'
      refine s_storeSeg 0 hE rfl rfl hM rfl sz42 (by simp) (bv_one _) rfl (by simp) rfl (by intro X h; cases h) ?_; intro w5 hM'; clear hM; have hM := hM'; clear hM'
      simp only [List.set_cons_zero, List.set_cons_succ] at hM
      refine q_nil ?_
      replace hE : Env a 84 [(0, _), (1, _), (4, _), (5, _), (19, _)] := hE.sel [0, 1, 4, 5, 19] rfl
      refine hK4 _ _ ?_
      refine wp_seq_k (fun K5 hK5 => ?_)
      refine wp_plain [true, true, false, false, false] rfl rfl ?_
      refine s_move hE rfl rfl ?_; clear hE a; intro a hE
      refine s_sliceArr (l := 0) (h := 32) (mx' := 32) hE rfl arr42 rfl rfl rfl (by simp) (by omega) (by omega) (by omega) rfl ?_; clear hE a; intro a hE
      replace hE := hE.cast 27 rfl (show _ = Value.slice (some ⟨b5, 0, none⟩) 32 32 from rfl)
      refine s_call hE rfl Tryd.call24 ((by have h := of_c v _ pass (uW pass salt 1 0) c _ _ (hM.get 5 rfl) (hM.get 3 rfl) (rd_of_arr (hM.get 0 rfl) (by simp)) (by omega) (by simp); rw [show hmacW pass (uW pass salt 1 0) = uW pass salt 1 1 from rfl] at h; exact h)) rfl ?_
      rintro e w6 ⟨rfl, hN⟩
      refine ⟨_, rfl, trivial, ?_⟩; clear hE a; intro a hE
      replace hM : Mem _ _ w6 [_, _, _, _, _, _] := hM.call0 hN trivial; clear hN
      refine s_alloc [32] hE hM zero42 rfl rfl ?_; clear hE a; intro a b6 w7 hE hM'
      clear hM; have hM := hM'; clear hM'
      refine s_storeSeg 0 hE rfl rfl hM rfl sz42 (by simp) (bv_one _) rfl (by simp) rfl (by intro X h; cases h) ?_; intro w8 hM'; clear hM; have hM := hM'; clear hM'
      simp only [List.set_cons_zero, List.set_cons_succ] at hM
      refine q_nil ?_
      replace hE : Env a 84 [(0, _), (1, _), (4, _), (5, _), (6, _), (19, _)] := hE.sel [0, 1, 4, 5, 6, 19] rfl
      refine hK5 _ _ ?_
      refine wp_seq_k (fun K6 hK6 => ?_)
      refine wp_plain [true, true, false, true, true, true, true, true] rfl rfl ?_
      refine s_move hE rfl rfl ?_; clear hE a; intro a hE
      refine s_move hE rfl rfl ?_; clear hE a; intro a hE
      refine s_call hE rfl Tryd.call21 (key_c v u pass salt c cu 1 32 _ (hM.get 6 rfl) (hM.get 4 rfl) (hM.get 5 rfl) (by omega) (by omega) (by decide) (by decide) (by decide) (by decide)) rfl ?_
      rintro e w9 ⟨vka, rfl, hnk, hN⟩
      refine ⟨_, rfl, trivial, ?_⟩; clear hE a; intro a hE
      replace hM : Mem _ _ w9 [_, _, _, _, _, _, _, _] := hM.callN hN (by intro e he x hx; rw [List.mem_singleton.1 he] at hx; exact hnk x hx); clear hN
      clear hnk
      refine s_move hE rfl rfl ?_; clear hE a; intro a hE
      refine s_extract hE rfl rfl rfl ?_; clear hE a; intro a hE
      refine s_extract hE rfl rfl rfl ?_; clear hE a; intro a hE
      refine s_assign hE rfl rfl ?_; clear hE a; intro a hE
      refine s_assign hE rfl rfl ?_; clear hE a; intro a hE
      refine q_nil ?_
      replace hE : Env a 84 [(0, _), (1, _), (4, _), (5, _), (6, _), (7, _), (8, _), (19, _)] := hE.sel [0, 1, 4, 5, 6, 7, 8, 19] rfl
      refine hK6 _ _ ?_
      refine wp_seq_k (fun K7 hK7 => ?_)
      refine wp_plain [true, true, false, true, true, true, true, true] rfl rfl ?_
      refine s_move hE rfl rfl ?_; clear hE a; intro a hE
      refine s_move hE rfl rfl ?_; clear hE a; intro a hE
      refine s_call hE rfl Tryd.call21 (key_c v u pass salt c cu 2 32 _ (hM.get 7 rfl) (hM.get 5 rfl) (hM.get 6 rfl) (by omega) (by omega) (by decide) (by decide) (by decide) (by decide)) rfl ?_
      rintro e w10 ⟨vkb, rfl, hnk, hN⟩
      refine ⟨_, rfl, trivial, ?_⟩; clear hE a; intro a hE
      replace hM : Mem _ _ w10 [_, _, _, _, _, _, _, _, _] := hM.callN hN (by intro e he x hx; rw [List.mem_singleton.1 he] at hx; exact hnk x hx); clear hN
      clear hnk
      refine s_move hE rfl rfl ?_; clear hE a; intro a hE
      refine s_extract hE rfl rfl rfl ?_; clear hE a; intro a hE
      refine s_extract hE rfl rfl rfl ?_; clear hE a; intro a hE
      refine s_assign hE rfl rfl ?_; clear hE a; intro a hE
      refine s_assign hE rfl rfl ?_; clear hE a; intro a hE
      refine q_nil ?_
      replace hE : Env a 84 [(0, _), (1, _), (4, _), (5, _), (6, _), (7, _), (8, _), (9, _), (10, _), (19, _)] := hE.sel [0, 1, 4, 5, 6, 7, 8, 9, 10, 19] rfl
      refine hK7 _ _ ?_
      refine wp_seq_k (fun K8 hK8 => ?_)
      refine wp_seq_k (fun K9 hK9 => ?_)
      refine wp_plain [true, true, true, true, true, true, true, true, true, true, true, true, true, true, true, true] rfl rfl ?_
      refine s_move hE rfl rfl ?_; clear hE a; intro a hE
      refine s_bin hE rfl rfl bin_neq rfl ?_; clear hE a; intro a hE
      refine s_move hE rfl rfl ?_; clear hE a; intro a hE
      replace hE := hE.cast 43 rfl (show _ = Value.bool false from (congrArg Value.bool (by first | rfl | decide)))
      refine g_yes hE rfl rfl ?_
      refine s_move hE rfl rfl ?_; clear hE a; intro a hE
      refine g_yes hE rfl rfl ?_
      refine s_bin hE rfl rfl bin_neq rfl ?_; clear hE a; intro a hE
      refine s_pickf hE rfl rfl rfl ?_; clear hE a; intro a hE
      refine s_move hE rfl rfl ?_; clear hE a; intro a hE
      replace hE := hE.cast 47 rfl (show _ = Value.bool false from (congrArg Value.bool (by first | rfl | decide)))
      refine g_yes hE rfl rfl ?_
      refine s_move hE rfl rfl ?_; clear hE a; intro a hE
      refine g_yes hE rfl rfl ?_
      refine s_len hE rfl Tryd.underlying22 (rd_slice (hM.get 1 rfl)) rfl ?_; clear hE a; intro a hE
      refine g_yes hE rfl rfl ?_
      refine s_bin hE rfl rfl bin_neq rfl ?_; clear hE a; intro a hE
      refine s_pickf hE rfl rfl rfl ?_; clear hE a; intro a hE
      refine s_move hE rfl rfl ?_; clear hE a; intro a hE
      replace hE := hE.cast 52 rfl (show _ = Value.bool false from (congrArg Value.bool (by simp)))
      refine g_yes hE rfl rfl ?_
      refine s_move hE rfl rfl ?_; clear hE a; intro a hE
      refine g_yes hE rfl rfl ?_
      refine s_len hE rfl Tryd.underlying22 (rd_slice (hM.get 0 rfl)) rfl ?_; clear hE a; intro a hE
      refine g_yes hE rfl rfl ?_
      refine s_bin hE rfl rfl bin_neq rfl ?_; clear hE a; intro a hE
      refine s_pickf hE rfl rfl rfl ?_; clear hE a; intro a hE
      refine q_nil ?_
      replace hE : Env a 84 [(0, _), (1, _), (4, _), (5, _), (6, _), (7, _), (9, _), (19, _), (56, _)] := hE.sel [0, 1, 4, 5, 6, 7, 9, 19, 56] rfl
      refine hK9 _ _ ?_
      replace hE := hE.cast 56 rfl (show _ = Value.bool false from (congrArg Value.bool (by simp)))
      refine wp_cond_false (hE.eval rfl) ?_
      refine wp_skip ?_
      refine hK8 _ _ ?_
      refine wp_seq_k (fun K10 hK10 => ?_)
      refine wp_seq_k (fun K11 hK11 => ?_)
      refine wp_plain [true] rfl rfl ?_
      refine s_assign hE rfl rfl ?_; clear hE a; intro a hE
      refine q_nil ?_
      refine hK11 _ _ ?_
      refine wp_block ?_
      replace hM : Mem _ _ w10 [_, _, _, _, _, _, _, _, _] := hM.pick [1, 0, 3, 2, 8, 4, 5, 6, 7] rfl
      replace hM : Mem _ _ w10 [_, _, _, _, _] := hM.pick [0, 1, 2, 3, 4] rfl
      refine c_loop (fun (i : Nat) a w' => i ≤ 32 ∧ Env a 84 [(5, .pointer (some ⟨b5, 0, none⟩)), (6, .pointer (some ⟨b6, 0, none⟩)), (7, vka), (9, vkb), (11, .int .i64 (i : Int))] ∧ Mem w [] w' [rd vka 1 (keyW pass salt 1 32).length 32 (bv (keyW pass salt 1 32)), rd vkb 1 (keyW pass salt 2 32).length 32 (bv (keyW pass salt 2 32)), blk b5 [bv (uW pass salt 1 0)] [32] 42, blk b6 [bv (uW pass salt 1 1)] [32] 42, glb 0]) (fun i => 32 - i) 0 ⟨Nat.zero_le _, hE.sel [5, 6, 7, 9, 11] rfl, hM⟩ ?_
      clear hE hM a; rintro i a w11 ⟨hi, hE, hM⟩
      refine wp_seq_k (fun K12 hK12 => ?_)
      refine wp_seq_k (fun K13 hK13 => ?_)
      refine wp_plain [true, true] rfl rfl ?_
      refine s_move hE rfl rfl ?_; clear hE a; intro a hE
      refine s_bin hE rfl rfl bin_lss rfl ?_; clear hE a; intro a hE
      refine q_nil ?_
      replace hE : Env a 84 [(5, _), (6, _), (7, _), (9, _), (11, _), (58, _)] := hE.sel [5, 6, 7, 9, 11, 58] rfl
      refine hK13 _ _ ?_
      refine hE.split 58 rfl (fun hb58 hE' => ?_) (fun hb58 hE' => ?_)
      · replace hE := hE'; clear hE'
        replace hb58 := of_decide_eq_true hb58
        replace hb58 : i < 32 := by omega
        refine wp_cond_true (hE.eval rfl) ?_
        refine wp_skip ?_
        refine hK12 _ _ ?_
        refine wp_seq_k (fun K14 hK14 => ?_)
        refine wp_block ?_
        refine wp_seq_k (fun K15 hK15 => ?_)
        refine wp_drawnM hM (by kernel_rfl) (fun _ => False) [(0, true), (1, true), (2, true), (3, true), (4, true), (5, true), (6, true), (7, true), (8, true), (9, true), (10, true), (11, true), (12, true), (13, true), (14, true), (15, true), (16, true), (17, true), (18, true), (19, true), (20, true), (21, true)] [] (by kernel_rfl) rfl ?_
        intro w12 hM' hww12; clear hM; have hM := hM'; clear hM'
        refine s_move hE rfl rfl ?_; clear hE a; intro a hE
        refine s_move hE rfl rfl ?_; clear hE a; intro a hE
        refine s_indexRd (j := i) hE rfl (hM.get 0 rfl) rfl slt22 (by first | rfl | omega) (by first | omega | (simp; omega) | decide) rfl ?_; clear hE a; intro a p63 hE hc63 hp63
        rw [bv_elem (by rw [keyW_length]; exact hb58)] at hc63
        refine s_loadAt1 hE rfl hc63 one5 (by intro X h; cases h; simp) rfl ?_; clear hE a; intro a hE
        refine s_move hE rfl rfl ?_; clear hE a; intro a hE
        refine s_indexArr (j := i) hE rfl rfl arr42 (by first | rfl | omega) (by first | omega | decide) rfl ?_; clear hE a; intro a hE
        refine s_loadIdx (j := i) hE rfl (by omega) (hM.get 2 rfl) (bv_get (by simpa using hb58)) one5 (by intro X h; cases h; simp) rfl ?_; clear hE a; intro a hE
        refine s_bin hE rfl rfl bin_neq rfl ?_; clear hE a; intro a hE
        refine s_move hE rfl rfl ?_; clear hE a; intro a hE
        replace hE := hE.cast 69 rfl (show _ = Value.bool false from (congrArg Value.bool (by rw [ka_get hb58]; simp)))
        refine g_yes hE rfl rfl ?_
        refine s_move hE rfl rfl ?_; clear hE a; intro a hE
        refine g_yes hE rfl rfl ?_
        refine s_move hE rfl rfl ?_; clear hE a; intro a hE
        refine g_yes hE rfl rfl ?_
        refine s_indexRd (j := i) hE rfl (hM.get 1 rfl) rfl slt22 (by first | rfl | omega) (by first | omega | (simp; omega) | decide) rfl ?_; clear hE a; intro a p72 hE hc72 hp72
        refine g_yes hE rfl rfl ?_
        rw [bv_elem (by rw [keyW_length]; exact hb58)] at hc72
        refine s_loadAt1 hE rfl hc72 one5 (by intro X h; cases h; simp) rfl ?_; clear hE a; intro a hE
        refine g_yes hE rfl rfl ?_
        refine s_move hE rfl rfl ?_; clear hE a; intro a hE
        refine g_yes hE rfl rfl ?_
        refine s_indexArr (j := i) hE rfl rfl arr42 (by first | rfl | omega) (by first | omega | decide) rfl ?_; clear hE a; intro a hE
        refine g_yes hE rfl rfl ?_
        refine s_loadIdx (j := i) hE rfl (by omega) (hM.get 2 rfl) (bv_get (by simpa using hb58)) one5 (by intro X h; cases h; simp) rfl ?_; clear hE a; intro a hE
        refine g_yes hE rfl rfl ?_
        refine s_move hE rfl rfl ?_; clear hE a; intro a hE
        refine g_yes hE rfl rfl ?_
        refine s_indexArr (j := i) hE rfl rfl arr42 (by first | rfl | omega) (by first | omega | decide) rfl ?_; clear hE a; intro a hE
        refine g_yes hE rfl rfl ?_
        refine s_loadIdx (j := i) hE rfl (by omega) (hM.get 3 rfl) (bv_get (by simpa using hb58)) one5 (by intro X h; cases h; simp) rfl ?_; clear hE a; intro a hE
        refine g_yes hE rfl rfl ?_
        refine s_bin hE rfl rfl bin_xor8 rfl ?_; clear hE a; intro a hE
        refine g_yes hE rfl rfl ?_
        refine s_bin hE rfl rfl bin_neq rfl ?_; clear hE a; intro a hE
        refine s_pickf hE rfl rfl rfl ?_; clear hE a; intro a hE
        refine q_nil ?_
        replace hE : Env a 84 [(5, _), (6, _), (7, _), (9, _), (11, _), (58, _), (82, _)] := hE.sel [5, 6, 7, 9, 11, 58, 82] rfl
        refine hK15 _ _ ?_
        replace hE := hE.cast 82 rfl (show _ = Value.bool false from (congrArg Value.bool (by rw [kb_get hb58]; simp)))
        refine wp_cond_false (hE.eval rfl) ?_
        refine wp_skip ?_
        refine q_block_n ?_
        refine hK14 _ _ ?_
        refine wp_plain [true, true, true] rfl rfl ?_
        refine s_move hE rfl rfl ?_; clear hE a; intro a hE
        refine s_bin hE rfl rfl (bin_add (wrap_i64 (by omega) (by omega))) rfl ?_; clear hE a; intro a hE
        refine s_assign hE rfl rfl ?_; clear hE a; intro a hE
        refine q_nil ?_
        replace hE : Env a 84 [(5, _), (6, _), (7, _), (9, _), (11, _), (58, _), (82, _)] := hE.sel [5, 6, 7, 9, 11, 58, 82] rfl
        replace hE := hE.cast 11 rfl (show _ = Value.int .i64 ((i + 1 : Nat) : Int) from congrArg _ (by omega))
        exact ⟨i + 1, ⟨by omega, hE.sel [5, 6, 7, 9, 11] rfl, hM⟩, by omega⟩
      · replace hE := hE'; clear hE'
        replace hb58 := of_decide_eq_false hb58
        replace hb58 : ¬ i < 32 := by omega
        refine wp_cond_false (hE.eval rfl) ?_
        refine wp_exit ?_
        refine q_then_e ?_
        refine q_then_e ?_
        refine q_block_x ?_
        refine hK10 _ _ ?_
        refine wp_seq_k (fun K14 hK14 => ?_)
        refine wp_plain [false, true] rfl rfl ?_
        refine s_call hE rfl Tryd.call15 (awake_c _ (hM.get 4 rfl)) rfl ?_
        rintro e w12 ⟨rfl, hN⟩
        refine ⟨_, rfl, trivial, ?_⟩; clear hE a; intro a hE
        replace hM : Mem _ _ w12 [_, _, _, _, _] := hM.call0 hN trivial; clear hN
        refine s_assign hE rfl rfl ?_; clear hE a; intro a hE
        refine q_nil ?_
        replace hE : Env a 84 [(4, _), (5, _), (6, _), (7, _), (9, _), (11, _), (58, _)] := hE.sel [4, 5, 6, 7, 9, 11, 58] rfl
        refine hK14 _ _ ?_
        refine wp_ret ?_
        refine f_ret1 hE rfl rfl ?_
        exact ⟨rfl, hM.nil⟩
set_option maxRecDepth 100000 in
theorem pbkdfRounds_lifted (os : Os) (started : os.Started) (H : Type) (enc : TypeId × Value → H) :
    ReturnsInHanded {} Tryd.checked os 7 .any (fun w args => (Rows.pbkdfRoundsSpec.pre enc Tryd.prog Tryd.f7 [] false w args ∧ laidMetH Tryd.prog Rows.pbkdfRoundsRow.laid w) ∧ sizedMet enc Tryd.prog Tryd.f7 (OpenSpec.ofChange Rows.pbkdfRoundsSpec) false w args) (Rows.pbkdfRoundsSpec.post enc Tryd.prog Tryd.f7 false true false false) := by
  refine law_liftedL (C := Tryd.checked) (fn := Tryd.f7) (l := Rows.pbkdfRoundsRow.laid) (by kernel_rfl) started (by kernel_rfl) Tryd.func7 rfl (fun ds hl => ?_) rfl Tryd.underlying4 (by kernel_rfl) (of_decide_eq_true (by kernel_rfl)) (by kernel_rfl)
    (ChangeSpec.witness_shaped (enc := enc) (C := Tryd.checked) (os := os) (X := fun w _ => laidMetH Tryd.prog Rows.pbkdfRoundsRow.laid w) false (World.laidAll Tryd.prog os Rows.pbkdfRoundsRow.laid) #[.slice none 0 0, .slice none 0 0] 8 (World.laidAll_os _ _ _) (World.shaped_of_ZipB (by kernel_rfl) (by kernel_rfl)) (by kernel_rfl) (by kernel_rfl) (by kernel_rfl) (by rw [MakeChecks.laidMetH_plain _ _ _ (by kernel_rfl)]; exact laidMet_laidAll _ (by kernel_rfl) (by kernel_rfl))) ?_
  · rw [Tryd.params7] at hl
    match ds, hl with
    | [_, _], _ => rfl
  · intro W base args ds ps hval hA hw hL
    have hG := glb_of_laid (P := Tryd.prog) (g := 0) (t := 98) (e := 74) (by kernel_rfl) (by kernel_rfl) Tryd.underlying98 Tryd.underlying74 (by kernel_rfl) (by kernel_rfl) (by kernel_rfl) (show laidMet Tryd.prog (_ :: _) W from hL)
    rw [Tryd.params7] at hA hval hw
    obtain ⟨v0, vs0, d0, ds0, p0, q0, hargs, rfl, rfl, h0, r0⟩ := trodAll_cons hA
    obtain ⟨v1, vs1, d1, ds1, p1, q1, rfl, rfl, rfl, h1, r1⟩ := trodAll_cons r0
    obtain ⟨rfl, rfl, rfl⟩ := trodAll_nil r1
    obtain rfl : args = #[v0, v1] := by cases args; simp_all
    obtain ⟨bs0, c0, hr0, hb0⟩ := arg_bytes Tryd.underlying22 Tryd.underlying5 (by kernel_rfl) (by kernel_rfl) (hval 0 22 v0 rfl rfl) h0 (fun m hm => hw m (by simp only [DataW.weightsEach, List.mem_append]; exact .inl hm))
    obtain ⟨bs1, c1, hr1, hb1⟩ := arg_bytes Tryd.underlying22 Tryd.underlying5 (by kernel_rfl) (by kernel_rfl) (hval 1 22 v1 rfl rfl) h1 (fun m hm => hw m (by simp only [DataW.weightsEach, List.mem_append]; exact .inr (.inl hm)))
    exact pbkdfRounds_c v0 v1 bs0 bs1 c0 c1 W hG hr0 hr1 hb0 hb1

/-- The row's statement. -/
theorem pbkdfRounds_row : Rows.PbkdfRoundsSaid :=
  OpenClaim.holds_of_wide 7 Tryd.f7 rfl rfl rfl rfl rfl rfl rfl ⟨rfl, rfl, rfl, rfl, rfl⟩ rfl rfl rfl rfl rfl (by kernel_rfl) Tryd.func7 (by kernel_rfl)
    (of_decide_eq_true (by kernel_rfl)) (by unfold Func.isWrapper; first | (rw [if_pos (by decide +kernel)]; kernel_rfl) | (rw [if_neg (by decide +kernel)]; exact ⟨rfl, rfl⟩))
    (fun os started H enc _ => pbkdfRounds_lifted os started H enc)

/-- The statement: the row, its listed variable tied to the program's text. -/
theorem pbkdfRounds_holds : Rows.PbkdfRoundsCardSaid :=
  Claim7.holds_tied_plain_at .later [] [.data] true (true, "6fc7720c1af2613af465590a04043e064699da455281c70e9b23793a063f4041") false
    pbkdfRounds_row (fun _ h => by cases h) (by kernel_rfl) (fun _ h => by cases h) pbkdfRounds_row_tie rfl ⟨rfl, rfl⟩ (by kernel_rfl) rfl
    (fun f fn hf hfn => by
      obtain rfl : f = 7 := Option.some.inj ((show Tryd.prog.funcNamed "casemate/casematelaw05.PbkdfRounds" = some 7 by kernel_rfl).symm.trans hf) |>.symm
      obtain rfl : fn = Tryd.f7 := (Option.some.inj (Tryd.func7.symm.trans hfn)).symm
      exact ⟨by kernel_rfl, fun j t ht => by
        rw [Tryd.params7] at ht
        have h : t ∈ [22, 22] := by
          rcases j with _ | _ | j
          · simp at ht; simp [ht]
          · simp at ht; simp [ht]
          · simp at ht
        simp only [List.mem_cons, List.not_mem_nil, or_false] at h
        rcases h with rfl | rfl
        · exact (show Tryd.prog.wantsStandIn 22 = false by kernel_rfl)
        · exact (show Tryd.prog.wantsStandIn 22 = false by kernel_rfl)⟩)
    (by kernel_rfl)
#print axioms pbkdfRounds_holds
end Go.Proofs.YthagednepehliaaDoor
