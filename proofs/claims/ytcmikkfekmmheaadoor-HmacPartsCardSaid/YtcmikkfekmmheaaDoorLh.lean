/- Walks of functions of the given program that the claim reaches. -/
import Derived.Test.YtcmikkfekmmheaaDoorLs
namespace Go.Proofs.YtcmikkfekmmheaaDoor
open Go Go.Kx
theorem zero46 : Zero Tryd.prog 46 [bv (List.replicate 64 0)] := ⟨.agg ([bv (List.replicate 64 0)] : List (List Value)).flatten.toArray, by kernel_rfl, by kernel_rfl⟩
theorem arr46 : arrT Tryd.prog 46 = some (64, 1) := by kernel_rfl
theorem row46 : RowT Tryd.prog 46 64 := RowT.of Tryd.underlying46 rfl (by kernel_rfl)
theorem sz46 : (Tryd.prog.info? 46).map (·.size) = some 64 := by kernel_rfl
theorem slt40 : slT Tryd.prog 40 = some 1 := by kernel_rfl
theorem one26 : OneT Tryd.prog 26 := OneT.of Tryd.underlying26 rfl (by kernel_rfl)
theorem sl40 : SlT Tryd.prog 40 26 1 24 := ⟨Tryd.underlying40, by kernel_rfl, by kernel_rfl, .slice none 0 0, by kernel_rfl, rfl⟩
theorem pad_c (v : Value) (key : List UInt8) (c : Nat) (x : UInt8) (w : World) (hG : (glb 0).holds w) (hr : (rd v 1 key.length c (bv key)).holds w) (hk : key.length ≤ 1099511627776) : Calls Tryd.prog 40 #[v, bV x] w fun e w' => e = .returned (.agg (bv (padW key x)).toArray) ∧ Mem w [] w' [] := by
  have hM := Mem.startR2 hr hG rfl rfl
  refine f_enter 28 Tryd.func40 rfl rfl rfl ?_
  intro a hE
  replace hE : Env a 28 [(0, _), (1, _)] := hE
  refine wp_seq_k (fun K1 hK1 => ?_)
  refine wp_plain [false] rfl rfl ?_
  refine s_alloc [64] hE hM zero46 rfl rfl ?_; clear hE a; intro a b4 w1 hE hM'
  clear hM; have hM := hM'; clear hM'
  refine q_nil ?_
  refine hK1 _ _ ?_
  refine wp_seq_k (fun K2 hK2 => ?_)
  refine wp_plain [false] rfl rfl ?_
  refine s_alloc [64] hE hM zero46 rfl rfl ?_; clear hE a; intro a b5 w2 hE hM'
  clear hM; have hM := hM'; clear hM'
  refine q_nil ?_
  refine hK2 _ _ ?_
  refine wp_seq_k (fun K3 hK3 => ?_)
  refine wp_seq_k (fun K4 hK4 => ?_)
  refine wp_plain [true, true, true] rfl rfl ?_
  refine s_move hE rfl rfl ?_; clear hE a; intro a hE
  refine s_len hE rfl Tryd.underlying26 (rd_slice (hM.get 2 rfl)) rfl ?_; clear hE a; intro a hE
  refine s_bin hE rfl rfl bin_gtr rfl ?_; clear hE a; intro a hE
  refine q_nil ?_
  replace hE : Env a 28 [(0, _), (1, _), (4, _), (5, _), (10, _)] := hE.sel [0, 1, 4, 5, 10] rfl
  refine hK4 _ _ ?_
  refine hE.split 10 rfl (fun hb10 hE' => ?_) (fun hb10 hE' => ?_)
  · replace hE := hE'; clear hE'
    replace hb10 := of_decide_eq_true hb10
    replace hb10 : 64 < key.length := by omega
    refine wp_cond_true (hE.eval rfl) ?_
    refine wp_seq_k (fun K5 hK5 => ?_)
    refine wp_plain [true, false, false, false] rfl rfl ?_
    refine s_move hE rfl rfl ?_; clear hE a; intro a hE
    refine s_call hE rfl Tryd.call20 (sha_c v key c _ (hM.get 3 rfl) (hM.get 2 rfl) hk) rfl ?_
    rintro e w3 ⟨rfl, hN⟩
    refine ⟨_, rfl, trivial, ?_⟩; clear hE a; intro a hE
    replace hM : Mem _ _ w3 [_, _, _, _] := hM.call0 hN trivial; clear hN
    refine s_alloc [32] hE hM zero23 rfl rfl ?_; clear hE a; intro a b6 w4 hE hM'
    clear hM; have hM := hM'; clear hM'
    refine s_storeSeg 0 hE rfl rfl hM rfl sz23 (by simp) (bv_one _) rfl (by simp) rfl (by intro X h; cases h) ?_; intro w5 hM'; clear hM; have hM := hM'; clear hM'
    simp only [List.set_cons_zero, List.set_cons_succ] at hM
    refine q_nil ?_
    replace hE : Env a 28 [(0, _), (1, _), (4, _), (5, _), (6, _), (10, _)] := hE.sel [0, 1, 4, 5, 6, 10] rfl
    refine hK5 _ _ ?_
    refine wp_plain [true, true] rfl rfl ?_
    refine s_sliceArr (l := 0) (h := 32) (mx' := 32) hE rfl arr23 rfl rfl rfl (by simp) (by omega) (by omega) (by omega) rfl ?_; clear hE a; intro a hE
    replace hE := hE.cast 13 rfl (show _ = Value.slice (some ⟨b6, 0, none⟩) 32 32 from rfl)
    refine s_assign hE rfl rfl ?_; clear hE a; intro a hE
    refine q_nil ?_
    replace hE : Env a 28 [(0, _), (1, _), (4, _), (5, _), (6, _), (10, _)] := hE.sel [0, 1, 4, 5, 6, 10] rfl
    refine hK3 _ _ ?_
    refine wp_seq_k (fun K6 hK6 => ?_)
    refine wp_plain [true, true, false] rfl rfl ?_
    refine s_sliceArr (l := 0) (h := 64) (mx' := 64) hE rfl arr46 rfl rfl rfl (by simp) (by omega) (by omega) (by omega) rfl ?_; clear hE a; intro a hE
    replace hE := hE.cast 14 rfl (show _ = Value.slice (some ⟨b5, 0, none⟩) 64 64 from rfl)
    refine s_move hE rfl rfl ?_; clear hE a; intro a hE
    replace hM : Mem _ _ w5 [_, _, _, _, _] := hM.pick [1, 0, 2, 3, 4] rfl
    refine s_copyArr (l := 64) hE rfl rfl hM (rd_of_arr (hM.get 1 rfl) (by simp)) (bv_one _) sl26 (by intro X h; cases h) rfl ?_; clear hE a; intro a w6 hE hM'; clear hM; have hM := hM'; clear hM'
    rw [show (bv (shaW key)).take (min (shaW key).length 64) ++ (bv (List.replicate 64 0)).drop (min (shaW key).length 64) = bv (padI (blockW key) x 0) from by rw [bv_take, bv_drop, ← bv_append]; unfold blockW; rw [if_pos hb10]; simp [padI, List.take_of_length_le]] at hM
    refine q_nil ?_
    replace hE : Env a 28 [(0, _), (1, _), (4, _), (5, _), (6, _), (10, _)] := hE.sel [0, 1, 4, 5, 6, 10] rfl
    refine hK6 _ _ ?_
    refine wp_seq_k (fun K7 hK7 => ?_)
    refine wp_seq_k (fun K8 hK8 => ?_)
    refine wp_plain [true] rfl rfl ?_
    refine s_move hE rfl rfl ?_; clear hE a; intro a hE
    refine q_nil ?_
    refine hK8 _ _ ?_
    refine wp_block ?_
    replace hM : Mem _ _ w6 [_, _, _, _, _] := hM.pick [0, 2, 1, 3, 4] rfl
    replace hM : Mem _ _ w6 [_, _] := hM.pick [0, 1] rfl
    refine c_loop (fun (i : Nat) a w' => i ≤ 64 ∧ Env a 28 [(1, bV x), (4, .pointer (some ⟨b4, 0, none⟩)), (5, .pointer (some ⟨b5, 0, none⟩)), (17, .int .i64 (i : Int))] ∧ Mem w [] w' [blk b5 [bv (padI (blockW key) x i)] [64] 46, blk b4 [bv (List.replicate 64 0)] [64] 46]) (fun i => 64 - i) 0 ⟨Nat.zero_le _, hE.sel [1, 4, 5, 17] rfl, hM⟩ ?_
    clear hE hM a; rintro i a w7 ⟨hi, hE, hM⟩
    refine wp_seq_k (fun K9 hK9 => ?_)
    refine wp_plain [true] rfl rfl ?_
    refine s_bin hE rfl rfl bin_lss rfl ?_; clear hE a; intro a hE
    refine q_nil ?_
    refine hK9 _ _ ?_
    refine wp_seq_k (fun K10 hK10 => ?_)
    refine hE.split 18 rfl (fun hb18 hE' => ?_) (fun hb18 hE' => ?_)
    · replace hE := hE'; clear hE'
      replace hb18 := of_decide_eq_true hb18
      replace hb18 : i < 64 := by omega
      refine wp_cond_true (hE.eval rfl) ?_
      refine wp_skip ?_
      refine hK10 _ _ ?_
      refine wp_seq_k (fun K11 hK11 => ?_)
      refine wp_block ?_
      refine wp_seq_k (fun K12 hK12 => ?_)
      refine wp_plain [true, true] rfl rfl ?_
      refine s_move hE rfl rfl ?_; clear hE a; intro a hE
      refine s_assign hE rfl rfl ?_; clear hE a; intro a hE
      refine q_nil ?_
      replace hE : Env a 28 [(1, _), (4, _), (5, _), (7, _), (17, _), (18, _)] := hE.sel [1, 4, 5, 7, 17, 18] rfl
      refine hK12 _ _ ?_
      refine wp_plain [true, true, true, true, true, true, false] rfl rfl ?_
      refine s_move hE rfl rfl ?_; clear hE a; intro a hE
      refine s_indexArr (j := i) hE rfl rfl arr46 (by first | rfl | omega) (by first | omega | decide) rfl ?_; clear hE a; intro a hE
      refine s_loadIdx (j := i) hE rfl (by omega) (hM.get 0 rfl) (bv_get (by simp only [bv_length, padI_length, blockW_length]; exact hb18)) one5 (by intro X h; cases h) rfl ?_; clear hE a; intro a hE
      refine s_move hE rfl rfl ?_; clear hE a; intro a hE
      refine s_bin hE rfl rfl bin_xor8 rfl ?_; clear hE a; intro a hE
      refine s_indexArr (j := i) hE rfl rfl arr46 (by first | rfl | omega) (by first | omega | decide) rfl ?_; clear hE a; intro a hE
      refine s_storeIdx (j := i) hE rfl (by omega) rfl hM rfl rfl sz5 (by simp only [bv_length, padI_length, blockW_length]; exact hb18) (by intro X h; cases h) ?_; intro w8 hM'; clear hM; have hM := hM'; clear hM'
      first | rw [bv_set'] at hM | rw [bv_setI] at hM
      refine q_nil ?_
      replace hE : Env a 28 [(1, _), (4, _), (5, _), (7, _), (17, _), (18, _)] := hE.sel [1, 4, 5, 7, 17, 18] rfl
      refine q_block_n ?_
      refine hK11 _ _ ?_
      refine wp_plain [true, true] rfl rfl ?_
      refine s_bin hE rfl rfl (bin_add (wrap_i64 (by omega) (by omega))) rfl ?_; clear hE a; intro a hE
      refine s_move hE rfl rfl ?_; clear hE a; intro a hE
      refine q_nil ?_
      replace hE : Env a 28 [(1, _), (4, _), (5, _), (7, _), (17, _), (18, _)] := hE.sel [1, 4, 5, 7, 17, 18] rfl
      replace hE := hE.cast 17 rfl (show _ = Value.int .i64 ((i + 1 : Nat) : Int) from congrArg _ (by omega))
      rw [padI_get (by rw [blockW_length]; exact hb18), padI_set (by rw [blockW_length]; exact hb18)] at hM
      exact ⟨i + 1, ⟨by omega, hE.sel [1, 4, 5, 17] rfl, hM⟩, by omega⟩
    · replace hE := hE'; clear hE'
      replace hb18 := of_decide_eq_false hb18
      replace hb18 : ¬ i < 64 := by omega
      obtain rfl : i = 64 := by omega
      refine wp_cond_false (hE.eval rfl) ?_
      refine wp_exit ?_
      refine q_then_e ?_
      refine q_then_e ?_
      refine q_block_x ?_
      refine hK7 _ _ ?_
      refine wp_seq_k (fun K11 hK11 => ?_)
      refine wp_plain [true, false] rfl rfl ?_
      refine s_loadN hE rfl (hM.get 0 rfl) row46 rfl (by intro X h; cases h) rfl ?_; clear hE a; intro a hE
      replace hM : Mem _ _ w7 [_, _] := hM.pick [1, 0] rfl
      refine s_storeSeg 0 hE rfl rfl hM rfl sz46 (by simp [padI_length, blockW_length]) (bv_one _) rfl (by simp) rfl (by intro X h; cases h) ?_; intro w8 hM'; clear hM; have hM := hM'; clear hM'
      simp only [List.set_cons_zero, List.set_cons_succ] at hM
      refine q_nil ?_
      replace hE : Env a 28 [(1, _), (4, _), (5, _), (17, _), (18, _)] := hE.sel [1, 4, 5, 17, 18] rfl
      refine hK11 _ _ ?_
      refine wp_ret ?_
      refine f_ret1 hE rfl (res_cellN rfl (hM.get 0 rfl) row46 rfl) ?_
      exact ⟨by rw [padI_all], hM.nil⟩
  · replace hE := hE'; clear hE'
    replace hb10 := of_decide_eq_false hb10
    replace hb10 : ¬ 64 < key.length := by omega
    refine wp_cond_false (hE.eval rfl) ?_
    refine wp_skip ?_
    refine hK3 _ _ ?_
    refine wp_seq_k (fun K5 hK5 => ?_)
    refine wp_plain [true, true, false] rfl rfl ?_
    refine s_sliceArr (l := 0) (h := 64) (mx' := 64) hE rfl arr46 rfl rfl rfl (by simp) (by omega) (by omega) (by omega) rfl ?_; clear hE a; intro a hE
    replace hE := hE.cast 14 rfl (show _ = Value.slice (some ⟨b5, 0, none⟩) 64 64 from rfl)
    refine s_move hE rfl rfl ?_; clear hE a; intro a hE
    refine s_copyArr (l := 64) hE rfl rfl hM (hM.get 2 rfl) (bv_one _) sl26 (by intro X h; cases h) rfl ?_; clear hE a; intro a w3 hE hM'; clear hM; have hM := hM'; clear hM'
    rw [show (bv (key)).take (min key.length 64) ++ (bv (List.replicate 64 0)).drop (min key.length 64) = bv (padI (blockW key) x 0) from by rw [bv_take, bv_drop, ← bv_append]; unfold blockW; rw [if_neg hb10, Nat.min_eq_left (by omega)]; simp only [padI, List.take_length, List.drop_replicate, List.take_zero, List.map_nil, List.nil_append, List.drop_zero]] at hM
    refine q_nil ?_
    replace hE : Env a 28 [(0, _), (1, _), (4, _), (5, _), (10, _)] := hE.sel [0, 1, 4, 5, 10] rfl
    refine hK5 _ _ ?_
    refine wp_seq_k (fun K6 hK6 => ?_)
    refine wp_seq_k (fun K7 hK7 => ?_)
    refine wp_plain [true] rfl rfl ?_
    refine s_move hE rfl rfl ?_; clear hE a; intro a hE
    refine q_nil ?_
    refine hK7 _ _ ?_
    refine wp_block ?_
    replace hM : Mem _ _ w3 [_, _] := hM.pick [0, 1] rfl
    refine c_loop (fun (i : Nat) a w' => i ≤ 64 ∧ Env a 28 [(1, bV x), (4, .pointer (some ⟨b4, 0, none⟩)), (5, .pointer (some ⟨b5, 0, none⟩)), (17, .int .i64 (i : Int))] ∧ Mem w [] w' [blk b5 [bv (padI (blockW key) x i)] [64] 46, blk b4 [bv (List.replicate 64 0)] [64] 46]) (fun i => 64 - i) 0 ⟨Nat.zero_le _, hE.sel [1, 4, 5, 17] rfl, hM⟩ ?_
    clear hE hM a; rintro i a w4 ⟨hi, hE, hM⟩
    refine wp_seq_k (fun K8 hK8 => ?_)
    refine wp_plain [true] rfl rfl ?_
    refine s_bin hE rfl rfl bin_lss rfl ?_; clear hE a; intro a hE
    refine q_nil ?_
    refine hK8 _ _ ?_
    refine wp_seq_k (fun K9 hK9 => ?_)
    refine hE.split 18 rfl (fun hb18 hE' => ?_) (fun hb18 hE' => ?_)
    · replace hE := hE'; clear hE'
      replace hb18 := of_decide_eq_true hb18
      replace hb18 : i < 64 := by omega
      refine wp_cond_true (hE.eval rfl) ?_
      refine wp_skip ?_
      refine hK9 _ _ ?_
      refine wp_seq_k (fun K10 hK10 => ?_)
      refine wp_block ?_
      refine wp_seq_k (fun K11 hK11 => ?_)
      refine wp_plain [true, true] rfl rfl ?_
      refine s_move hE rfl rfl ?_; clear hE a; intro a hE
      refine s_assign hE rfl rfl ?_; clear hE a; intro a hE
      refine q_nil ?_
      replace hE : Env a 28 [(1, _), (4, _), (5, _), (7, _), (17, _), (18, _)] := hE.sel [1, 4, 5, 7, 17, 18] rfl
      refine hK11 _ _ ?_
      refine wp_plain [true, true, true, true, true, true, false] rfl rfl ?_
      refine s_move hE rfl rfl ?_; clear hE a; intro a hE
      refine s_indexArr (j := i) hE rfl rfl arr46 (by first | rfl | omega) (by first | omega | decide) rfl ?_; clear hE a; intro a hE
      refine s_loadIdx (j := i) hE rfl (by omega) (hM.get 0 rfl) (bv_get (by simp only [bv_length, padI_length, blockW_length]; exact hb18)) one5 (by intro X h; cases h) rfl ?_; clear hE a; intro a hE
      refine s_move hE rfl rfl ?_; clear hE a; intro a hE
      refine s_bin hE rfl rfl bin_xor8 rfl ?_; clear hE a; intro a hE
      refine s_indexArr (j := i) hE rfl rfl arr46 (by first | rfl | omega) (by first | omega | decide) rfl ?_; clear hE a; intro a hE
      refine s_storeIdx (j := i) hE rfl (by omega) rfl hM rfl rfl sz5 (by simp only [bv_length, padI_length, blockW_length]; exact hb18) (by intro X h; cases h) ?_; intro w5 hM'; clear hM; have hM := hM'; clear hM'
      first | rw [bv_set'] at hM | rw [bv_setI] at hM
      refine q_nil ?_
      replace hE : Env a 28 [(1, _), (4, _), (5, _), (7, _), (17, _), (18, _)] := hE.sel [1, 4, 5, 7, 17, 18] rfl
      refine q_block_n ?_
      refine hK10 _ _ ?_
      refine wp_plain [true, true] rfl rfl ?_
      refine s_bin hE rfl rfl (bin_add (wrap_i64 (by omega) (by omega))) rfl ?_; clear hE a; intro a hE
      refine s_move hE rfl rfl ?_; clear hE a; intro a hE
      refine q_nil ?_
      replace hE : Env a 28 [(1, _), (4, _), (5, _), (7, _), (17, _), (18, _)] := hE.sel [1, 4, 5, 7, 17, 18] rfl
      replace hE := hE.cast 17 rfl (show _ = Value.int .i64 ((i + 1 : Nat) : Int) from congrArg _ (by omega))
      rw [padI_get (by rw [blockW_length]; exact hb18), padI_set (by rw [blockW_length]; exact hb18)] at hM
      exact ⟨i + 1, ⟨by omega, hE.sel [1, 4, 5, 17] rfl, hM⟩, by omega⟩
    · replace hE := hE'; clear hE'
      replace hb18 := of_decide_eq_false hb18
      replace hb18 : ¬ i < 64 := by omega
      obtain rfl : i = 64 := by omega
      refine wp_cond_false (hE.eval rfl) ?_
      refine wp_exit ?_
      refine q_then_e ?_
      refine q_then_e ?_
      refine q_block_x ?_
      refine hK6 _ _ ?_
      refine wp_seq_k (fun K10 hK10 => ?_)
      refine wp_plain [true, false] rfl rfl ?_
      refine s_loadN hE rfl (hM.get 0 rfl) row46 rfl (by intro X h; cases h) rfl ?_; clear hE a; intro a hE
      replace hM : Mem _ _ w4 [_, _] := hM.pick [1, 0] rfl
      refine s_storeSeg 0 hE rfl rfl hM rfl sz46 (by simp [padI_length, blockW_length]) (bv_one _) rfl (by simp) rfl (by intro X h; cases h) ?_; intro w5 hM'; clear hM; have hM := hM'; clear hM'
      simp only [List.set_cons_zero, List.set_cons_succ] at hM
      refine q_nil ?_
      replace hE : Env a 28 [(1, _), (4, _), (5, _), (17, _), (18, _)] := hE.sel [1, 4, 5, 17, 18] rfl
      refine hK10 _ _ ?_
      refine wp_ret ?_
      refine f_ret1 hE rfl (res_cellN rfl (hM.get 0 rfl) row46 rfl) ?_
      exact ⟨by rw [padI_all], hM.nil⟩
theorem same_c (x y : List UInt8) (w : World) (hx : x.length = 32) (hy : y.length = 32) : Calls Tryd.prog 16 #[.agg (bv x).toArray, .agg (bv y).toArray] w fun e w' => e = .returned (.bool (decide (x = y))) ∧ Mem w [] w' [] := by
  have hM := Mem.start0 w
  refine f_enter 22 Tryd.func16 rfl rfl rfl ?_
  intro a hE
  replace hE : Env a 22 [(0, _), (1, _)] := hE
  refine wp_seq_k (fun K1 hK1 => ?_)
  refine wp_plain [false, false, true] rfl rfl ?_
  refine s_box (ss := [bv x]) [32] hE hM rfl (by simp [Value.cells]) (by simp [hx, hy]) rfl ?_; clear hE a; intro a b2 w1 hE hM'
  clear hM; have hM := hM'; clear hM'
  refine s_box (ss := [bv y]) [32] hE hM rfl (by simp [Value.cells]) (by simp [hx, hy]) rfl ?_; clear hE a; intro a b3 w2 hE hM'
  clear hM; have hM := hM'; clear hM'
  refine s_assign hE rfl rfl ?_; clear hE a; intro a hE
  refine q_nil ?_
  replace hE : Env a 22 [(2, _), (3, _), (4, _)] := hE.sel [2, 3, 4] rfl
  refine hK1 _ _ ?_
  refine wp_seq_k (fun K2 hK2 => ?_)
  refine wp_plain [true] rfl rfl ?_
  refine s_assign hE rfl rfl ?_; clear hE a; intro a hE
  refine q_nil ?_
  refine hK2 _ _ ?_
  refine wp_seq_k (fun K3 hK3 => ?_)
  refine wp_seq_k (fun K4 hK4 => ?_)
  refine wp_plain [true] rfl rfl ?_
  refine s_move hE rfl rfl ?_; clear hE a; intro a hE
  refine q_nil ?_
  refine hK4 _ _ ?_
  refine wp_block ?_
  replace hM : Mem _ _ w2 [_, _] := hM.pick [1, 0] rfl
  refine c_loop (fun (i : Nat) a w' => i ≤ 32 ∧ Env a 22 [(2, .pointer (some ⟨b2, 0, none⟩)), (3, .pointer (some ⟨b3, 0, none⟩)), (5, bV (diffW x y i)), (7, .int .i64 (i : Int))] ∧ Mem w [] w' [blk b2 [bv x] [32] 23, blk b3 [bv y] [32] 23]) (fun i => 32 - i) 0 ⟨Nat.zero_le _, hE.sel [2, 3, 5, 7] rfl, hM⟩ ?_
  clear hE hM a; rintro i a w3 ⟨hi, hE, hM⟩
  refine wp_seq_k (fun K5 hK5 => ?_)
  refine wp_plain [true] rfl rfl ?_
  refine s_bin hE rfl rfl bin_lss rfl ?_; clear hE a; intro a hE
  refine q_nil ?_
  refine hK5 _ _ ?_
  refine wp_seq_k (fun K6 hK6 => ?_)
  refine hE.split 8 rfl (fun hb8 hE' => ?_) (fun hb8 hE' => ?_)
  · replace hE := hE'; clear hE'
    replace hb8 := of_decide_eq_true hb8
    replace hb8 : i < 32 := by omega
    refine wp_cond_true (hE.eval rfl) ?_
    refine wp_skip ?_
    refine hK6 _ _ ?_
    refine wp_seq_k (fun K7 hK7 => ?_)
    refine wp_block ?_
    refine wp_seq_k (fun K8 hK8 => ?_)
    refine wp_plain [true, true] rfl rfl ?_
    refine s_move hE rfl rfl ?_; clear hE a; intro a hE
    refine s_assign hE rfl rfl ?_; clear hE a; intro a hE
    refine q_nil ?_
    replace hE : Env a 22 [(2, _), (3, _), (5, _), (6, _), (7, _), (8, _)] := hE.sel [2, 3, 5, 6, 7, 8] rfl
    refine hK8 _ _ ?_
    refine wp_drawnM hM (by kernel_rfl) (fun _ => False) [(0, true), (1, true), (2, true), (3, true), (4, true), (5, true), (6, true), (7, true), (8, true), (9, true)] [] (by kernel_rfl) rfl ?_
    intro w4 hM' hww4; clear hM; have hM := hM'; clear hM'
    refine s_move hE rfl rfl ?_; clear hE a; intro a hE
    refine s_move hE rfl rfl ?_; clear hE a; intro a hE
    refine s_indexArr (j := i) hE rfl rfl arr23 (by first | rfl | omega) (by first | omega | decide) rfl ?_; clear hE a; intro a hE
    refine s_loadIdx (j := i) hE rfl (by omega) (hM.get 0 rfl) (bv_get (by omega)) one5 (by intro X h; cases h; simp) rfl ?_; clear hE a; intro a hE
    refine s_move hE rfl rfl ?_; clear hE a; intro a hE
    refine s_indexArr (j := i) hE rfl rfl arr23 (by first | rfl | omega) (by first | omega | decide) rfl ?_; clear hE a; intro a hE
    refine s_loadIdx (j := i) hE rfl (by omega) (hM.get 1 rfl) (bv_get (by omega)) one5 (by intro X h; cases h; simp) rfl ?_; clear hE a; intro a hE
    refine s_bin hE rfl rfl bin_xor8 rfl ?_; clear hE a; intro a hE
    refine s_bin hE rfl rfl bin_or8 rfl ?_; clear hE a; intro a hE
    refine s_assign hE rfl rfl ?_; clear hE a; intro a hE
    refine q_nil ?_
    replace hE : Env a 22 [(2, _), (3, _), (5, _), (6, _), (7, _), (8, _)] := hE.sel [2, 3, 5, 6, 7, 8] rfl
    refine q_block_n ?_
    refine hK7 _ _ ?_
    refine wp_plain [true, true] rfl rfl ?_
    refine s_bin hE rfl rfl (bin_add (wrap_i64 (by omega) (by omega))) rfl ?_; clear hE a; intro a hE
    refine s_move hE rfl rfl ?_; clear hE a; intro a hE
    refine q_nil ?_
    replace hE : Env a 22 [(2, _), (3, _), (5, _), (6, _), (7, _), (8, _)] := hE.sel [2, 3, 5, 6, 7, 8] rfl
    replace hE := hE.cast 7 rfl (show _ = Value.int .i64 ((i + 1 : Nat) : Int) from congrArg _ (by omega))
    exact ⟨i + 1, ⟨by omega, hE.sel [2, 3, 5, 7] rfl, hM⟩, by omega⟩
  · replace hE := hE'; clear hE'
    replace hb8 := of_decide_eq_false hb8
    replace hb8 : ¬ i < 32 := by omega
    obtain rfl : i = 32 := by omega
    refine wp_cond_false (hE.eval rfl) ?_
    refine wp_exit ?_
    refine q_then_e ?_
    refine q_then_e ?_
    refine q_block_x ?_
    refine hK3 _ _ ?_
    refine wp_seq_k (fun K7 hK7 => ?_)
    refine wp_plain [true, true, true] rfl rfl ?_
    refine s_move hE rfl rfl ?_; clear hE a; intro a hE
    refine s_bin hE rfl rfl bin_eql rfl ?_; clear hE a; intro a hE
    refine s_assign hE rfl rfl ?_; clear hE a; intro a hE
    refine q_nil ?_
    replace hE : Env a 22 [(2, _), (3, _), (4, _), (5, _), (7, _), (8, _)] := hE.sel [2, 3, 4, 5, 7, 8] rfl
    refine hK7 _ _ ?_
    refine wp_ret ?_
    refine f_ret1 hE rfl rfl ?_
    refine ⟨?_, hM.nil⟩
    refine congrArg _ (congrArg Value.bool (decide_eq_decide.2 ?_))
    rw [← getD_all_eq (by omega), hx, ← diffW_zero 32, ← UInt8.toNat_inj]
    simp
theorem parts_c (v u : Value) (key : List UInt8) (ps : List (List UInt8)) (us : List Value) (bb : List Nat) (c cu : Nat) (w : World) (hG : (glb 0).holds w) (hr : (rd v 1 key.length c (bv key)).holds w) (hu : (rd u 1 ps.length cu us).holds w) (hp : (rdv bb us ps).holds w) (hk : key.length ≤ 1099511627776) (hf : ps.flatten.length ≤ 549755813888) (hpl : ps.length ≤ 140737488355328) : Calls Tryd.prog 21 #[v, u] w fun e w' => e = .returned (.agg (bv (hmacW key ps.flatten)).toArray) ∧ Mem w [] w' [] := by
  have hM : Mem w [] w [rd v 1 key.length c (bv key), rd u 1 ps.length cu us, rdv bb us ps, glb 0] := Mem.startR w (fun g hg => by
    simp only [List.mem_cons, List.not_mem_nil, or_false] at hg
    rcases hg with rfl | rfl | rfl | rfl
    · exact ⟨hr, rfl⟩
    · exact ⟨hu, rfl⟩
    · exact ⟨hp, rfl⟩
    · exact ⟨hG, rfl⟩)
  have hul : us.length = ps.length := hp.2.1
  refine f_enter 32 Tryd.func21 rfl rfl rfl ?_
  intro a hE
  replace hE : Env a 32 [(0, _), (1, _)] := hE
  refine wp_seq_k (fun K1 hK1 => ?_)
  refine wp_plain [false] rfl rfl ?_
  refine s_alloc [32] hE hM zero23 rfl rfl ?_; clear hE a; intro a b4 w1 hE hM'
  clear hM; have hM := hM'; clear hM'
  refine q_nil ?_
  refine hK1 _ _ ?_
  refine wp_seq_k (fun K2 hK2 => ?_)
  refine wp_plain [true, false, true, false, false, false, false, false] rfl rfl ?_
  refine s_move hE rfl rfl ?_; clear hE a; intro a hE
  refine s_call hE rfl Tryd.call40 (pad_c v key c 54 _ (hM.get 4 rfl) (hM.get 1 rfl) hk) rfl ?_
  rintro e w2 ⟨rfl, hN⟩
  refine ⟨_, rfl, trivial, ?_⟩; clear hE a; intro a hE
  replace hM : Mem _ _ w2 [_, _, _, _, _] := hM.call0 hN trivial; clear hN
  refine s_move hE rfl rfl ?_; clear hE a; intro a hE
  refine s_call hE rfl Tryd.call40 (pad_c v key c 92 _ (hM.get 4 rfl) (hM.get 1 rfl) hk) rfl ?_
  rintro e w3 ⟨rfl, hN⟩
  refine ⟨_, rfl, trivial, ?_⟩; clear hE a; intro a hE
  replace hM : Mem _ _ w3 [_, _, _, _, _] := hM.call0 hN trivial; clear hN
  refine s_alloc [64] hE hM zero46 rfl rfl ?_; clear hE a; intro a b5 w4 hE hM'
  clear hM; have hM := hM'; clear hM'
  refine s_alloc [64] hE hM zero46 rfl rfl ?_; clear hE a; intro a b6 w5 hE hM'
  clear hM; have hM := hM'; clear hM'
  replace hM : Mem _ _ w5 [_, _, _, _, _, _, _] := hM.pick [1, 0, 2, 3, 4, 5, 6] rfl
  refine s_storeSeg 0 hE rfl rfl hM rfl sz46 (by simp) (bv_one _) rfl (by simp) rfl (by intro X h; cases h) ?_; intro w6 hM'; clear hM; have hM := hM'; clear hM'
  simp only [List.set_cons_zero, List.set_cons_succ] at hM
  replace hM : Mem _ _ w6 [_, _, _, _, _, _, _] := hM.pick [1, 0, 2, 3, 4, 5, 6] rfl
  refine s_storeSeg 0 hE rfl rfl hM rfl sz46 (by simp) (bv_one _) rfl (by simp) rfl (by intro X h; cases h) ?_; intro w7 hM'; clear hM; have hM := hM'; clear hM'
  simp only [List.set_cons_zero, List.set_cons_succ] at hM
  refine q_nil ?_
  replace hE : Env a 32 [(1, _), (4, _), (5, _), (6, _)] := hE.sel [1, 4, 5, 6] rfl
  refine hK2 _ _ ?_
  refine wp_seq_k (fun K3 hK3 => ?_)
  refine wp_plain [true, true] rfl rfl ?_
  refine s_sliceArr (l := 0) (h := 64) (mx' := 64) hE rfl arr46 rfl rfl rfl (by simp) (by omega) (by omega) (by omega) rfl ?_; clear hE a; intro a hE
  replace hE := hE.cast 15 rfl (show _ = Value.slice (some ⟨b5, 0, none⟩) 64 64 from rfl)
  replace hM : Mem _ _ w7 [_, _, _, _, _, _, _] := hM.pick [1, 0, 2, 3, 4, 5, 6] rfl
  replace hM := hM.blkOwn (k := 64) (es := 1) rfl (by decide)
  refine s_assign hE rfl rfl ?_; clear hE a; intro a hE
  refine q_nil ?_
  replace hE : Env a 32 [(1, _), (4, _), (5, _), (6, _), (7, _)] := hE.sel [1, 4, 5, 6, 7] rfl
  refine hK3 _ _ ?_
  refine wp_seq_k (fun K4 hK4 => ?_)
  refine wp_seq_k (fun K5 hK5 => ?_)
  refine wp_plain [true, true, true] rfl rfl ?_
  refine s_move hE rfl rfl ?_; clear hE a; intro a hE
  refine s_len hE rfl Tryd.underlying40 (rd_slice (hM.get 4 rfl)) rfl ?_; clear hE a; intro a hE
  refine s_move hE rfl rfl ?_; clear hE a; intro a hE
  refine q_nil ?_
  replace hE : Env a 32 [(4, _), (5, _), (6, _), (7, _), (16, _), (17, _), (18, _)] := hE.sel [4, 5, 6, 7, 16, 17, 18] rfl
  refine hK5 _ _ ?_
  refine wp_block ?_
  replace hM : Mem _ _ w7 [_, _, _, _, _, _, _] := hM.pick [0, 1, 2, 4, 5, 6, 3] rfl
  replace hM : Mem _ _ w7 [_, _, _, _, _, _] := hM.pick [0, 1, 2, 3, 4, 5] rfl
  refine c_loop (fun (i : Nat) a w' => i ≤ ps.length ∧ ∃ vo, Env a 32 [(4, .pointer (some ⟨b4, 0, none⟩)), (6, .pointer (some ⟨b6, 0, none⟩)), (7, vo), (16, u), (17, .int .i64 ps.length), (18, .int .i64 (i : Int))] ∧ Mem w [] w' [own vo 1 (padW key 54 ++ (ps.take i).flatten).length (bv (padW key 54 ++ (ps.take i).flatten)), blk b6 [bv (padW key 92)] [64] 46, blk b4 [bv (List.replicate 32 0)] [32] 23, rd u 1 ps.length cu us, rdv bb us ps, glb 0]) (fun i => ps.length - i) 0 ⟨Nat.zero_le _, _, hE.sel [4, 6, 7, 16, 17, 18] rfl, by simpa using hM⟩ ?_
  clear hE hM a; rintro i a w8 ⟨hi, vo, hE, hM⟩
  refine wp_seq_k (fun K6 hK6 => ?_)
  refine wp_plain [true] rfl rfl ?_
  refine s_bin hE rfl rfl bin_lss rfl ?_; clear hE a; intro a hE
  refine q_nil ?_
  refine hK6 _ _ ?_
  refine wp_seq_k (fun K7 hK7 => ?_)
  refine hE.split 19 rfl (fun hb19 hE' => ?_) (fun hb19 hE' => ?_)
  · replace hE := hE'; clear hE'
    replace hb19 := of_decide_eq_true hb19
    replace hb19 : i < ps.length := by omega
    refine wp_cond_true (hE.eval rfl) ?_
    refine wp_skip ?_
    refine hK7 _ _ ?_
    refine wp_seq_k (fun K8 hK8 => ?_)
    refine wp_block ?_
    refine wp_seq_k (fun K9 hK9 => ?_)
    refine wp_plain [true, true, true] rfl rfl ?_
    refine s_indexRd (j := i) hE rfl (hM.get 3 rfl) rfl slt40 (by first | rfl | omega) (by first | omega | (simp; omega) | decide) rfl ?_; clear hE a; intro a p20 hE hc20 hp20
    rw [elem1 (by omega)] at hc20
    refine s_loadAt1 hE rfl hc20 one26 (by intro X h; cases h) rfl ?_; clear hE a; intro a hE
    refine s_assign hE rfl rfl ?_; clear hE a; intro a hE
    refine q_nil ?_
    replace hE : Env a 32 [(4, _), (6, _), (7, _), (9, _), (16, _), (17, _), (18, _), (19, _)] := hE.sel [4, 6, 7, 9, 16, 17, 18, 19] rfl
    refine hK9 _ _ ?_
    refine wp_plain [true, true, false, true] rfl rfl ?_
    refine s_move hE rfl rfl ?_; clear hE a; intro a hE
    refine s_move hE rfl rfl ?_; clear hE a; intro a hE
    obtain ⟨ca, hpi⟩ := rdv_get (hM.get 4 rfl) (i := i) hb19
    have hle := flat_le ps (i + 1)
    rw [flat_succ hb19, List.length_append] at hle
    refine s_append hE rfl rfl hM sl26 (Src.rd Tryd.underlying26 hpi (bv_one _)) (len47 (by simp only [List.length_append, padW_length]; omega)) (by simp only [List.length_append, padW_length]; omega) (by intro X h; cases h) rfl ?_; clear hE a hpi; intro a v24 w9 hE hM'; clear hM; have hM := hM'; clear hM'
    replace hM := hM.ownEq (m' := (padW key 54 ++ (ps.take (i + 1)).flatten).length) (cs' := bv (padW key 54 ++ (ps.take (i + 1)).flatten)) (by rw [flat_succ hb19]; simp [Nat.add_assoc]) (by rw [flat_succ hb19, ← bv_append, List.append_assoc])
    refine s_assign hE rfl rfl ?_; clear hE a; intro a hE
    refine q_nil ?_
    replace hE : Env a 32 [(4, _), (6, _), (7, _), (9, _), (16, _), (17, _), (18, _), (19, _)] := hE.sel [4, 6, 7, 9, 16, 17, 18, 19] rfl
    refine q_block_n ?_
    refine hK8 _ _ ?_
    refine wp_plain [true, true] rfl rfl ?_
    refine s_bin hE rfl rfl (bin_add (wrap_i64 (by omega) (by omega))) rfl ?_; clear hE a; intro a hE
    refine s_move hE rfl rfl ?_; clear hE a; intro a hE
    refine q_nil ?_
    replace hE : Env a 32 [(4, _), (6, _), (7, _), (9, _), (16, _), (17, _), (18, _), (19, _)] := hE.sel [4, 6, 7, 9, 16, 17, 18, 19] rfl
    replace hE := hE.cast 18 rfl (show _ = Value.int .i64 ((i + 1 : Nat) : Int) from congrArg _ (by omega))
    exact ⟨i + 1, ⟨by omega, _, hE.sel [4, 6, 7, 16, 17, 18] rfl, hM⟩, by omega⟩
  · replace hE := hE'; clear hE'
    replace hb19 := of_decide_eq_false hb19
    replace hb19 : ¬ i < ps.length := by omega
    obtain rfl : i = ps.length := by omega
    rw [List.take_length] at hM
    refine wp_cond_false (hE.eval rfl) ?_
    refine wp_exit ?_
    refine q_then_e ?_
    refine q_then_e ?_
    refine q_block_x ?_
    refine hK4 _ _ ?_
    refine wp_seq_k (fun K8 hK8 => ?_)
    refine wp_plain [true, false, false, false] rfl rfl ?_
    refine s_move hE rfl rfl ?_; clear hE a; intro a hE
    obtain ⟨cl, hl⟩ := own_rd (hM.get 0 rfl)
    refine s_call hE rfl Tryd.call20 (sha_c _ (padW key 54 ++ ps.flatten) _ _ (hM.get 5 rfl) hl (by simp only [List.length_append, padW_length]; omega)) rfl ?_
    rintro e w9 ⟨rfl, hN⟩
    refine ⟨_, rfl, trivial, ?_⟩; clear hE a; intro a hE
    replace hM : Mem _ _ w9 [_, _, _, _, _, _] := hM.call0 hN trivial; clear hN
    refine s_alloc [32] hE hM zero23 rfl rfl ?_; clear hE a; intro a b10 w10 hE hM'
    clear hM; have hM := hM'; clear hM'
    refine s_storeSeg 0 hE rfl rfl hM rfl sz23 (by simp) (bv_one _) rfl (by simp) rfl (by intro X h; cases h) ?_; intro w11 hM'; clear hM; have hM := hM'; clear hM'
    simp only [List.set_cons_zero, List.set_cons_succ] at hM
    refine q_nil ?_
    replace hE : Env a 32 [(4, _), (6, _), (7, _), (10, _), (16, _), (17, _), (18, _), (19, _)] := hE.sel [4, 6, 7, 10, 16, 17, 18, 19] rfl
    refine hK8 _ _ ?_
    refine wp_seq_k (fun K9 hK9 => ?_)
    refine wp_drawnM2 hM (by kernel_rfl) (fun _ => True) (fun _ => True) [(0, true), (1, true)] [(2, false), (3, false), (4, false)] [(2, [(3, 2), (4, 2)]), (3, [(4, 3)]), (4, []), (0, [(2, 0), (3, 2), (4, 0)]), (1, [(2, 1), (3, 2), (4, 1)])] (by kernel_rfl) (by kernel_rfl) rfl rfl ?_
    intro w12 hM' hww12; clear hM; have hM := hM'; clear hM'
    refine s_sliceArr (l := 0) (h := 64) (mx' := 64) hE rfl arr46 rfl rfl rfl (by simp) (by omega) (by omega) (by omega) rfl ?_; clear hE a; intro a hE
    replace hE := hE.cast 28 rfl (show _ = Value.slice (some ⟨b6, 0, none⟩) 64 64 from rfl)
    replace hM : Mem _ _ w12 [_, _, _, _, _, _, _] := hM.pick [2, 0, 1, 3, 4, 5, 6] rfl
    replace hM := hM.blkOwn (k := 64) (es := 1) rfl (by decide)
    refine s_sliceArr (l := 0) (h := 32) (mx' := 32) hE rfl arr23 rfl rfl rfl (by simp) (by omega) (by omega) (by omega) rfl ?_; clear hE a; intro a hE
    replace hE := hE.cast 29 rfl (show _ = Value.slice (some ⟨b10, 0, none⟩) 32 32 from rfl)
    refine s_append hE rfl rfl hM sl26 (Src.rd Tryd.underlying26 (rd_of_arr (hM.get 1 rfl) (by simp)) (bv_one _)) (len47 (by simp)) (by simp) (by intro X h; cases h; simp) rfl ?_; clear hE a; intro a v30 w13 hE hM'; clear hM; have hM := hM'; clear hM'
    replace hM := hM.ownEq (m' := (padW key 92 ++ shaW (padW key 54 ++ ps.flatten)).length) (cs' := bv (padW key 92 ++ shaW (padW key 54 ++ ps.flatten))) (by simp) (by rw [bv_append])
    obtain ⟨cl, hl⟩ := own_rd (hM.get 0 rfl)
    refine s_call hE rfl Tryd.call20 (sha_c _ (padW key 92 ++ shaW (padW key 54 ++ ps.flatten)) _ _ (hM.get 6 rfl) hl (by simp)) rfl ?_
    rintro e w14 ⟨rfl, hN⟩
    refine ⟨_, rfl, hN.sta0 _, ?_⟩; clear hE a; intro a hE
    replace hM : Mem _ _ w14 [_, _, _, _, _, _, _] := hM.call0 hN trivial; clear hN
    replace hM : Mem _ _ w14 [_, _, _, _, _, _, _] := hM.pick [3, 0, 1, 2, 4, 5, 6] rfl
    refine s_storeSeg 0 hE rfl rfl hM rfl sz23 (by simp) (bv_one _) rfl (by simp) rfl (by intro X h; cases h; first | (simp; done) | simp [valBlocks]) ?_; intro w15 hM'; clear hM; have hM := hM'; clear hM'
    simp only [List.set_cons_zero, List.set_cons_succ] at hM
    refine q_nil ?_
    replace hE : Env a 32 [(4, _), (6, _), (7, _), (10, _), (16, _), (17, _), (18, _), (19, _)] := hE.sel [4, 6, 7, 10, 16, 17, 18, 19] rfl
    refine hK9 _ _ ?_
    refine wp_ret ?_
    refine f_ret1 hE rfl (res_cellN rfl (hM.get 0 rfl) row23 rfl) ?_
    exact ⟨rfl, hM.nil⟩
theorem of_c (v u : Value) (key msg : List UInt8) (c cu : Nat) (w : World) (hG : (glb 0).holds w) (hr : (rd v 1 key.length c (bv key)).holds w) (hu : (rd u 1 msg.length cu (bv msg)).holds w) (hk : key.length ≤ 1099511627776) (hf : msg.length ≤ 549755813888) : Calls Tryd.prog 19 #[v, u] w fun e w' => e = .returned (.agg (bv (hmacW key msg)).toArray) ∧ Mem w [] w' [] := by
  have hM : Mem w [] w [rd v 1 key.length c (bv key), rd u 1 msg.length cu (bv msg), glb 0] := Mem.startR w (fun g hg => by
    simp only [List.mem_cons, List.not_mem_nil, or_false] at hg
    rcases hg with rfl | rfl | rfl
    · exact ⟨hr, rfl⟩
    · exact ⟨hu, rfl⟩
    · exact ⟨hG, rfl⟩)
  refine f_enter 9 Tryd.func19 rfl rfl rfl ?_
  intro a hE
  replace hE : Env a 9 [(0, _), (1, _)] := hE
  refine wp_seq_k (fun K1 hK1 => ?_)
  refine wp_plain [false] rfl rfl ?_
  refine s_alloc [32] hE hM zero23 rfl rfl ?_; clear hE a; intro a b4 w1 hE hM'
  clear hM; have hM := hM'; clear hM'
  refine q_nil ?_
  refine hK1 _ _ ?_
  refine wp_seq_k (fun K2 hK2 => ?_)
  refine wp_plain [true, true, false, false, false] rfl rfl ?_
  refine s_move hE rfl rfl ?_; clear hE a; intro a hE
  refine s_move hE rfl rfl ?_; clear hE a; intro a hE
  refine s_buildSlice (xs := [.tmp 6]) ([u]) hE hM sl40 rfl rfl rfl (by intro v hv; rw [List.mem_singleton.1 hv]; rw [(rd_one hu).1]; rfl) (by simp [(rd_one hu).1]) rfl rfl rfl ?_; clear hE a; intro a v7 w2 hE hM'
  clear hM; have hM := hM'; clear hM'
  obtain ⟨cl, hl⟩ := own_rd (hM.get 0 rfl)
  refine s_call hE rfl Tryd.call21 ((by have h := parts_c v _ key [msg] _ _ c _ _ (hM.get 4 rfl) (hM.get 2 rfl) hl (rdv_cons (hM.get 3 rfl) (rdv_nil _)) hk (by simpa using hf) (by simp); rwa [List.flatten_singleton] at h)) rfl ?_
  rintro e w3 ⟨rfl, hN⟩
  refine ⟨_, rfl, trivial, ?_⟩; clear hE a; intro a hE
  replace hM : Mem _ _ w3 [_, _, _, _, _] := hM.call0 hN trivial; clear hN
  replace hM : Mem _ _ w3 [_, _, _, _, _] := hM.pick [1, 0, 2, 3, 4] rfl
  refine s_storeSeg 0 hE rfl rfl hM rfl sz23 (by simp) (bv_one _) rfl (by simp) rfl (by intro X h; cases h) ?_; intro w4 hM'; clear hM; have hM := hM'; clear hM'
  simp only [List.set_cons_zero, List.set_cons_succ] at hM
  refine q_nil ?_
  replace hE : Env a 9 [(4, _)] := hE.sel [4] rfl
  refine hK2 _ _ ?_
  refine wp_ret ?_
  refine f_ret1 hE rfl (res_cellN rfl (hM.get 0 rfl) row23 rfl) ?_
  exact ⟨rfl, hM.nil⟩
theorem stretch_c (v u : Value) (key b : List UInt8) (c cu size : Nat) (w : World) (hG : (glb 0).holds w) (hr : (rd v 1 key.length c (bv key)).holds w) (hu : (rd u 1 b.length cu (bv b)).holds w) (hk : key.length ≤ 1099511627776) (hf : b.length ≤ 274877906944) (hs : size ≤ 8160) : Calls Tryd.prog 22 #[v, u, .int .i64 (size : Int)] w fun e w' => ∃ v', e = .returned (.tuple #[v', .int .i64 0]) ∧ Mem w [] w' [own v' 1 size (bv (strW key b size))] := by
  have hM : Mem w [] w [rd v 1 key.length c (bv key), rd u 1 b.length cu (bv b), glb 0] := Mem.startR w (fun g hg => by
    simp only [List.mem_cons, List.not_mem_nil, or_false] at hg
    rcases hg with rfl | rfl | rfl
    · exact ⟨hr, rfl⟩
    · exact ⟨hu, rfl⟩
    · exact ⟨hG, rfl⟩)
  refine f_enter 39 Tryd.func22 rfl rfl rfl ?_
  intro a hE
  replace hE : Env a 39 [(0, _), (1, _), (2, _)] := hE
  refine wp_seq_k (fun K1 hK1 => ?_)
  refine wp_plain [true, true] rfl rfl ?_
  refine s_assign hE rfl rfl ?_; clear hE a; intro a hE
  refine s_assign hE rfl rfl ?_; clear hE a; intro a hE
  refine q_nil ?_
  refine hK1 _ _ ?_
  refine wp_seq_k (fun K2 hK2 => ?_)
  refine wp_seq_k (fun K3 hK3 => ?_)
  refine wp_plain [true, true, true, true, true, true] rfl rfl ?_
  refine s_move hE rfl rfl ?_; clear hE a; intro a hE
  refine s_bin hE rfl rfl bin_lss rfl ?_; clear hE a; intro a hE
  refine s_move hE rfl rfl ?_; clear hE a; intro a hE
  replace hE := hE.cast 14 rfl (show _ = Value.bool false from (congrArg Value.bool (decide_eq_false (by omega))))
  refine g_yes hE rfl rfl ?_
  refine s_move hE rfl rfl ?_; clear hE a; intro a hE
  refine g_yes hE rfl rfl ?_
  refine s_bin hE rfl rfl bin_gtr rfl ?_; clear hE a; intro a hE
  refine s_pickf hE rfl rfl rfl ?_; clear hE a; intro a hE
  refine q_nil ?_
  replace hE : Env a 39 [(0, _), (1, _), (2, _), (6, _), (7, _), (17, _)] := hE.sel [0, 1, 2, 6, 7, 17] rfl
  refine hK3 _ _ ?_
  replace hE := hE.cast 17 rfl (show _ = Value.bool false from (congrArg Value.bool (decide_eq_false (by omega))))
  refine wp_cond_false (hE.eval rfl) ?_
  refine wp_skip ?_
  refine hK2 _ _ ?_
  refine wp_seq_k (fun K4 hK4 => ?_)
  refine wp_plain [true, true] rfl rfl ?_
  refine s_assign hE rfl rfl ?_; clear hE a; intro a hE
  refine s_assign hE rfl rfl ?_; clear hE a; intro a hE
  refine q_nil ?_
  refine hK4 _ _ ?_
  refine wp_seq_k (fun K5 hK5 => ?_)
  refine wp_seq_k (fun K6 hK6 => ?_)
  refine wp_plain [true] rfl rfl ?_
  refine s_assign hE rfl rfl ?_; clear hE a; intro a hE
  refine q_nil ?_
  refine hK6 _ _ ?_
  refine wp_block ?_
  obtain ⟨cz, hM'⟩ := (hM.addNil 1).freeze
  clear hM; have hM := hM'.addNil 1; clear hM'
  refine c_loop (fun (i : Nat) a w' => i ≤ (size + 31) / 32 ∧ ∃ vo vl cl, Env a 39 [(0, v), (1, u), (2, .int .i64 (size : Int)), (8, vo), (9, vl), (10, .int .i64 ((i + 1 : Nat) : Int))] ∧ Mem w [] w' [own vo 1 (strO key b i).length (bv (strO key b i)), rd vl 1 (strT key b i).length cl (bv (strT key b i)), rd v 1 key.length c (bv key), rd u 1 b.length cu (bv b), glb 0]) (fun i => (size + 31) / 32 - i) 0 ⟨Nat.zero_le _, _, _, _, hE.sel [0, 1, 2, 8, 9, 10] rfl, hM⟩ ?_
  clear hE hM a; rintro i a w1 ⟨hi, vo, vl, cl, hE, hM⟩
  refine wp_seq_k (fun K7 hK7 => ?_)
  refine wp_seq_k (fun K8 hK8 => ?_)
  refine wp_plain [true, true, true, true] rfl rfl ?_
  refine s_move hE rfl rfl ?_; clear hE a; intro a hE
  refine s_len hE rfl Tryd.underlying26 (own_slice (hM.get 0 rfl)) rfl ?_; clear hE a; intro a hE
  refine s_move hE rfl rfl ?_; clear hE a; intro a hE
  refine s_bin hE rfl rfl bin_lss rfl ?_; clear hE a; intro a hE
  refine q_nil ?_
  replace hE : Env a 39 [(0, _), (1, _), (2, _), (8, _), (9, _), (10, _), (21, _)] := hE.sel [0, 1, 2, 8, 9, 10, 21] rfl
  refine hK8 _ _ ?_
  refine hE.split 21 rfl (fun hb21 hE' => ?_) (fun hb21 hE' => ?_)
  · replace hE := hE'; clear hE'
    replace hb21 := of_decide_eq_true hb21
    simp only [strO_length] at hb21
    have hil : i < (size + 31) / 32 := by omega
    refine wp_cond_true (hE.eval rfl) ?_
    refine wp_skip ?_
    refine hK7 _ _ ?_
    refine wp_seq_k (fun K9 hK9 => ?_)
    refine wp_block ?_
    refine wp_seq_k (fun K10 hK10 => ?_)
    refine wp_plain [true, true, true, true, true, false, false, false, false, false] rfl rfl ?_
    refine s_move hE rfl rfl ?_; clear hE a; intro a hE
    refine s_move hE rfl rfl ?_; clear hE a; intro a hE
    refine s_move hE rfl rfl ?_; clear hE a; intro a hE
    refine s_move hE rfl rfl ?_; clear hE a; intro a hE
    refine s_conv hE rfl (cnv_int Tryd.underlying3 Tryd.underlying5 (wrap_u8_ofNat _)) rfl ?_; clear hE a; intro a hE
    refine s_buildSlice (xs := [.tmp 28]) (bv [UInt8.ofNat (i + 1)]) hE hM sl26 rfl rfl rfl (by intro v hv; simp at hv; subst hv; rfl) rfl rfl rfl rfl ?_; clear hE a; intro a v29 w2 hE hM'
    clear hM; have hM := hM'; clear hM'
    have h1 := rd_one (hM.get 2 rfl)
    have h2 := rd_one (hM.get 4 rfl)
    have h3 := own_one (hM.get 0 rfl)
    refine s_buildSlice (xs := [.tmp 25, .tmp 26, .tmp 29]) ([vl, u, v29]) hE hM sl40 rfl rfl rfl (by intro v hv; simp only [List.mem_cons, List.not_mem_nil, or_false] at hv; rcases hv with rfl | rfl | rfl; rw [h1.1]; rfl; rw [h2.1]; rfl; rw [h3.1]; rfl) (by simp [h1.1, h2.1, h3.1]) rfl rfl rfl ?_; clear hE a; intro a v30 w3 hE hM'
    clear hM; have hM := hM'; clear hM'
    obtain ⟨co, ho⟩ := own_rd (hM.get 0 rfl)
    obtain ⟨c1, h1'⟩ := own_rd (hM.get 1 rfl)
    refine s_call hE rfl Tryd.call21 ((by have h := parts_c v _ key [strT key b i, b, [UInt8.ofNat (i + 1)]] _ _ c _ _ (hM.get 6 rfl) (hM.get 4 rfl) ho (rdv_cons (hM.get 3 rfl) (rdv_cons (hM.get 5 rfl) (rdv_cons (p := [UInt8.ofNat (i + 1)]) h1' (rdv_nil _)))) hk (by simp [strT_length]; split <;> omega) (by simp); rw [show [strT key b i, b, [UInt8.ofNat (i + 1)]].flatten = strT key b i ++ b ++ [UInt8.ofNat (i + 1)] from by simp] at h; exact h)) rfl ?_
    rintro e w4 ⟨rfl, hN⟩
    refine ⟨_, rfl, trivial, ?_⟩; clear hE a; intro a hE
    replace hM : Mem _ _ w4 [_, _, _, _, _, _, _] := hM.call0 hN trivial; clear hN
    refine s_alloc [32] hE hM zero23 rfl rfl ?_; clear hE a; intro a b11 w5 hE hM'
    clear hM; have hM := hM'; clear hM'
    refine s_storeSeg 0 hE rfl rfl hM rfl sz23 (by simp) (bv_one _) rfl (by simp) rfl (by intro X h; cases h) ?_; intro w6 hM'; clear hM; have hM := hM'; clear hM'
    simp only [List.set_cons_zero, List.set_cons_succ] at hM
    refine q_nil ?_
    replace hE : Env a 39 [(0, _), (1, _), (2, _), (8, _), (9, _), (10, _), (11, _), (21, _)] := hE.sel [0, 1, 2, 8, 9, 10, 11, 21] rfl
    refine hK10 _ _ ?_
    refine wp_seq_k (fun K11 hK11 => ?_)
    refine wp_plain [true, true] rfl rfl ?_
    refine s_sliceArr (l := 0) (h := 32) (mx' := 32) hE rfl arr23 rfl rfl rfl (by simp) (by omega) (by omega) (by omega) rfl ?_; clear hE a; intro a hE
    replace hE := hE.cast 32 rfl (show _ = Value.slice (some ⟨b11, 0, none⟩) 32 32 from rfl)
    replace hM := hM.blkOwn (k := 32) (es := 1) rfl (by decide)
    obtain ⟨cn, hM'⟩ := hM.freeze
    clear hM; have hM := hM'; clear hM'
    refine s_assign hE rfl rfl ?_; clear hE a; intro a hE
    refine q_nil ?_
    replace hE : Env a 39 [(0, _), (1, _), (2, _), (8, _), (9, _), (10, _), (11, _), (21, _)] := hE.sel [0, 1, 2, 8, 9, 10, 11, 21] rfl
    refine hK11 _ _ ?_
    refine wp_plain [true, true, false, true] rfl rfl ?_
    refine s_move hE rfl rfl ?_; clear hE a; intro a hE
    refine s_move hE rfl rfl ?_; clear hE a; intro a hE
    replace hM : Mem _ _ w6 [_, _, _, _, _, _, _, _] := hM.pick [3, 0, 1, 2, 4, 5, 6, 7] rfl
    have hy := hM.get 1 rfl
    refine s_append hE rfl rfl hM sl26 (Src.rd Tryd.underlying26 hy (bv_one _)) (len47 (by simp; omega)) (by simp; omega) (by intro X h; cases h) rfl ?_; clear hE a hy; intro a v35 w7 hE hM'
    clear hM; have hM := hM'; clear hM'
    replace hM := hM.ownEq (m' := (strO key b (i + 1)).length) (cs' := bv (strO key b (i + 1))) (by simp [strO, strT]) (by rw [strO, bv_append]; rfl)
    refine s_assign hE rfl rfl ?_; clear hE a; intro a hE
    refine q_nil ?_
    replace hE : Env a 39 [(0, _), (1, _), (2, _), (8, _), (9, _), (10, _), (11, _), (21, _)] := hE.sel [0, 1, 2, 8, 9, 10, 11, 21] rfl
    refine q_block_n ?_
    refine hK9 _ _ ?_
    refine wp_plain [true, true, true] rfl rfl ?_
    refine s_move hE rfl rfl ?_; clear hE a; intro a hE
    refine s_bin hE rfl rfl (bin_add (wrap_i64 (by omega) (by omega))) rfl ?_; clear hE a; intro a hE
    refine s_assign hE rfl rfl ?_; clear hE a; intro a hE
    refine q_nil ?_
    replace hE : Env a 39 [(0, _), (1, _), (2, _), (8, _), (9, _), (10, _), (11, _), (21, _)] := hE.sel [0, 1, 2, 8, 9, 10, 11, 21] rfl
    replace hE := hE.cast 10 rfl (show _ = Value.int .i64 ((i + 1 + 1 : Nat) : Int) from congrArg _ (by omega))
    replace hM : Mem _ _ w7 [_, _, _, _, _, _, _, _] := hM.pick [0, 1, 5, 6, 7, 2, 3, 4] rfl
    replace hM : Mem _ _ w7 [_, _, _, _, _] := hM.pick [0, 1, 2, 3, 4] rfl
    rw [show hmacW key (strT key b i ++ b ++ [UInt8.ofNat (i + 1)]) = strT key b (i + 1) from rfl] at hM
    exact ⟨i + 1, ⟨by omega, _, _, _, hE.sel [0, 1, 2, 8, 9, 10] rfl, by simpa [strT] using hM⟩, by omega⟩
  · replace hE := hE'; clear hE'
    replace hb21 := of_decide_eq_false hb21
    simp only [strO_length] at hb21
    obtain rfl : i = (size + 31) / 32 := by omega
    refine wp_cond_false (hE.eval rfl) ?_
    refine wp_exit ?_
    refine q_then_e ?_
    refine q_then_e ?_
    refine q_block_x ?_
    refine hK5 _ _ ?_
    refine wp_seq_k (fun K9 hK9 => ?_)
    refine wp_plain [true, true, true, true, true] rfl rfl ?_
    refine s_move hE rfl rfl ?_; clear hE a; intro a hE
    refine s_move hE rfl rfl ?_; clear hE a; intro a hE
    refine s_sliceTo (l := size) hE rfl (hM.get 0 rfl) slt26 ⟨_, rfl⟩ (by simp; omega) rfl ?_; clear hE a; intro a hE
    refine s_assign hE rfl rfl ?_; clear hE a; intro a hE
    refine s_assign hE rfl rfl ?_; clear hE a; intro a hE
    refine q_nil ?_
    replace hE : Env a 39 [(0, _), (1, _), (2, _), (6, _), (7, _), (8, _), (9, _), (10, _), (21, _)] := hE.sel [0, 1, 2, 6, 7, 8, 9, 10, 21] rfl
    refine hK9 _ _ ?_
    refine wp_ret ?_
    refine f_ret2 hE rfl rfl rfl ?_
    refine ⟨_, rfl, ?_⟩
    replace hM := (hM.pick [0] rfl).subOwn (l := size) (by simp; omega)
    rw [Nat.mul_one, bv_take] at hM; exact hM
theorem stretch_bad (v u : Value) (z : Int) (w : World) (hz : z < 0 ∨ 8160 < z) : Calls Tryd.prog 22 #[v, u, .int .i64 z] w fun e w' => e = .returned (.tuple #[.slice none 0 0, .int .i64 2]) ∧ Mem w [] w' [] := by
  have hM := Mem.start0 w
  refine f_enter 39 Tryd.func22 rfl rfl rfl ?_
  intro a hE
  replace hE : Env a 39 [(0, _), (1, _), (2, _)] := hE
  refine wp_seq_k (fun K1 hK1 => ?_)
  refine wp_plain [true, true] rfl rfl ?_
  refine s_assign hE rfl rfl ?_; clear hE a; intro a hE
  refine s_assign hE rfl rfl ?_; clear hE a; intro a hE
  refine q_nil ?_
  refine hK1 _ _ ?_
  refine wp_seq_k (fun K2 hK2 => ?_)
  refine wp_seq_k (fun K3 hK3 => ?_)
  refine wp_plain [true, true, true, true, true, true] rfl rfl ?_
  refine s_move hE rfl rfl ?_; clear hE a; intro a hE
  refine s_bin hE rfl rfl bin_lss rfl ?_; clear hE a; intro a hE
  refine s_move hE rfl rfl ?_; clear hE a; intro a hE
  refine hE.split 14 rfl (fun hb14 hE' => ?_) (fun hb14 hE' => ?_)
  · replace hE := hE'; clear hE'
    replace hb14 := of_decide_eq_true hb14
    refine g_no (b := true) hE rfl rfl rfl ?_; clear hE a; intro a hE
    refine g_no (b := true) hE rfl rfl rfl ?_; clear hE a; intro a hE
    refine s_pickt hE rfl rfl rfl ?_; clear hE a; intro a hE
    refine q_nil ?_
    replace hE : Env a 39 [(0, _), (1, _), (2, _), (6, _), (7, _), (17, _)] := hE.sel [0, 1, 2, 6, 7, 17] rfl
    refine hK3 _ _ ?_
    refine wp_cond_true (hE.eval rfl) ?_
    refine wp_seq_k (fun K4 hK4 => ?_)
    refine wp_plain [true, true] rfl rfl ?_
    refine s_assign hE rfl rfl ?_; clear hE a; intro a hE
    refine s_assign hE rfl rfl ?_; clear hE a; intro a hE
    refine q_nil ?_
    refine hK4 _ _ ?_
    refine wp_ret ?_
    refine q_then_r ?_
    refine f_ret2 hE rfl rfl rfl ?_
    exact ⟨rfl, hM⟩
  · replace hE := hE'; clear hE'
    replace hb14 := of_decide_eq_false hb14
    refine g_yes hE rfl rfl ?_
    refine s_move hE rfl rfl ?_; clear hE a; intro a hE
    refine g_yes hE rfl rfl ?_
    refine s_bin hE rfl rfl bin_gtr rfl ?_; clear hE a; intro a hE
    refine s_pickf hE rfl rfl rfl ?_; clear hE a; intro a hE
    refine q_nil ?_
    replace hE : Env a 39 [(0, _), (1, _), (2, _), (6, _), (7, _), (17, _)] := hE.sel [0, 1, 2, 6, 7, 17] rfl
    refine hK3 _ _ ?_
    replace hE := hE.cast 17 rfl (show _ = Value.bool true from (congrArg Value.bool (by simp; omega)))
    refine wp_cond_true (hE.eval rfl) ?_
    refine wp_seq_k (fun K4 hK4 => ?_)
    refine wp_plain [true, true] rfl rfl ?_
    refine s_assign hE rfl rfl ?_; clear hE a; intro a hE
    refine s_assign hE rfl rfl ?_; clear hE a; intro a hE
    refine q_nil ?_
    refine hK4 _ _ ?_
    refine wp_ret ?_
    refine q_then_r ?_
    refine f_ret2 hE rfl rfl rfl ?_
    exact ⟨rfl, hM⟩
theorem workW : hmacW [107, 101, 121] [84, 104, 101, 32, 113, 117, 105, 99, 107, 32, 98, 114, 111, 119, 110, 32, 102, 111, 120, 32, 106, 117, 109, 112, 115, 32, 111, 118, 101, 114, 32, 116, 104, 101, 32, 108, 97, 122, 121, 32, 100, 111, 103] = [247, 188, 131, 244, 48, 83, 132, 36, 177, 50, 152, 230, 170, 111, 177, 67, 239, 77, 89, 161, 73, 70, 23, 89, 151, 71, 157, 188, 45, 26, 60, 216] := by decide +kernel
theorem works_c (w : World) (hG : (glb 0).holds w) : Calls Tryd.prog 17 #[] w fun e w' => e = .returned (.bool true) ∧ Mem w [] w' [] := by
  have hM := Mem.startR1 hG rfl
  refine f_enter 25 Tryd.func17 rfl rfl rfl ?_
  intro a hE
  replace hE : Env a 25 [] := hE
  refine wp_seq_k (fun K1 hK1 => ?_)
  refine wp_plain [true] rfl rfl ?_
  refine s_assign hE rfl rfl ?_; clear hE a; intro a hE
  refine q_nil ?_
  refine hK1 _ _ ?_
  refine wp_seq_k (fun K2 hK2 => ?_)
  refine wp_plain [false, false, false, false, false, false, false] rfl rfl ?_
  refine s_buildSlice (xs := [.const (.int .u8 107), .const (.int .u8 101), .const (.int .u8 121)]) (bv [107, 101, 121]) hE hM sl26 rfl rfl rfl (by intro v hv; obtain ⟨x, _, rfl⟩ := List.mem_map.1 (show v ∈ bv [107, 101, 121] from hv); rfl) rfl rfl rfl rfl ?_; clear hE a; intro a v2 w1 hE hM'
  clear hM; have hM := hM'; clear hM'
  refine s_convSame hE rfl hM Tryd.underlying26 Tryd.underlying5 (by omega) (by intro X h; cases h) rfl ?_; clear hE a; intro a w2 hE hM'; clear hM; have hM := hM'; clear hM'
  refine s_buildSlice (xs := [.const (.int .u8 84), .const (.int .u8 104), .const (.int .u8 101), .const (.int .u8 32), .const (.int .u8 113), .const (.int .u8 117), .const (.int .u8 105), .const (.int .u8 99), .const (.int .u8 107), .const (.int .u8 32), .const (.int .u8 98), .const (.int .u8 114), .const (.int .u8 111), .const (.int .u8 119), .const (.int .u8 110), .const (.int .u8 32), .const (.int .u8 102), .const (.int .u8 111), .const (.int .u8 120), .const (.int .u8 32), .const (.int .u8 106), .const (.int .u8 117), .const (.int .u8 109), .const (.int .u8 112), .const (.int .u8 115), .const (.int .u8 32), .const (.int .u8 111), .const (.int .u8 118), .const (.int .u8 101), .const (.int .u8 114), .const (.int .u8 32), .const (.int .u8 116), .const (.int .u8 104), .const (.int .u8 101), .const (.int .u8 32), .const (.int .u8 108), .const (.int .u8 97), .const (.int .u8 122), .const (.int .u8 121), .const (.int .u8 32), .const (.int .u8 100), .const (.int .u8 111), .const (.int .u8 103)]) (bv [84, 104, 101, 32, 113, 117, 105, 99, 107, 32, 98, 114, 111, 119, 110, 32, 102, 111, 120, 32, 106, 117, 109, 112, 115, 32, 111, 118, 101, 114, 32, 116, 104, 101, 32, 108, 97, 122, 121, 32, 100, 111, 103]) hE hM sl26 rfl rfl rfl (by intro v hv; obtain ⟨x, _, rfl⟩ := List.mem_map.1 (show v ∈ bv [84, 104, 101, 32, 113, 117, 105, 99, 107, 32, 98, 114, 111, 119, 110, 32, 102, 111, 120, 32, 106, 117, 109, 112, 115, 32, 111, 118, 101, 114, 32, 116, 104, 101, 32, 108, 97, 122, 121, 32, 100, 111, 103] from hv); rfl) rfl rfl rfl rfl ?_; clear hE a; intro a v4 w3 hE hM'
  clear hM; have hM := hM'; clear hM'
  refine s_convSame hE rfl hM Tryd.underlying26 Tryd.underlying5 (by omega) (by intro X h; cases h) rfl ?_; clear hE a; intro a w4 hE hM'; clear hM; have hM := hM'; clear hM'
  obtain ⟨ck, hk⟩ := own_rd (hM.get 1 rfl)
  obtain ⟨cm, hm⟩ := own_rd (hM.get 0 rfl)
  refine s_call hE rfl Tryd.call19 ((by have h := of_c _ _ [107, 101, 121] [84, 104, 101, 32, 113, 117, 105, 99, 107, 32, 98, 114, 111, 119, 110, 32, 102, 111, 120, 32, 106, 117, 109, 112, 115, 32, 111, 118, 101, 114, 32, 116, 104, 101, 32, 108, 97, 122, 121, 32, 100, 111, 103] _ _ _ (hM.get 2 rfl) hk hm (by decide) (by decide); rwa [workW] at h)) rfl ?_
  rintro e w5 ⟨rfl, hN⟩
  refine ⟨_, rfl, trivial, ?_⟩; clear hE a; intro a hE
  replace hM : Mem _ _ w5 [_, _, _] := hM.call0 hN trivial; clear hN
  refine s_alloc [32] hE hM zero23 rfl rfl ?_; clear hE a; intro a b1 w6 hE hM'
  clear hM; have hM := hM'; clear hM'
  refine s_storeSeg 0 hE rfl rfl hM rfl sz23 (by decide) (bv_one _) rfl (by simp) rfl (by intro X h; cases h) ?_; intro w7 hM'; clear hM; have hM := hM'; clear hM'
  simp only [List.set_cons_zero, List.set_cons_succ] at hM
  refine q_nil ?_
  replace hE : Env a 25 [(0, _), (1, _)] := hE.sel [0, 1] rfl
  refine hK2 _ _ ?_
  refine wp_seq_k (fun K3 hK3 => ?_)
  refine wp_plain [true, true, true, true, true, true, true, true, true, true, true, true, true, true, true, true, false, true, true] rfl rfl ?_
  refine s_indexArr (j := 0) hE rfl rfl arr23 (by first | rfl | omega) (by first | omega | decide) rfl ?_; clear hE a; intro a hE
  refine s_loadIdx (j := 0) hE rfl (by omega) (hM.get 0 rfl) (bv_get (by decide)) one5 (by intro X h; cases h) rfl ?_; clear hE a; intro a hE
  refine s_bin hE rfl rfl bin_eql rfl ?_; clear hE a; intro a hE
  refine s_move hE rfl rfl ?_; clear hE a; intro a hE
  replace hE := hE.cast 10 rfl (show _ = Value.bool true from (congrArg Value.bool (by first | rfl | decide | simp)))
  refine g_yes hE rfl rfl ?_
  refine s_indexArr (j := 1) hE rfl rfl arr23 (by first | rfl | omega) (by first | omega | decide) rfl ?_; clear hE a; intro a hE
  refine g_yes hE rfl rfl ?_
  refine s_loadIdx (j := 1) hE rfl (by omega) (hM.get 0 rfl) (bv_get (by decide)) one5 (by intro X h; cases h) rfl ?_; clear hE a; intro a hE
  refine g_yes hE rfl rfl ?_
  refine s_bin hE rfl rfl bin_eql rfl ?_; clear hE a; intro a hE
  refine s_pickt hE rfl rfl rfl ?_; clear hE a; intro a hE
  refine s_move hE rfl rfl ?_; clear hE a; intro a hE
  replace hE := hE.cast 15 rfl (show _ = Value.bool true from (congrArg Value.bool (by first | rfl | decide | simp)))
  refine g_yes hE rfl rfl ?_
  refine s_indexArr (j := 31) hE rfl rfl arr23 (by first | rfl | omega) (by first | omega | decide) rfl ?_; clear hE a; intro a hE
  refine g_yes hE rfl rfl ?_
  refine s_loadIdx (j := 31) hE rfl (by omega) (hM.get 0 rfl) (bv_get (by decide)) one5 (by intro X h; cases h) rfl ?_; clear hE a; intro a hE
  refine g_yes hE rfl rfl ?_
  refine s_bin hE rfl rfl bin_eql rfl ?_; clear hE a; intro a hE
  refine s_pickt hE rfl rfl rfl ?_; clear hE a; intro a hE
  refine s_move hE rfl rfl ?_; clear hE a; intro a hE
  replace hE := hE.cast 20 rfl (show _ = Value.bool true from (congrArg Value.bool (by first | rfl | decide | simp)))
  refine g_yes hE rfl rfl ?_
  refine s_loadN hE rfl (hM.get 0 rfl) row23 rfl (by intro X h; cases h) rfl ?_; clear hE a; intro a hE
  refine g_yes hE rfl rfl ?_
  refine s_loadN hE rfl (hM.get 0 rfl) row23 rfl (by intro X h; cases h) rfl ?_; clear hE a; intro a hE
  refine g_yes hE rfl rfl ?_
  refine s_call hE rfl Tryd.call16 (same_c [247, 188, 131, 244, 48, 83, 132, 36, 177, 50, 152, 230, 170, 111, 177, 67, 239, 77, 89, 161, 73, 70, 23, 89, 151, 71, 157, 188, 45, 26, 60, 216] [247, 188, 131, 244, 48, 83, 132, 36, 177, 50, 152, 230, 170, 111, 177, 67, 239, 77, 89, 161, 73, 70, 23, 89, 151, 71, 157, 188, 45, 26, 60, 216] _ rfl rfl) rfl ?_
  rintro e w8 ⟨rfl, hN⟩
  refine ⟨_, rfl, trivial, ?_⟩; clear hE a; intro a hE
  replace hM : Mem _ _ w8 [_, _, _, _] := hM.call0 hN trivial; clear hN
  refine s_pickt hE rfl rfl rfl ?_; clear hE a; intro a hE
  refine s_assign hE rfl rfl ?_; clear hE a; intro a hE
  refine q_nil ?_
  replace hE : Env a 25 [(0, _), (1, _)] := hE.sel [0, 1] rfl
  refine hK3 _ _ ?_
  refine wp_ret ?_
  refine f_ret1 hE rfl rfl ?_
  exact ⟨by first | rfl | simp, hM.nil⟩
theorem cut_c (bs : List UInt8) (v : Value) (c : Nat) (w : World) (hr : (rd v 1 bs.length c (bv bs)).holds w) : Calls Tryd.prog 18 #[v] w fun e w' => ∃ v' c', e = .returned v' ∧ (∀ b, b ∈ rdB v' c' → b ∈ rdB v c) ∧ (rd v' 1 (bs.take 1000).length c' (bv (bs.take 1000))).holds w' ∧ Mem w [] w' [] := by
  have hM := Mem.startR1 hr rfl
  have hlc := rd_len hr
  refine f_enter 8 Tryd.func18 rfl rfl rfl ?_
  intro a hE
  replace hE : Env a 8 [(0, _)] := hE
  refine wp_seq_k (fun K1 hK1 => ?_)
  refine wp_plain [true] rfl rfl ?_
  refine s_assign hE rfl rfl ?_; clear hE a; intro a hE
  refine q_nil ?_
  refine hK1 _ _ ?_
  refine wp_seq_k (fun K2 hK2 => ?_)
  refine wp_plain [true, true, true, true, true, true] rfl rfl ?_
  refine s_move hE rfl rfl ?_; clear hE a; intro a hE
  refine s_move hE rfl rfl ?_; clear hE a; intro a hE
  refine s_len hE rfl Tryd.underlying26 (rd_slice (hM.get 0 rfl)) rfl ?_; clear hE a; intro a hE
  refine s_min hE rfl rfl rfl ?_; clear hE a; intro a hE
  replace hE := hE.cast 6 rfl (show _ = Value.int .i64 ((min bs.length 1000 : Nat) : Int) from congrArg _ (by split <;> omega))
  refine s_slice (l := 0) (h := min bs.length 1000) (mx' := c) hE rfl (hM.get 0 rfl) slt26 rfl ⟨_, rfl⟩ rfl (by simp) (by omega) (by omega) (by omega) (by omega) rfl ?_; clear hE a; intro a v7 hE hr7 hvb7
  replace hr7 := rd_cut rfl hr7
  replace hM := hM.addPart 0 rfl hr7 hvb7; clear hr7
  refine s_assign hE rfl rfl ?_; clear hE a; intro a hE
  refine q_nil ?_
  replace hE : Env a 8 [(2, _)] := hE.sel [2] rfl
  refine hK2 _ _ ?_
  refine wp_ret ?_
  refine f_ret1 hE rfl rfl ?_
  exact ⟨v7, _, rfl, hvb7, hM.get 0 rfl, hM.nil⟩
end Go.Proofs.YtcmikkfekmmheaaDoor
