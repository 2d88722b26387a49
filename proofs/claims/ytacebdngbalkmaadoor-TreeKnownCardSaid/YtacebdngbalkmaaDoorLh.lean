/- Walks of functions of the given program that the claim reaches. -/
import Derived.Test.YtacebdngbalkmaaDoorLs
set_option linter.unusedSimpArgs false
set_option linter.unusedVariables false
namespace Go.Proofs.YtacebdngbalkmaaDoor
open Go Go.Kx
theorem zero51 : Zero Tryd.prog 51 [bv (List.replicate 64 0)] := ⟨.agg ([bv (List.replicate 64 0)] : List (List Value)).flatten.toArray, by kernel_rfl, by kernel_rfl⟩
theorem arr51 : arrT Tryd.prog 51 = some (64, 1) := by kernel_rfl
theorem row51 : RowT Tryd.prog 51 64 := RowT.of Tryd.underlying51 rfl (by kernel_rfl)
theorem sz51 : (Tryd.prog.info? 51).map (·.size) = some 64 := by kernel_rfl
theorem slt98 : slT Tryd.prog 98 = some 1 := by kernel_rfl
theorem one82 : OneT Tryd.prog 82 := OneT.of Tryd.underlying82 rfl (by kernel_rfl)
theorem sl98 : SlT Tryd.prog 98 82 1 24 := ⟨Tryd.underlying98, by kernel_rfl, by kernel_rfl, .slice none 0 0, by kernel_rfl, rfl⟩
theorem pad_c (v : Value) (key : List UInt8) (c : Nat) (x : UInt8) (w : World) (hG : (glb 0).holds w) (hr : (rd v 1 key.length c (bv key)).holds w) (hk : key.length ≤ 1099511627776) : Calls Tryd.prog 51 #[v, bV x] w fun e w' => e = .returned (.agg (bv (padW key x)).toArray) ∧ Mem w [] w' [] := by
  have hM := Mem.startR2 hr hG rfl rfl
  refine f_enter 28 Tryd.func51 rfl rfl rfl ?_
  intro a hE
  replace hE : Env a 28 [(0, _), (1, _)] := hE
  refine wp_seq_k (fun K1 hK1 => ?_)
  refine wp_plain [false] rfl rfl ?_
  refine s_alloc [64] hE hM zero51 rfl rfl ?_; clear hE a; intro a b4 w1 hE hM'
  clear hM; have hM := hM'; clear hM'
  refine q_nil ?_
  refine hK1 _ _ ?_
  refine wp_seq_k (fun K2 hK2 => ?_)
  refine wp_plain [false] rfl rfl ?_
  refine s_alloc [64] hE hM zero51 rfl rfl ?_; clear hE a; intro a b5 w2 hE hM'
  clear hM; have hM := hM'; clear hM'
  refine q_nil ?_
  refine hK2 _ _ ?_
  refine wp_seq_k (fun K3 hK3 => ?_)
  refine wp_seq_k (fun K4 hK4 => ?_)
  refine wp_plain [true, true, true] rfl rfl ?_
  refine s_move hE rfl rfl ?_; clear hE a; intro a hE
  refine s_len hE rfl Tryd.underlying82 (rd_slice (hM.get 2 rfl)) rfl ?_; clear hE a; intro a hE
  refine s_bin hE rfl rfl bin_gtr rfl ?_; clear hE a; intro a hE
  refine q_nil ?_
  replace hE : Env a 28 [(0, _), (1, _), (4, _), (5, _), (10, _)] := hE.sel [0, 1, 4, 5, 10] rfl
  refine hK4 _ _ ?_
  refine hE.split 10 rfl (fun hb10 hE' => ?_) (fun hb10 hE' => ?_)
  · replace hE := hE'; clear hE'
    replace hb10 := of_decide_eq_true hb10
    replace hb10 : 64 < key.length := by omega
    refine wp_cond_true (hE.eval rfl) ?_
    refine wp_seq_k (fun K5 hK5 => ?_)
    refine wp_plain [true, false, false, false] rfl rfl ?_
    refine s_move hE rfl rfl ?_; clear hE a; intro a hE
    refine s_call hE rfl Tryd.call52 (sha_c v key c _ (hM.get 3 rfl) (hM.get 2 rfl) hk) rfl ?_
    rintro e w3 ⟨rfl, hN⟩
    refine ⟨_, rfl, trivial, ?_⟩; clear hE a; intro a hE
    replace hM : Mem _ _ w3 [_, _, _, _] := hM.call0 hN trivial; clear hN
    refine s_alloc [32] hE hM zero34 rfl rfl ?_; clear hE a; intro a b6 w4 hE hM'
    clear hM; have hM := hM'; clear hM'
    refine s_storeSeg 0 hE rfl rfl hM rfl sz34 (by simp) (bv_one _) rfl (by simp) rfl (by intro X h; cases h) ?_; intro w5 hM'; clear hM; have hM := hM'; clear hM'
    simp only [List.set_cons_zero, List.set_cons_succ] at hM
    refine q_nil ?_
    replace hE : Env a 28 [(0, _), (1, _), (4, _), (5, _), (6, _), (10, _)] := hE.sel [0, 1, 4, 5, 6, 10] rfl
    refine hK5 _ _ ?_
    refine wp_plain [true, true] rfl rfl ?_
    refine s_sliceArr (l := 0) (h := 32) (mx' := 32) hE rfl arr34 rfl rfl rfl (by simp) (by omega) (by omega) (by omega) rfl ?_; clear hE a; intro a hE
    replace hE := hE.cast 13 rfl (show _ = Value.slice (some ⟨b6, 0, none⟩) 32 32 from rfl)
    refine s_assign hE rfl rfl ?_; clear hE a; intro a hE
    refine q_nil ?_
    replace hE : Env a 28 [(0, _), (1, _), (4, _), (5, _), (6, _), (10, _)] := hE.sel [0, 1, 4, 5, 6, 10] rfl
    refine hK3 _ _ ?_
    refine wp_seq_k (fun K6 hK6 => ?_)
    refine wp_plain [true, true, false] rfl rfl ?_
    refine s_sliceArr (l := 0) (h := 64) (mx' := 64) hE rfl arr51 rfl rfl rfl (by simp) (by omega) (by omega) (by omega) rfl ?_; clear hE a; intro a hE
    replace hE := hE.cast 14 rfl (show _ = Value.slice (some ⟨b5, 0, none⟩) 64 64 from rfl)
    refine s_move hE rfl rfl ?_; clear hE a; intro a hE
    replace hM : Mem _ _ w5 [_, _, _, _, _] := hM.pick [1, 0, 2, 3, 4] rfl
    refine s_copyArr (l := 64) hE rfl rfl hM (rd_of_arr (hM.get 1 rfl) (by simp)) (bv_one _) sl82 (by intro X h; cases h) rfl ?_; clear hE a; intro a w6 hE hM'; clear hM; have hM := hM'; clear hM'
    rw [show (bv (shaW key)).take (min (shaW key).length 64) ++ (bv (List.replicate 64 0)).drop (min (shaW key).length 64) = bv (padI (blockW key) x 0) from by rw [bv_take, bv_drop, ← bv_append]; unfold blockW; rw [if_pos hb10]; simp [padI, List.take_of_length_le]] at hM
    refine q_nil ?_
    replace hE : Env a 28 [(0, _), (1, _), (4, _), (5, _), (6, _), (10, _)] := hE.sel [0, 1, 4, 5, 6, 10] rfl
    refine hK6 _ _ ?_
    refine wp_seq_k (fun K7 hK7 => ?_)
    refine wp_seq_k (fun K8 hK8 => ?_)
    refine wp_plain [true] rfl rfl ?_
    refine s_move hE rfl rfl ?_; clear hE a; intro a hE
    refine q_nil ?_
    refine hK8 _ _ ?_
    refine wp_block ?_
    replace hM : Mem _ _ w6 [_, _, _, _, _] := hM.pick [0, 2, 1, 3, 4] rfl
    replace hM : Mem _ _ w6 [_, _] := hM.pick [0, 1] rfl
    refine c_loop (fun (i : Nat) a w' => i ≤ 64 ∧ Env a 28 [(1, bV x), (4, .pointer (some ⟨b4, 0, none⟩)), (5, .pointer (some ⟨b5, 0, none⟩)), (17, .int .i64 (i : Int))] ∧ Mem w [] w' [blk b5 [bv (padI (blockW key) x i)] [64] 51, blk b4 [bv (List.replicate 64 0)] [64] 51]) (fun i => 64 - i) 0 ⟨Nat.zero_le _, hE.sel [1, 4, 5, 17] rfl, hM⟩ ?_
    clear hE hM a; rintro i a w7 ⟨hi, hE, hM⟩
    refine wp_seq_k (fun K9 hK9 => ?_)
    refine wp_plain [true] rfl rfl ?_
    refine s_bin hE rfl rfl bin_lss rfl ?_; clear hE a; intro a hE
    refine q_nil ?_
    refine hK9 _ _ ?_
    refine wp_seq_k (fun K10 hK10 => ?_)
    refine hE.split 18 rfl (fun hb18 hE' => ?_) (fun hb18 hE' => ?_)
    · replace hE := hE'; clear hE'
      replace hb18 := of_decide_eq_true hb18
      replace hb18 : i < 64 := by omega
      refine wp_cond_true (hE.eval rfl) ?_
      refine wp_skip ?_
      refine hK10 _ _ ?_
      refine wp_seq_k (fun K11 hK11 => ?_)
      refine wp_block ?_
      refine wp_seq_k (fun K12 hK12 => ?_)
      refine wp_plain [true, true] rfl rfl ?_
      refine s_move hE rfl rfl ?_; clear hE a; intro a hE
      refine s_assign hE rfl rfl ?_; clear hE a; intro a hE
      refine q_nil ?_
      replace hE : Env a 28 [(1, _), (4, _), (5, _), (7, _), (17, _), (18, _)] := hE.sel [1, 4, 5, 7, 17, 18] rfl
      refine hK12 _ _ ?_
      refine wp_plain [true, true, true, true, true, true, false] rfl rfl ?_
      refine s_move hE rfl rfl ?_; clear hE a; intro a hE
      refine s_indexArr (j := i) hE rfl rfl arr51 (by first | rfl | omega) (by first | omega | decide) rfl ?_; clear hE a; intro a hE
      refine s_loadIdx (j := i) hE rfl (by omega) (hM.get 0 rfl) (bv_get (by simp only [bv_length, padI_length, blockW_length]; exact hb18)) one5 (by intro X h; cases h) rfl ?_; clear hE a; intro a hE
      refine s_move hE rfl rfl ?_; clear hE a; intro a hE
      refine s_bin hE rfl rfl bin_xor8 rfl ?_; clear hE a; intro a hE
      refine s_indexArr (j := i) hE rfl rfl arr51 (by first | rfl | omega) (by first | omega | decide) rfl ?_; clear hE a; intro a hE
      refine s_storeIdx (j := i) hE rfl (by omega) rfl hM rfl rfl sz5 (by simp only [bv_length, padI_length, blockW_length]; exact hb18) (by intro X h; cases h) ?_; intro w8 hM'; clear hM; have hM := hM'; clear hM'
      first | rw [bv_set'] at hM | rw [bv_setI] at hM
      refine q_nil ?_
      replace hE : Env a 28 [(1, _), (4, _), (5, _), (7, _), (17, _), (18, _)] := hE.sel [1, 4, 5, 7, 17, 18] rfl
      refine q_block_n ?_
      refine hK11 _ _ ?_
      refine wp_plain [true, true] rfl rfl ?_
      refine s_bin hE rfl rfl (bin_add (wrap_i64 (by omega) (by omega))) rfl ?_; clear hE a; intro a hE
      refine s_move hE rfl rfl ?_; clear hE a; intro a hE
      refine q_nil ?_
      replace hE : Env a 28 [(1, _), (4, _), (5, _), (7, _), (17, _), (18, _)] := hE.sel [1, 4, 5, 7, 17, 18] rfl
      replace hE := hE.cast 17 rfl (show _ = Value.int .i64 ((i + 1 : Nat) : Int) from congrArg _ (by omega))
      rw [padI_get (by rw [blockW_length]; exact hb18), padI_set (by rw [blockW_length]; exact hb18)] at hM
      exact ⟨i + 1, ⟨by omega, hE.sel [1, 4, 5, 17] rfl, hM⟩, by omega⟩
    · replace hE := hE'; clear hE'
      replace hb18 := of_decide_eq_false hb18
      replace hb18 : ¬ i < 64 := by omega
      obtain rfl : i = 64 := by omega
      refine wp_cond_false (hE.eval rfl) ?_
      refine wp_exit ?_
      refine q_then_e ?_
      refine q_then_e ?_
      refine q_block_x ?_
      refine hK7 _ _ ?_
      refine wp_seq_k (fun K11 hK11 => ?_)
      refine wp_plain [true, false] rfl rfl ?_
      refine s_loadN hE rfl (hM.get 0 rfl) row51 rfl (by intro X h; cases h) rfl ?_; clear hE a; intro a hE
      replace hM : Mem _ _ w7 [_, _] := hM.pick [1, 0] rfl
      refine s_storeSeg 0 hE rfl rfl hM rfl sz51 (by simp [padI_length, blockW_length]) (bv_one _) rfl (by simp) rfl (by intro X h; cases h) ?_; intro w8 hM'; clear hM; have hM := hM'; clear hM'
      simp only [List.set_cons_zero, List.set_cons_succ] at hM
      refine q_nil ?_
      replace hE : Env a 28 [(1, _), (4, _), (5, _), (17, _), (18, _)] := hE.sel [1, 4, 5, 17, 18] rfl
      refine hK11 _ _ ?_
      refine wp_ret ?_
      refine f_ret1 hE rfl (res_cellN rfl (hM.get 0 rfl) row51 rfl) ?_
      exact ⟨by rw [padI_all], hM.nil⟩
  · replace hE := hE'; clear hE'
    replace hb10 := of_decide_eq_false hb10
    replace hb10 : ¬ 64 < key.length := by omega
    refine wp_cond_false (hE.eval rfl) ?_
    refine wp_skip ?_
    refine hK3 _ _ ?_
    refine wp_seq_k (fun K5 hK5 => ?_)
    refine wp_plain [true, true, false] rfl rfl ?_
    refine s_sliceArr (l := 0) (h := 64) (mx' := 64) hE rfl arr51 rfl rfl rfl (by simp) (by omega) (by omega) (by omega) rfl ?_; clear hE a; intro a hE
    replace hE := hE.cast 14 rfl (show _ = Value.slice (some ⟨b5, 0, none⟩) 64 64 from rfl)
    refine s_move hE rfl rfl ?_; clear hE a; intro a hE
    refine s_copyArr (l := 64) hE rfl rfl hM (hM.get 2 rfl) (bv_one _) sl82 (by intro X h; cases h) rfl ?_; clear hE a; intro a w3 hE hM'; clear hM; have hM := hM'; clear hM'
    rw [show (bv (key)).take (min key.length 64) ++ (bv (List.replicate 64 0)).drop (min key.length 64) = bv (padI (blockW key) x 0) from by rw [bv_take, bv_drop, ← bv_append]; unfold blockW; rw [if_neg hb10, Nat.min_eq_left (by omega)]; simp only [padI, List.take_length, List.drop_replicate, List.take_zero, List.map_nil, List.nil_append, List.drop_zero]] at hM
    refine q_nil ?_
    replace hE : Env a 28 [(0, _), (1, _), (4, _), (5, _), (10, _)] := hE.sel [0, 1, 4, 5, 10] rfl
    refine hK5 _ _ ?_
    refine wp_seq_k (fun K6 hK6 => ?_)
    refine wp_seq_k (fun K7 hK7 => ?_)
    refine wp_plain [true] rfl rfl ?_
    refine s_move hE rfl rfl ?_; clear hE a; intro a hE
    refine q_nil ?_
    refine hK7 _ _ ?_
    refine wp_block ?_
    replace hM : Mem _ _ w3 [_, _] := hM.pick [0, 1] rfl
    refine c_loop (fun (i : Nat) a w' => i ≤ 64 ∧ Env a 28 [(1, bV x), (4, .pointer (some ⟨b4, 0, none⟩)), (5, .pointer (some ⟨b5, 0, none⟩)), (17, .int .i64 (i : Int))] ∧ Mem w [] w' [blk b5 [bv (padI (blockW key) x i)] [64] 51, blk b4 [bv (List.replicate 64 0)] [64] 51]) (fun i => 64 - i) 0 ⟨Nat.zero_le _, hE.sel [1, 4, 5, 17] rfl, hM⟩ ?_
    clear hE hM a; rintro i a w4 ⟨hi, hE, hM⟩
    refine wp_seq_k (fun K8 hK8 => ?_)
    refine wp_plain [true] rfl rfl ?_
    refine s_bin hE rfl rfl bin_lss rfl ?_; clear hE a; intro a hE
    refine q_nil ?_
    refine hK8 _ _ ?_
    refine wp_seq_k (fun K9 hK9 => ?_)
    refine hE.split 18 rfl (fun hb18 hE' => ?_) (fun hb18 hE' => ?_)
    · replace hE := hE'; clear hE'
      replace hb18 := of_decide_eq_true hb18
      replace hb18 : i < 64 := by omega
      refine wp_cond_true (hE.eval rfl) ?_
      refine wp_skip ?_
      refine hK9 _ _ ?_
      refine wp_seq_k (fun K10 hK10 => ?_)
      refine wp_block ?_
      refine wp_seq_k (fun K11 hK11 => ?_)
      refine wp_plain [true, true] rfl rfl ?_
      refine s_move hE rfl rfl ?_; clear hE a; intro a hE
      refine s_assign hE rfl rfl ?_; clear hE a; intro a hE
      refine q_nil ?_
      replace hE : Env a 28 [(1, _), (4, _), (5, _), (7, _), (17, _), (18, _)] := hE.sel [1, 4, 5, 7, 17, 18] rfl
      refine hK11 _ _ ?_
      refine wp_plain [true, true, true, true, true, true, false] rfl rfl ?_
      refine s_move hE rfl rfl ?_; clear hE a; intro a hE
      refine s_indexArr (j := i) hE rfl rfl arr51 (by first | rfl | omega) (by first | omega | decide) rfl ?_; clear hE a; intro a hE
      refine s_loadIdx (j := i) hE rfl (by omega) (hM.get 0 rfl) (bv_get (by simp only [bv_length, padI_length, blockW_length]; exact hb18)) one5 (by intro X h; cases h) rfl ?_; clear hE a; intro a hE
      refine s_move hE rfl rfl ?_; clear hE a; intro a hE
      refine s_bin hE rfl rfl bin_xor8 rfl ?_; clear hE a; intro a hE
      refine s_indexArr (j := i) hE rfl rfl arr51 (by first | rfl | omega) (by first | omega | decide) rfl ?_; clear hE a; intro a hE
      refine s_storeIdx (j := i) hE rfl (by omega) rfl hM rfl rfl sz5 (by simp only [bv_length, padI_length, blockW_length]; exact hb18) (by intro X h; cases h) ?_; intro w5 hM'; clear hM; have hM := hM'; clear hM'
      first | rw [bv_set'] at hM | rw [bv_setI] at hM
      refine q_nil ?_
      replace hE : Env a 28 [(1, _), (4, _), (5, _), (7, _), (17, _), (18, _)] := hE.sel [1, 4, 5, 7, 17, 18] rfl
      refine q_block_n ?_
      refine hK10 _ _ ?_
      refine wp_plain [true, true] rfl rfl ?_
      refine s_bin hE rfl rfl (bin_add (wrap_i64 (by omega) (by omega))) rfl ?_; clear hE a; intro a hE
      refine s_move hE rfl rfl ?_; clear hE a; intro a hE
      refine q_nil ?_
      replace hE : Env a 28 [(1, _), (4, _), (5, _), (7, _), (17, _), (18, _)] := hE.sel [1, 4, 5, 7, 17, 18] rfl
      replace hE := hE.cast 17 rfl (show _ = Value.int .i64 ((i + 1 : Nat) : Int) from congrArg _ (by omega))
      rw [padI_get (by rw [blockW_length]; exact hb18), padI_set (by rw [blockW_length]; exact hb18)] at hM
      exact ⟨i + 1, ⟨by omega, hE.sel [1, 4, 5, 17] rfl, hM⟩, by omega⟩
    · replace hE := hE'; clear hE'
      replace hb18 := of_decide_eq_false hb18
      replace hb18 : ¬ i < 64 := by omega
      obtain rfl : i = 64 := by omega
      refine wp_cond_false (hE.eval rfl) ?_
      refine wp_exit ?_
      refine q_then_e ?_
      refine q_then_e ?_
      refine q_block_x ?_
      refine hK6 _ _ ?_
      refine wp_seq_k (fun K10 hK10 => ?_)
      refine wp_plain [true, false] rfl rfl ?_
      refine s_loadN hE rfl (hM.get 0 rfl) row51 rfl (by intro X h; cases h) rfl ?_; clear hE a; intro a hE
      replace hM : Mem _ _ w4 [_, _] := hM.pick [1, 0] rfl
      refine s_storeSeg 0 hE rfl rfl hM rfl sz51 (by simp [padI_length, blockW_length]) (bv_one _) rfl (by simp) rfl (by intro X h; cases h) ?_; intro w5 hM'; clear hM; have hM := hM'; clear hM'
      simp only [List.set_cons_zero, List.set_cons_succ] at hM
      refine q_nil ?_
      replace hE : Env a 28 [(1, _), (4, _), (5, _), (17, _), (18, _)] := hE.sel [1, 4, 5, 17, 18] rfl
      refine hK10 _ _ ?_
      refine wp_ret ?_
      refine f_ret1 hE rfl (res_cellN rfl (hM.get 0 rfl) row51 rfl) ?_
      exact ⟨by rw [padI_all], hM.nil⟩
theorem parts_c (v u : Value) (key : List UInt8) (ps : List (List UInt8)) (us : List Value) (bb : List Nat) (c cu : Nat) (w : World) (hG : (glb 0).holds w) (hr : (rd v 1 key.length c (bv key)).holds w) (hu : (rd u 1 ps.length cu us).holds w) (hp : (rdv bb us ps).holds w) (hk : key.length ≤ 1099511627776) (hf : ps.flatten.length ≤ 549755813888) (hpl : ps.length ≤ 140737488355328) : Calls Tryd.prog 47 #[v, u] w fun e w' => e = .returned (.agg (bv (hmacW key ps.flatten)).toArray) ∧ Mem w [] w' [] := by
  have hM : Mem w [] w [rd v 1 key.length c (bv key), rd u 1 ps.length cu us, rdv bb us ps, glb 0] := Mem.startR w (fun g hg => by
    simp only [List.mem_cons, List.not_mem_nil, or_false] at hg
    rcases hg with rfl | rfl | rfl | rfl
    · exact ⟨hr, rfl⟩
    · exact ⟨hu, rfl⟩
    · exact ⟨hp, rfl⟩
    · exact ⟨hG, rfl⟩)
  have hul : us.length = ps.length := hp.2.1
  refine f_enter 32 Tryd.func47 rfl rfl rfl ?_
  intro a hE
  replace hE : Env a 32 [(0, _), (1, _)] := hE
  refine wp_seq_k (fun K1 hK1 => ?_)
  refine wp_plain [false] rfl rfl ?_
  refine s_alloc [32] hE hM zero34 rfl rfl ?_; clear hE a; intro a b4 w1 hE hM'
  clear hM; have hM := hM'; clear hM'
  refine q_nil ?_
  refine hK1 _ _ ?_
  refine wp_seq_k (fun K2 hK2 => ?_)
  refine wp_plain [true, false, true, false, false, false, false, false] rfl rfl ?_
  refine s_move hE rfl rfl ?_; clear hE a; intro a hE
  refine s_call hE rfl Tryd.call51 (pad_c v key c 54 _ (hM.get 4 rfl) (hM.get 1 rfl) hk) rfl ?_
  rintro e w2 ⟨rfl, hN⟩
  refine ⟨_, rfl, trivial, ?_⟩; clear hE a; intro a hE
  replace hM : Mem _ _ w2 [_, _, _, _, _] := hM.call0 hN trivial; clear hN
  refine s_move hE rfl rfl ?_; clear hE a; intro a hE
  refine s_call hE rfl Tryd.call51 (pad_c v key c 92 _ (hM.get 4 rfl) (hM.get 1 rfl) hk) rfl ?_
  rintro e w3 ⟨rfl, hN⟩
  refine ⟨_, rfl, trivial, ?_⟩; clear hE a; intro a hE
  replace hM : Mem _ _ w3 [_, _, _, _, _] := hM.call0 hN trivial; clear hN
  refine s_alloc [64] hE hM zero51 rfl rfl ?_; clear hE a; intro a b5 w4 hE hM'
  clear hM; have hM := hM'; clear hM'
  refine s_alloc [64] hE hM zero51 rfl rfl ?_; clear hE a; intro a b6 w5 hE hM'
  clear hM; have hM := hM'; clear hM'
  replace hM : Mem _ _ w5 [_, _, _, _, _, _, _] := hM.pick [1, 0, 2, 3, 4, 5, 6] rfl
  refine s_storeSeg 0 hE rfl rfl hM rfl sz51 (by simp) (bv_one _) rfl (by simp) rfl (by intro X h; cases h) ?_; intro w6 hM'; clear hM; have hM := hM'; clear hM'
  simp only [List.set_cons_zero, List.set_cons_succ] at hM
  replace hM : Mem _ _ w6 [_, _, _, _, _, _, _] := hM.pick [1, 0, 2, 3, 4, 5, 6] rfl
  refine s_storeSeg 0 hE rfl rfl hM rfl sz51 (by simp) (bv_one _) rfl (by simp) rfl (by intro X h; cases h) ?_; intro w7 hM'; clear hM; have hM := hM'; clear hM'
  simp only [List.set_cons_zero, List.set_cons_succ] at hM
  refine q_nil ?_
  replace hE : Env a 32 [(1, _), (4, _), (5, _), (6, _)] := hE.sel [1, 4, 5, 6] rfl
  refine hK2 _ _ ?_
  refine wp_seq_k (fun K3 hK3 => ?_)
  refine wp_plain [true, true] rfl rfl ?_
  refine s_sliceArr (l := 0) (h := 64) (mx' := 64) hE rfl arr51 rfl rfl rfl (by simp) (by omega) (by omega) (by omega) rfl ?_; clear hE a; intro a hE
  replace hE := hE.cast 15 rfl (show _ = Value.slice (some ⟨b5, 0, none⟩) 64 64 from rfl)
  replace hM : Mem _ _ w7 [_, _, _, _, _, _, _] := hM.pick [1, 0, 2, 3, 4, 5, 6] rfl
  replace hM := hM.blkOwn (k := 64) (es := 1) rfl (by decide)
  refine s_assign hE rfl rfl ?_; clear hE a; intro a hE
  refine q_nil ?_
  replace hE : Env a 32 [(1, _), (4, _), (5, _), (6, _), (7, _)] := hE.sel [1, 4, 5, 6, 7] rfl
  refine hK3 _ _ ?_
  refine wp_seq_k (fun K4 hK4 => ?_)
  refine wp_seq_k (fun K5 hK5 => ?_)
  refine wp_plain [true, true, true] rfl rfl ?_
  refine s_move hE rfl rfl ?_; clear hE a; intro a hE
  refine s_len hE rfl Tryd.underlying98 (rd_slice (hM.get 4 rfl)) rfl ?_; clear hE a; intro a hE
  refine s_move hE rfl rfl ?_; clear hE a; intro a hE
  refine q_nil ?_
  replace hE : Env a 32 [(4, _), (5, _), (6, _), (7, _), (16, _), (17, _), (18, _)] := hE.sel [4, 5, 6, 7, 16, 17, 18] rfl
  refine hK5 _ _ ?_
  refine wp_block ?_
  replace hM : Mem _ _ w7 [_, _, _, _, _, _, _] := hM.pick [0, 1, 2, 4, 5, 6, 3] rfl
  replace hM : Mem _ _ w7 [_, _, _, _, _, _] := hM.pick [0, 1, 2, 3, 4, 5] rfl
  refine c_loop (fun (i : Nat) a w' => i ≤ ps.length ∧ ∃ vo, Env a 32 [(4, .pointer (some ⟨b4, 0, none⟩)), (6, .pointer (some ⟨b6, 0, none⟩)), (7, vo), (16, u), (17, .int .i64 ps.length), (18, .int .i64 (i : Int))] ∧ Mem w [] w' [own vo 1 (padW key 54 ++ (ps.take i).flatten).length (bv (padW key 54 ++ (ps.take i).flatten)), blk b6 [bv (padW key 92)] [64] 51, blk b4 [bv (List.replicate 32 0)] [32] 34, rd u 1 ps.length cu us, rdv bb us ps, glb 0]) (fun i => ps.length - i) 0 ⟨Nat.zero_le _, _, hE.sel [4, 6, 7, 16, 17, 18] rfl, by simpa using hM⟩ ?_
  clear hE hM a; rintro i a w8 ⟨hi, vo, hE, hM⟩
  refine wp_seq_k (fun K6 hK6 => ?_)
  refine wp_plain [true] rfl rfl ?_
  refine s_bin hE rfl rfl bin_lss rfl ?_; clear hE a; intro a hE
  refine q_nil ?_
  refine hK6 _ _ ?_
  refine wp_seq_k (fun K7 hK7 => ?_)
  refine hE.split 19 rfl (fun hb19 hE' => ?_) (fun hb19 hE' => ?_)
  · replace hE := hE'; clear hE'
    replace hb19 := of_decide_eq_true hb19
    replace hb19 : i < ps.length := by omega
    refine wp_cond_true (hE.eval rfl) ?_
    refine wp_skip ?_
    refine hK7 _ _ ?_
    refine wp_seq_k (fun K8 hK8 => ?_)
    refine wp_block ?_
    refine wp_seq_k (fun K9 hK9 => ?_)
    refine wp_plain [true, true, true] rfl rfl ?_
    refine s_indexRd (j := i) hE rfl (hM.get 3 rfl) rfl slt98 (by first | rfl | omega) (by first | omega | (simp; omega) | decide) rfl ?_; clear hE a; intro a p20 hE hc20 hp20
    rw [elem1 (by omega)] at hc20
    refine s_loadAt1 hE rfl hc20 one82 (by intro X h; cases h) rfl ?_; clear hE a; intro a hE
    refine s_assign hE rfl rfl ?_; clear hE a; intro a hE
    refine q_nil ?_
    replace hE : Env a 32 [(4, _), (6, _), (7, _), (9, _), (16, _), (17, _), (18, _), (19, _)] := hE.sel [4, 6, 7, 9, 16, 17, 18, 19] rfl
    refine hK9 _ _ ?_
    refine wp_plain [true, true, false, true] rfl rfl ?_
    refine s_move hE rfl rfl ?_; clear hE a; intro a hE
    refine s_move hE rfl rfl ?_; clear hE a; intro a hE
    obtain ⟨ca, hpi⟩ := rdv_get (hM.get 4 rfl) (i := i) hb19
    have hle := flat_le ps (i + 1)
    rw [flat_succ hb19, List.length_append] at hle
    refine s_append hE rfl rfl hM sl82 (Src.rd Tryd.underlying82 hpi (bv_one _)) (len47 (by simp only [List.length_append, padW_length]; omega)) (by simp only [List.length_append, padW_length]; omega) (by intro X h; cases h) rfl ?_; clear hE a hpi; intro a v24 w9 hE hM'; clear hM; have hM := hM'; clear hM'
    replace hM := hM.ownEq (m' := (padW key 54 ++ (ps.take (i + 1)).flatten).length) (cs' := bv (padW key 54 ++ (ps.take (i + 1)).flatten)) (by rw [flat_succ hb19]; simp [Nat.add_assoc]) (by rw [flat_succ hb19, ← bv_append, List.append_assoc])
    refine s_assign hE rfl rfl ?_; clear hE a; intro a hE
    refine q_nil ?_
    replace hE : Env a 32 [(4, _), (6, _), (7, _), (9, _), (16, _), (17, _), (18, _), (19, _)] := hE.sel [4, 6, 7, 9, 16, 17, 18, 19] rfl
    refine q_block_n ?_
    refine hK8 _ _ ?_
    refine wp_plain [true, true] rfl rfl ?_
    refine s_bin hE rfl rfl (bin_add (wrap_i64 (by omega) (by omega))) rfl ?_; clear hE a; intro a hE
    refine s_move hE rfl rfl ?_; clear hE a; intro a hE
    refine q_nil ?_
    replace hE : Env a 32 [(4, _), (6, _), (7, _), (9, _), (16, _), (17, _), (18, _), (19, _)] := hE.sel [4, 6, 7, 9, 16, 17, 18, 19] rfl
    replace hE := hE.cast 18 rfl (show _ = Value.int .i64 ((i + 1 : Nat) : Int) from congrArg _ (by omega))
    exact ⟨i + 1, ⟨by omega, _, hE.sel [4, 6, 7, 16, 17, 18] rfl, hM⟩, by omega⟩
  · replace hE := hE'; clear hE'
    replace hb19 := of_decide_eq_false hb19
    replace hb19 : ¬ i < ps.length := by omega
    obtain rfl : i = ps.length := by omega
    rw [List.take_length] at hM
    refine wp_cond_false (hE.eval rfl) ?_
    refine wp_exit ?_
    refine q_then_e ?_
    refine q_then_e ?_
    refine q_block_x ?_
    refine hK4 _ _ ?_
    refine wp_seq_k (fun K8 hK8 => ?_)
    refine wp_plain [true, false, false, false] rfl rfl ?_
    refine s_move hE rfl rfl ?_; clear hE a; intro a hE
    obtain ⟨cl, hl⟩ := own_rd (hM.get 0 rfl)
    refine s_call hE rfl Tryd.call52 (sha_c _ (padW key 54 ++ ps.flatten) _ _ (hM.get 5 rfl) hl (by simp only [List.length_append, padW_length]; omega)) rfl ?_
    rintro e w9 ⟨rfl, hN⟩
    refine ⟨_, rfl, trivial, ?_⟩; clear hE a; intro a hE
    replace hM : Mem _ _ w9 [_, _, _, _, _, _] := hM.call0 hN trivial; clear hN
    refine s_alloc [32] hE hM zero34 rfl rfl ?_; clear hE a; intro a b10 w10 hE hM'
    clear hM; have hM := hM'; clear hM'
    refine s_storeSeg 0 hE rfl rfl hM rfl sz34 (by simp) (bv_one _) rfl (by simp) rfl (by intro X h; cases h) ?_; intro w11 hM'; clear hM; have hM := hM'; clear hM'
    simp only [List.set_cons_zero, List.set_cons_succ] at hM
    refine q_nil ?_
    replace hE : Env a 32 [(4, _), (6, _), (7, _), (10, _), (16, _), (17, _), (18, _), (19, _)] := hE.sel [4, 6, 7, 10, 16, 17, 18, 19] rfl
    refine hK8 _ _ ?_
    refine wp_seq_k (fun K9 hK9 => ?_)
    refine wp_drawnM2 hM (by kernel_rfl) (fun _ => True) (fun _ => True) [(0, true), (1, true)] [(2, false), (3, false), (4, false)] [(2, [(3, 2), (4, 2)]), (3, [(4, 3)]), (4, []), (0, [(2, 0), (3, 2), (4, 0)]), (1, [(2, 1), (3, 2), (4, 1)])] (by kernel_rfl) (by kernel_rfl) rfl rfl ?_
    intro w12 hM' hww12; clear hM; have hM := hM'; clear hM'
    refine s_sliceArr (l := 0) (h := 64) (mx' := 64) hE rfl arr51 rfl rfl rfl (by simp) (by omega) (by omega) (by omega) rfl ?_; clear hE a; intro a hE
    replace hE := hE.cast 28 rfl (show _ = Value.slice (some ⟨b6, 0, none⟩) 64 64 from rfl)
    replace hM : Mem _ _ w12 [_, _, _, _, _, _, _] := hM.pick [2, 0, 1, 3, 4, 5, 6] rfl
    replace hM := hM.blkOwn (k := 64) (es := 1) rfl (by decide)
    refine s_sliceArr (l := 0) (h := 32) (mx' := 32) hE rfl arr34 rfl rfl rfl (by simp) (by omega) (by omega) (by omega) rfl ?_; clear hE a; intro a hE
    replace hE := hE.cast 29 rfl (show _ = Value.slice (some ⟨b10, 0, none⟩) 32 32 from rfl)
    refine s_append hE rfl rfl hM sl82 (Src.rd Tryd.underlying82 (rd_of_arr (hM.get 1 rfl) (by simp)) (bv_one _)) (len47 (by simp)) (by simp) (by intro X h; cases h; simp) rfl ?_; clear hE a; intro a v30 w13 hE hM'; clear hM; have hM := hM'; clear hM'
    replace hM := hM.ownEq (m' := (padW key 92 ++ shaW (padW key 54 ++ ps.flatten)).length) (cs' := bv (padW key 92 ++ shaW (padW key 54 ++ ps.flatten))) (by simp) (by rw [bv_append])
    obtain ⟨cl, hl⟩ := own_rd (hM.get 0 rfl)
    refine s_call hE rfl Tryd.call52 (sha_c _ (padW key 92 ++ shaW (padW key 54 ++ ps.flatten)) _ _ (hM.get 6 rfl) hl (by simp)) rfl ?_
    rintro e w14 ⟨rfl, hN⟩
    refine ⟨_, rfl, hN.sta0 _, ?_⟩; clear hE a; intro a hE
    replace hM : Mem _ _ w14 [_, _, _, _, _, _, _] := hM.call0 hN trivial; clear hN
    replace hM : Mem _ _ w14 [_, _, _, _, _, _, _] := hM.pick [3, 0, 1, 2, 4, 5, 6] rfl
    refine s_storeSeg 0 hE rfl rfl hM rfl sz34 (by simp) (bv_one _) rfl (by simp) rfl (by intro X h; cases h; first | (simp; done) | simp [valBlocks]) ?_; intro w15 hM'; clear hM; have hM := hM'; clear hM'
    simp only [List.set_cons_zero, List.set_cons_succ] at hM
    refine q_nil ?_
    replace hE : Env a 32 [(4, _), (6, _), (7, _), (10, _), (16, _), (17, _), (18, _), (19, _)] := hE.sel [4, 6, 7, 10, 16, 17, 18, 19] rfl
    refine hK9 _ _ ?_
    refine wp_ret ?_
    refine f_ret1 hE rfl (res_cellN rfl (hM.get 0 rfl) row34 rfl) ?_
    exact ⟨rfl, hM.nil⟩
theorem of_c (v u : Value) (key msg : List UInt8) (c cu : Nat) (w : World) (hG : (glb 0).holds w) (hr : (rd v 1 key.length c (bv key)).holds w) (hu : (rd u 1 msg.length cu (bv msg)).holds w) (hk : key.length ≤ 1099511627776) (hf : msg.length ≤ 549755813888) : Calls Tryd.prog 43 #[v, u] w fun e w' => e = .returned (.agg (bv (hmacW key msg)).toArray) ∧ Mem w [] w' [] := by
  have hM : Mem w [] w [rd v 1 key.length c (bv key), rd u 1 msg.length cu (bv msg), glb 0] := Mem.startR w (fun g hg => by
    simp only [List.mem_cons, List.not_mem_nil, or_false] at hg
    rcases hg with rfl | rfl | rfl
    · exact ⟨hr, rfl⟩
    · exact ⟨hu, rfl⟩
    · exact ⟨hG, rfl⟩)
  refine f_enter 9 Tryd.func43 rfl rfl rfl ?_
  intro a hE
  replace hE : Env a 9 [(0, _), (1, _)] := hE
  refine wp_seq_k (fun K1 hK1 => ?_)
  refine wp_plain [false] rfl rfl ?_
  refine s_alloc [32] hE hM zero34 rfl rfl ?_; clear hE a; intro a b4 w1 hE hM'
  clear hM; have hM := hM'; clear hM'
  refine q_nil ?_
  refine hK1 _ _ ?_
  refine wp_seq_k (fun K2 hK2 => ?_)
  refine wp_plain [true, true, false, false, false] rfl rfl ?_
  refine s_move hE rfl rfl ?_; clear hE a; intro a hE
  refine s_move hE rfl rfl ?_; clear hE a; intro a hE
  refine s_buildSlice (xs := [.tmp 6]) ([u]) hE hM sl98 rfl rfl rfl (by intro v hv; rw [List.mem_singleton.1 hv]; rw [(rd_one hu).1]; rfl) (by simp [(rd_one hu).1]) rfl rfl rfl ?_; clear hE a; intro a v7 w2 hE hM'
  clear hM; have hM := hM'; clear hM'
  obtain ⟨cl, hl⟩ := own_rd (hM.get 0 rfl)
  refine s_call hE rfl Tryd.call47 ((by have h := parts_c v _ key [msg] _ _ c _ _ (hM.get 4 rfl) (hM.get 2 rfl) hl (rdv_cons (hM.get 3 rfl) (rdv_nil _)) hk (by simpa using hf) (by simp); rwa [List.flatten_singleton] at h)) rfl ?_
  rintro e w3 ⟨rfl, hN⟩
  refine ⟨_, rfl, trivial, ?_⟩; clear hE a; intro a hE
  replace hM : Mem _ _ w3 [_, _, _, _, _] := hM.call0 hN trivial; clear hN
  replace hM : Mem _ _ w3 [_, _, _, _, _] := hM.pick [1, 0, 2, 3, 4] rfl
  refine s_storeSeg 0 hE rfl rfl hM rfl sz34 (by simp) (bv_one _) rfl (by simp) rfl (by intro X h; cases h) ?_; intro w4 hM'; clear hM; have hM := hM'; clear hM'
  simp only [List.set_cons_zero, List.set_cons_succ] at hM
  refine q_nil ?_
  replace hE : Env a 9 [(4, _)] := hE.sel [4] rfl
  refine hK2 _ _ ?_
  refine wp_ret ?_
  refine f_ret1 hE rfl (res_cellN rfl (hM.get 0 rfl) row34 rfl) ?_
  exact ⟨rfl, hM.nil⟩
end Go.Proofs.YtacebdngbalkmaaDoor
