/- Walks of functions of the given program that the claim reaches. -/
import Derived.Test.YtniekapfoaiieaaDoorLs
set_option linter.unusedSimpArgs false
set_option linter.unusedVariables false
namespace Go.Proofs.YtniekapfoaiieaaDoor
open Go Go.Kx
theorem zero122 : Zero Tryd.prog 122 [bv (List.replicate 64 0)] := ⟨.agg ([bv (List.replicate 64 0)] : List (List Value)).flatten.toArray,by kernel_rfl,by kernel_rfl⟩
theorem arr122 : arrT Tryd.prog 122 = some (64,1) := by kernel_rfl
theorem row122 : RowT Tryd.prog 122 64 := RowT.of Tryd.underlying122 rfl (by kernel_rfl)
theorem sz122 : (Tryd.prog.info? 122).map (·.size) = some 64 := by kernel_rfl
theorem slt117 : slT Tryd.prog 117 = some 1 := by kernel_rfl
theorem one42 : OneT Tryd.prog 42 := OneT.of Tryd.underlying42 rfl (by kernel_rfl)
theorem sl117 : SlT Tryd.prog 117 42 1 24 := ⟨Tryd.underlying117,by kernel_rfl,by kernel_rfl,.slice none 0 0,by kernel_rfl,rfl⟩
theorem pad_c (v : Value) (key : List UInt8) (c : Nat) (x : UInt8) (w : World) (hG : (glb 1).holds w) (hr : (rd v 1 key.length c (bv key)).holds w) (hk : key.length ≤ 1099511627776) : Calls Tryd.prog 79 #[v,bV x] w fun e w' => e = .returned (.agg (bv (padW key x)).toArray) ∧ Mem w [] w' [] := by
 have hM := Mem.startR2 hr hG rfl rfl
 refine f_enter 28 Tryd.func79 rfl rfl rfl ?_
 intro a hE
 replace hE : Env a 28 [(0,_),(1,_)] := hE
 refine wp_seq_k fun K1 hK1=>wp_plain [false] rfl rfl ?_
 refine s_alloc [64] hE hM zero122 rfl rfl ?_;intro a b4 w1 hE hM'
 replace hM := hM'
 refine q_nil (hK1 _ _ (wp_seq_k fun K2 hK2=>wp_plain [false] rfl rfl ?_))
 refine s_alloc [64] hE hM zero122 rfl rfl ?_;intro a b5 w2 hE hM'
 replace hM := hM'
 refine q_nil (hK2 _ _ (wp_seq_k fun K3 hK3=>wp_seq_k fun K4 hK4=>wp_plain [true,true,true] rfl rfl (s_move hE rfl rfl fun a hE=>s_len hE rfl Tryd.underlying42 (rd_slice (hM.get 2 rfl)) rfl fun a hE=>s_bin hE rfl rfl bin_gtr rfl fun a hE=>q_nil ?_)))
 replace hE : Env a 28 [(0,_),(1,_),(4,_),(5,_),(10,_)] := hE.sl rfl
 refine hK4 _ _ ?_
 refine hE.split 10 rfl (fun hb10 hE=>?_) (fun hb10 hE=>?_)
 ·replace hb10 := of_decide_eq_true hb10
  replace hb10 : 64 < key.length := by omega
  refine wp_cond_true (hE.eval rfl) (wp_seq_k fun K5 hK5=>wp_plain [true,false,false,false] rfl rfl (s_move hE rfl rfl fun a hE=>s_call hE rfl Tryd.call80 (sha_c v key c _ (hM.get 3 rfl) (hM.get 2 rfl) hk) rfl ?_))
  rintro e w3 ⟨rfl,hN⟩
  refine ⟨_,rfl,trivial,fun a hE=>?_⟩
  replace hM : Mem _ _ w3 [_,_,_,_] := hM.call0 hN trivial;clear hN
  refine s_alloc [32] hE hM zero27 rfl rfl ?_;intro a b6 w4 hE hM'
  replace hM := hM'
  refine s_storeSeg 0 hE rfl rfl hM rfl sz27 (by simp) (bv_one _) rfl (by simp) rfl (by intro X h;cases h) ?_;intro w5 hM';replace hM := hM'
  simp only [List.set_cons_zero,List.set_cons_succ] at hM
  refine q_nil ?_
  replace hE : Env a 28 [(0,_),(1,_),(4,_),(5,_),(6,_),(10,_)] := hE.sl rfl
  refine hK5 _ _ (wp_plain [true,true] rfl rfl (s_sliceArr (l := 0) (h := 32) (mx' := 32) hE rfl arr27 rfl rfl rfl (by simp) (by omega) (by omega) (by omega) rfl fun a hE=>?_))
  replace hE := hE.cast 13 rfl (show _ = Value.slice (some ⟨b6,0,none⟩) 32 32 from rfl)
  refine s_assign hE rfl rfl fun a hE=>q_nil ?_
  replace hE : Env a 28 [(0,_),(1,_),(4,_),(5,_),(6,_),(10,_)] := hE.sl rfl
  refine hK3 _ _ (wp_seq_k fun K6 hK6=>wp_plain [true,true,false] rfl rfl (s_sliceArr (l := 0) (h := 64) (mx' := 64) hE rfl arr122 rfl rfl rfl (by simp) (by omega) (by omega) (by omega) rfl fun a hE=>?_))
  replace hE := hE.cast 14 rfl (show _ = Value.slice (some ⟨b5,0,none⟩) 64 64 from rfl)
  refine s_move hE rfl rfl fun a hE=>?_
  replace hM : Mem _ _ w5 [_,_,_,_,_] := hM.pick [1,0,2,3,4] rfl
  refine s_copyArr (l := 64) hE rfl rfl hM (rd_of_arr (hM.get 1 rfl) (by simp)) (bv_one _) sl42 (by intro X h;cases h) rfl ?_;intro a w6 hE hM';replace hM := hM'
  rw [show (bv (shaW key)).take (min (shaW key).length 64) ++ (bv (List.replicate 64 0)).drop (min (shaW key).length 64) = bv (padI (blockW key) x 0) from by rw [bv_take,bv_drop,← bv_append];unfold blockW;rw [if_pos hb10];simp [padI,List.take_of_length_le]] at hM
  refine q_nil ?_
  replace hE : Env a 28 [(0,_),(1,_),(4,_),(5,_),(6,_),(10,_)] := hE.sl rfl
  refine hK6 _ _ (wp_seq_k fun K7 hK7=>wp_seq_k fun K8 hK8=>wp_plain [true] rfl rfl (s_move hE rfl rfl fun a hE=>q_nil (hK8 _ _ (wp_block ?_))))
  replace hM : Mem _ _ w6 [_,_,_,_,_] := hM.pick [0,2,1,3,4] rfl
  replace hM : Mem _ _ w6 [_,_] := hM.pick [0,1] rfl
  refine c_loop (fun (i : Nat) a w' => i ≤ 64 ∧ Env a 28 [(1,bV x),(4,.pointer (some ⟨b4,0,none⟩)),(5,.pointer (some ⟨b5,0,none⟩)),(17,.int .i64 (i : Int))] ∧ Mem w [] w' [blk b5 [bv (padI (blockW key) x i)] [64] 122,blk b4 [bv (List.replicate 64 0)] [64] 122]) (fun i => 64 - i) 0 ⟨Nat.zero_le _,hE.sel [1,4,5,17] rfl,hM⟩ ?_
  rintro i a w7 ⟨hi,hE,hM⟩
  refine wp_seq_k fun K9 hK9=>wp_plain [true] rfl rfl (s_bin hE rfl rfl bin_lss rfl fun a hE=>q_nil (hK9 _ _ (wp_seq_k fun K10 hK10=>?_)))
  refine hE.split 18 rfl (fun hb18 hE=>?_) (fun hb18 hE=>?_)
  ·replace hb18 := of_decide_eq_true hb18
   replace hb18 : i < 64 := by omega
   refine wp_cond_true (hE.eval rfl) (wp_skip (hK10 _ _ (wp_seq_k fun K11 hK11=>wp_block (wp_seq_k fun K12 hK12=>wp_plain [true,true] rfl rfl (s_move hE rfl rfl fun a hE=>s_assign hE rfl rfl fun a hE=>q_nil ?_)))))
   replace hE : Env a 28 [(1,_),(4,_),(5,_),(7,_),(17,_),(18,_)] := hE.sl rfl
   refine hK12 _ _ (wp_plain [true,true,true,true,true,true,false] rfl rfl (s_move hE rfl rfl fun a hE=>s_indexArr (j := i) hE rfl rfl arr122 (by first | rfl | omega) (by first | omega | decide) rfl fun a hE=>?_))
   refine s_loadIdx (j := i) hE rfl (by omega) (hM.get 0 rfl) (bv_get (by simp only [bv_length,padI_length,blockW_length];exact hb18)) one5 (by intro X h;cases h) rfl fun a hE=>?_
   refine s_move hE rfl rfl fun a hE=>s_bin hE rfl rfl bin_xor8 rfl fun a hE=>s_indexArr (j := i) hE rfl rfl arr122 (by first | rfl | omega) (by first | omega | decide) rfl fun a hE=>?_
   refine s_storeIdx (j := i) hE rfl (by omega) rfl hM rfl rfl sz5 (by simp only [bv_length,padI_length,blockW_length];exact hb18) (by intro X h;cases h) ?_;intro w8 hM';replace hM := hM'
   first | rw [bv_set'] at hM | rw [bv_setI] at hM
   refine q_nil ?_
   replace hE : Env a 28 [(1,_),(4,_),(5,_),(7,_),(17,_),(18,_)] := hE.sl rfl
   refine q_block_n (hK11 _ _ (wp_plain [true,true] rfl rfl (s_bin hE rfl rfl (bin_add (wrap_i64 (by omega) (by omega))) rfl fun a hE=>?_)))
   refine s_move hE rfl rfl fun a hE=>q_nil ?_
   replace hE : Env a 28 [(1,_),(4,_),(5,_),(7,_),(17,_),(18,_)] := hE.sl rfl
   replace hE := hE.cast 17 rfl (show _ = Value.int .i64 ((i + 1 : Nat) : Int) from congrArg _ (by omega))
   rw [padI_get (by rw [blockW_length];exact hb18),padI_set (by rw [blockW_length];exact hb18)] at hM
   exact ⟨i + 1,⟨by omega,hE.sel [1,4,5,17] rfl,hM⟩,by omega⟩
  ·replace hb18 := of_decide_eq_false hb18
   replace hb18 : ¬ i < 64 := by omega
   obtain rfl : i = 64 := by omega
   refine wp_cond_false (hE.eval rfl) (wp_exit (q_then_e (q_then_e (q_block_x (hK7 _ _ (wp_seq_k fun K11 hK11=>wp_plain [true,false] rfl rfl (s_loadN hE rfl (hM.get 0 rfl) row122 rfl (by intro X h;cases h) rfl fun a hE=>?_)))))))
   replace hM : Mem _ _ w7 [_,_] := hM.pick [1,0] rfl
   refine s_storeSeg 0 hE rfl rfl hM rfl sz122 (by simp [padI_length,blockW_length]) (bv_one _) rfl (by simp) rfl (by intro X h;cases h) ?_;intro w8 hM';replace hM := hM'
   simp only [List.set_cons_zero,List.set_cons_succ] at hM
   refine q_nil ?_
   replace hE : Env a 28 [(1,_),(4,_),(5,_),(17,_),(18,_)] := hE.sl rfl
   exact hK11 _ _ (wp_ret (f_ret1 hE rfl (res_cellN rfl (hM.get 0 rfl) row122 rfl) ⟨by rw [padI_all],hM.nil⟩))
 ·replace hb10 := of_decide_eq_false hb10
  replace hb10 : ¬ 64 < key.length := by omega
  refine wp_cond_false (hE.eval rfl) (wp_skip (hK3 _ _ (wp_seq_k fun K5 hK5=>wp_plain [true,true,false] rfl rfl (s_sliceArr (l := 0) (h := 64) (mx' := 64) hE rfl arr122 rfl rfl rfl (by simp) (by omega) (by omega) (by omega) rfl fun a hE=>?_))))
  replace hE := hE.cast 14 rfl (show _ = Value.slice (some ⟨b5,0,none⟩) 64 64 from rfl)
  refine s_move hE rfl rfl fun a hE=>?_
  refine s_copyArr (l := 64) hE rfl rfl hM (hM.get 2 rfl) (bv_one _) sl42 (by intro X h;cases h) rfl ?_;intro a w3 hE hM';replace hM := hM'
  rw [show (bv (key)).take (min key.length 64) ++ (bv (List.replicate 64 0)).drop (min key.length 64) = bv (padI (blockW key) x 0) from by rw [bv_take,bv_drop,← bv_append];unfold blockW;rw [if_neg hb10,Nat.min_eq_left (by omega)];simp only [padI,List.take_length,List.drop_replicate,List.take_zero,List.map_nil,List.nil_append,List.drop_zero]] at hM
  refine q_nil ?_
  replace hE : Env a 28 [(0,_),(1,_),(4,_),(5,_),(10,_)] := hE.sl rfl
  refine hK5 _ _ (wp_seq_k fun K6 hK6=>wp_seq_k fun K7 hK7=>wp_plain [true] rfl rfl (s_move hE rfl rfl fun a hE=>q_nil (hK7 _ _ (wp_block ?_))))
  replace hM : Mem _ _ w3 [_,_] := hM.pick [0,1] rfl
  refine c_loop (fun (i : Nat) a w' => i ≤ 64 ∧ Env a 28 [(1,bV x),(4,.pointer (some ⟨b4,0,none⟩)),(5,.pointer (some ⟨b5,0,none⟩)),(17,.int .i64 (i : Int))] ∧ Mem w [] w' [blk b5 [bv (padI (blockW key) x i)] [64] 122,blk b4 [bv (List.replicate 64 0)] [64] 122]) (fun i => 64 - i) 0 ⟨Nat.zero_le _,hE.sel [1,4,5,17] rfl,hM⟩ ?_
  rintro i a w4 ⟨hi,hE,hM⟩
  refine wp_seq_k fun K8 hK8=>wp_plain [true] rfl rfl (s_bin hE rfl rfl bin_lss rfl fun a hE=>q_nil (hK8 _ _ (wp_seq_k fun K9 hK9=>?_)))
  refine hE.split 18 rfl (fun hb18 hE=>?_) (fun hb18 hE=>?_)
  ·replace hb18 := of_decide_eq_true hb18
   replace hb18 : i < 64 := by omega
   refine wp_cond_true (hE.eval rfl) (wp_skip (hK9 _ _ (wp_seq_k fun K10 hK10=>wp_block (wp_seq_k fun K11 hK11=>wp_plain [true,true] rfl rfl (s_move hE rfl rfl fun a hE=>s_assign hE rfl rfl fun a hE=>q_nil ?_)))))
   replace hE : Env a 28 [(1,_),(4,_),(5,_),(7,_),(17,_),(18,_)] := hE.sl rfl
   refine hK11 _ _ (wp_plain [true,true,true,true,true,true,false] rfl rfl (s_move hE rfl rfl fun a hE=>s_indexArr (j := i) hE rfl rfl arr122 (by first | rfl | omega) (by first | omega | decide) rfl fun a hE=>?_))
   refine s_loadIdx (j := i) hE rfl (by omega) (hM.get 0 rfl) (bv_get (by simp only [bv_length,padI_length,blockW_length];exact hb18)) one5 (by intro X h;cases h) rfl fun a hE=>?_
   refine s_move hE rfl rfl fun a hE=>s_bin hE rfl rfl bin_xor8 rfl fun a hE=>s_indexArr (j := i) hE rfl rfl arr122 (by first | rfl | omega) (by first | omega | decide) rfl fun a hE=>?_
   refine s_storeIdx (j := i) hE rfl (by omega) rfl hM rfl rfl sz5 (by simp only [bv_length,padI_length,blockW_length];exact hb18) (by intro X h;cases h) ?_;intro w5 hM';replace hM := hM'
   first | rw [bv_set'] at hM | rw [bv_setI] at hM
   refine q_nil ?_
   replace hE : Env a 28 [(1,_),(4,_),(5,_),(7,_),(17,_),(18,_)] := hE.sl rfl
   refine q_block_n (hK10 _ _ (wp_plain [true,true] rfl rfl (s_bin hE rfl rfl (bin_add (wrap_i64 (by omega) (by omega))) rfl fun a hE=>?_)))
   refine s_move hE rfl rfl fun a hE=>q_nil ?_
   replace hE : Env a 28 [(1,_),(4,_),(5,_),(7,_),(17,_),(18,_)] := hE.sl rfl
   replace hE := hE.cast 17 rfl (show _ = Value.int .i64 ((i + 1 : Nat) : Int) from congrArg _ (by omega))
   rw [padI_get (by rw [blockW_length];exact hb18),padI_set (by rw [blockW_length];exact hb18)] at hM
   exact ⟨i + 1,⟨by omega,hE.sel [1,4,5,17] rfl,hM⟩,by omega⟩
  ·replace hb18 := of_decide_eq_false hb18
   replace hb18 : ¬ i < 64 := by omega
   obtain rfl : i = 64 := by omega
   refine wp_cond_false (hE.eval rfl) (wp_exit (q_then_e (q_then_e (q_block_x (hK6 _ _ (wp_seq_k fun K10 hK10=>wp_plain [true,false] rfl rfl (s_loadN hE rfl (hM.get 0 rfl) row122 rfl (by intro X h;cases h) rfl fun a hE=>?_)))))))
   replace hM : Mem _ _ w4 [_,_] := hM.pick [1,0] rfl
   refine s_storeSeg 0 hE rfl rfl hM rfl sz122 (by simp [padI_length,blockW_length]) (bv_one _) rfl (by simp) rfl (by intro X h;cases h) ?_;intro w5 hM';replace hM := hM'
   simp only [List.set_cons_zero,List.set_cons_succ] at hM
   refine q_nil ?_
   replace hE : Env a 28 [(1,_),(4,_),(5,_),(17,_),(18,_)] := hE.sl rfl
   exact hK10 _ _ (wp_ret (f_ret1 hE rfl (res_cellN rfl (hM.get 0 rfl) row122 rfl) ⟨by rw [padI_all],hM.nil⟩))
theorem same_c (x y : List UInt8) (w : World) (hx : x.length = 32) (hy : y.length = 32) : Calls Tryd.prog 43 #[.agg (bv x).toArray,.agg (bv y).toArray] w fun e w' => e = .returned (.bool (decide (x = y))) ∧ Mem w [] w' [] := by
 have hM := Mem.start0 w
 refine f_enter 22 Tryd.func43 rfl rfl rfl ?_
 intro a hE
 replace hE : Env a 22 [(0,_),(1,_)] := hE
 refine wp_seq_k fun K1 hK1=>wp_plain [false,false,true] rfl rfl ?_
 refine s_box (ss := [bv x]) [32] hE hM rfl (by simp [Value.cells]) (by simp [hx,hy]) rfl ?_;intro a b2 w1 hE hM'
 replace hM := hM'
 refine s_box (ss := [bv y]) [32] hE hM rfl (by simp [Value.cells]) (by simp [hx,hy]) rfl ?_;intro a b3 w2 hE hM'
 replace hM := hM'
 refine s_assign hE rfl rfl fun a hE=>q_nil ?_
 replace hE : Env a 22 [(2,_),(3,_),(4,_)] := hE.sl rfl
 refine hK1 _ _ (wp_seq_k fun K2 hK2=>wp_plain [true] rfl rfl (s_assign hE rfl rfl fun a hE=>q_nil (hK2 _ _ (wp_seq_k fun K3 hK3=>wp_seq_k fun K4 hK4=>wp_plain [true] rfl rfl (s_move hE rfl rfl fun a hE=>?_)))))
 refine q_nil (hK4 _ _ (wp_block ?_))
 replace hM : Mem _ _ w2 [_,_] := hM.pick [1,0] rfl
 refine c_loop (fun (i : Nat) a w' => i ≤ 32 ∧ Env a 22 [(2,.pointer (some ⟨b2,0,none⟩)),(3,.pointer (some ⟨b3,0,none⟩)),(5,bV (diffW x y i)),(7,.int .i64 (i : Int))] ∧ Mem w [] w' [blk b2 [bv x] [32] 27,blk b3 [bv y] [32] 27]) (fun i => 32 - i) 0 ⟨Nat.zero_le _,hE.sel [2,3,5,7] rfl,hM⟩ ?_
 rintro i a w3 ⟨hi,hE,hM⟩
 refine wp_seq_k fun K5 hK5=>wp_plain [true] rfl rfl (s_bin hE rfl rfl bin_lss rfl fun a hE=>q_nil (hK5 _ _ (wp_seq_k fun K6 hK6=>?_)))
 refine hE.split 8 rfl (fun hb8 hE=>?_) (fun hb8 hE=>?_)
 ·replace hb8 := of_decide_eq_true hb8
  replace hb8 : i < 32 := by omega
  refine wp_cond_true (hE.eval rfl) (wp_skip (hK6 _ _ (wp_seq_k fun K7 hK7=>wp_block (wp_seq_k fun K8 hK8=>wp_plain [true,true] rfl rfl (s_move hE rfl rfl fun a hE=>s_assign hE rfl rfl fun a hE=>q_nil ?_)))))
  replace hE : Env a 22 [(2,_),(3,_),(5,_),(6,_),(7,_),(8,_)] := hE.sl rfl
  refine hK8 _ _ (wp_drawnM hM (by kernel_rfl) (fun _ => False) [(0,true),(1,true),(2,true),(3,true),(4,true),(5,true),(6,true),(7,true),(8,true),(9,true)] [] (by kernel_rfl) rfl ?_)
  intro w4 hM' hww4;replace hM := hM'
  refine s_move hE rfl rfl fun a hE=>s_move hE rfl rfl fun a hE=>s_indexArr (j := i) hE rfl rfl arr27 (by first | rfl | omega) (by first | omega | decide) rfl fun a hE=>?_
  refine s_loadIdx (j := i) hE rfl (by omega) (hM.get 0 rfl) (bv_get (by omega)) one5 (by intro X h;cases h;simp) rfl fun a hE=>?_
  refine s_move hE rfl rfl fun a hE=>s_indexArr (j := i) hE rfl rfl arr27 (by first | rfl | omega) (by first | omega | decide) rfl fun a hE=>?_
  refine s_loadIdx (j := i) hE rfl (by omega) (hM.get 1 rfl) (bv_get (by omega)) one5 (by intro X h;cases h;simp) rfl fun a hE=>?_
  refine s_bin hE rfl rfl bin_xor8 rfl fun a hE=>s_bin hE rfl rfl bin_or8 rfl fun a hE=>s_assign hE rfl rfl fun a hE=>q_nil ?_
  replace hE : Env a 22 [(2,_),(3,_),(5,_),(6,_),(7,_),(8,_)] := hE.sl rfl
  refine q_block_n (hK7 _ _ (wp_plain [true,true] rfl rfl (s_bin hE rfl rfl (bin_add (wrap_i64 (by omega) (by omega))) rfl fun a hE=>?_)))
  refine s_move hE rfl rfl fun a hE=>q_nil ?_
  replace hE : Env a 22 [(2,_),(3,_),(5,_),(6,_),(7,_),(8,_)] := hE.sl rfl
  replace hE := hE.cast 7 rfl (show _ = Value.int .i64 ((i + 1 : Nat) : Int) from congrArg _ (by omega))
  exact ⟨i + 1,⟨by omega,hE.sel [2,3,5,7] rfl,hM⟩,by omega⟩
 ·replace hb8 := of_decide_eq_false hb8
  replace hb8 : ¬ i < 32 := by omega
  obtain rfl : i = 32 := by omega
  refine wp_cond_false (hE.eval rfl) (wp_exit (q_then_e (q_then_e (q_block_x (hK3 _ _ (wp_seq_k fun K7 hK7=>wp_plain [true,true,true] rfl rfl (s_move hE rfl rfl fun a hE=>s_bin hE rfl rfl bin_eql rfl fun a hE=>?_)))))))
  refine s_assign hE rfl rfl fun a hE=>q_nil ?_
  replace hE : Env a 22 [(2,_),(3,_),(4,_),(5,_),(7,_),(8,_)] := hE.sl rfl
  refine hK7 _ _ (wp_ret (f_ret1 hE rfl rfl ?_))
  refine ⟨?_,hM.nil⟩
  refine congrArg _ (congrArg Value.bool (decide_eq_decide.2 ?_))
  rw [← getD_all_eq (by omega),hx,← diffW_zero 32,← UInt8.toNat_inj]
  simp
theorem parts_c (v u : Value) (key : List UInt8) (ps : List (List UInt8)) (us : List Value) (bb : List Nat) (c cu : Nat) (w : World) (hG : (glb 1).holds w) (hr : (rd v 1 key.length c (bv key)).holds w) (hu : (rd u 1 ps.length cu us).holds w) (hp : (rdv bb us ps).holds w) (hk : key.length ≤ 1099511627776) (hf : ps.flatten.length ≤ 549755813888) (hpl : ps.length ≤ 140737488355328) : Calls Tryd.prog 66 #[v,u] w fun e w' => e = .returned (.agg (bv (hmacW key ps.flatten)).toArray) ∧ Mem w [] w' [] := by
 have hM : Mem w [] w [rd v 1 key.length c (bv key),rd u 1 ps.length cu us,rdv bb us ps,glb 1] := Mem.startR w (fun g hg => by
  simp only [List.mem_cons,List.not_mem_nil,or_false] at hg
  rcases hg with rfl | rfl | rfl | rfl
  ·exact ⟨hr,rfl⟩
  ·exact ⟨hu,rfl⟩
  ·exact ⟨hp,rfl⟩
  ·exact ⟨hG,rfl⟩)
 have hul : us.length = ps.length := hp.2.1
 refine f_enter 32 Tryd.func66 rfl rfl rfl ?_
 intro a hE
 replace hE : Env a 32 [(0,_),(1,_)] := hE
 refine wp_seq_k fun K1 hK1=>wp_plain [false] rfl rfl ?_
 refine s_alloc [32] hE hM zero27 rfl rfl ?_;intro a b4 w1 hE hM'
 replace hM := hM'
 refine q_nil (hK1 _ _ (wp_seq_k fun K2 hK2=>wp_plain [true,false,true,false,false,false,false,false] rfl rfl (s_move hE rfl rfl fun a hE=>s_call hE rfl Tryd.call79 (pad_c v key c 54 _ (hM.get 4 rfl) (hM.get 1 rfl) hk) rfl ?_)))
 rintro e w2 ⟨rfl,hN⟩
 refine ⟨_,rfl,trivial,fun a hE=>?_⟩
 replace hM : Mem _ _ w2 [_,_,_,_,_] := hM.call0 hN trivial;clear hN
 refine s_move hE rfl rfl fun a hE=>s_call hE rfl Tryd.call79 (pad_c v key c 92 _ (hM.get 4 rfl) (hM.get 1 rfl) hk) rfl ?_
 rintro e w3 ⟨rfl,hN⟩
 refine ⟨_,rfl,trivial,fun a hE=>?_⟩
 replace hM : Mem _ _ w3 [_,_,_,_,_] := hM.call0 hN trivial;clear hN
 refine s_alloc [64] hE hM zero122 rfl rfl ?_;intro a b5 w4 hE hM'
 replace hM := hM'
 refine s_alloc [64] hE hM zero122 rfl rfl ?_;intro a b6 w5 hE hM'
 replace hM := hM'
 replace hM : Mem _ _ w5 [_,_,_,_,_,_,_] := hM.pick [1,0,2,3,4,5,6] rfl
 refine s_storeSeg 0 hE rfl rfl hM rfl sz122 (by simp) (bv_one _) rfl (by simp) rfl (by intro X h;cases h) ?_;intro w6 hM';replace hM := hM'
 simp only [List.set_cons_zero,List.set_cons_succ] at hM
 replace hM : Mem _ _ w6 [_,_,_,_,_,_,_] := hM.pick [1,0,2,3,4,5,6] rfl
 refine s_storeSeg 0 hE rfl rfl hM rfl sz122 (by simp) (bv_one _) rfl (by simp) rfl (by intro X h;cases h) ?_;intro w7 hM';replace hM := hM'
 simp only [List.set_cons_zero,List.set_cons_succ] at hM
 refine q_nil ?_
 replace hE : Env a 32 [(1,_),(4,_),(5,_),(6,_)] := hE.sl rfl
 refine hK2 _ _ (wp_seq_k fun K3 hK3=>wp_plain [true,true] rfl rfl (s_sliceArr (l := 0) (h := 64) (mx' := 64) hE rfl arr122 rfl rfl rfl (by simp) (by omega) (by omega) (by omega) rfl fun a hE=>?_))
 replace hE := hE.cast 15 rfl (show _ = Value.slice (some ⟨b5,0,none⟩) 64 64 from rfl)
 replace hM : Mem _ _ w7 [_,_,_,_,_,_,_] := hM.pick [1,0,2,3,4,5,6] rfl
 replace hM := hM.blkOwn (k := 64) (es := 1) rfl (by decide)
 refine s_assign hE rfl rfl fun a hE=>q_nil ?_
 replace hE : Env a 32 [(1,_),(4,_),(5,_),(6,_),(7,_)] := hE.sl rfl
 refine hK3 _ _ (wp_seq_k fun K4 hK4=>wp_seq_k fun K5 hK5=>wp_plain [true,true,true] rfl rfl (s_move hE rfl rfl fun a hE=>s_len hE rfl Tryd.underlying117 (rd_slice (hM.get 4 rfl)) rfl fun a hE=>s_move hE rfl rfl fun a hE=>q_nil ?_))
 replace hE : Env a 32 [(4,_),(5,_),(6,_),(7,_),(16,_),(17,_),(18,_)] := hE.sl rfl
 refine hK5 _ _ (wp_block ?_)
 replace hM : Mem _ _ w7 [_,_,_,_,_,_,_] := hM.pick [0,1,2,4,5,6,3] rfl
 replace hM : Mem _ _ w7 [_,_,_,_,_,_] := hM.pick [0,1,2,3,4,5] rfl
 refine c_loop (fun (i : Nat) a w' => i ≤ ps.length ∧ ∃ vo,Env a 32 [(4,.pointer (some ⟨b4,0,none⟩)),(6,.pointer (some ⟨b6,0,none⟩)),(7,vo),(16,u),(17,.int .i64 ps.length),(18,.int .i64 (i : Int))] ∧ Mem w [] w' [own vo 1 (padW key 54 ++ (ps.take i).flatten).length (bv (padW key 54 ++ (ps.take i).flatten)),blk b6 [bv (padW key 92)] [64] 122,blk b4 [bv (List.replicate 32 0)] [32] 27,rd u 1 ps.length cu us,rdv bb us ps,glb 1]) (fun i => ps.length - i) 0 ⟨Nat.zero_le _,_,hE.sel [4,6,7,16,17,18] rfl,by simpa using hM⟩ ?_
 rintro i a w8 ⟨hi,vo,hE,hM⟩
 refine wp_seq_k fun K6 hK6=>wp_plain [true] rfl rfl (s_bin hE rfl rfl bin_lss rfl fun a hE=>q_nil (hK6 _ _ (wp_seq_k fun K7 hK7=>?_)))
 refine hE.split 19 rfl (fun hb19 hE=>?_) (fun hb19 hE=>?_)
 ·replace hb19 := of_decide_eq_true hb19
  replace hb19 : i < ps.length := by omega
  refine wp_cond_true (hE.eval rfl) (wp_skip (hK7 _ _ (wp_seq_k fun K8 hK8=>wp_block (wp_seq_k fun K9 hK9=>wp_plain [true,true,true] rfl rfl ?_))))
  refine s_indexRd (j := i) hE rfl (hM.get 3 rfl) rfl slt117 (by first | rfl | omega) (by first | omega | (simp;omega) | decide) rfl ?_;intro a p20 hE hc20 hp20
  rw [elem1 (by omega)] at hc20
  refine s_loadAt1 hE rfl hc20 one42 (by intro X h;cases h) rfl fun a hE=>?_
  refine s_assign hE rfl rfl fun a hE=>q_nil ?_
  replace hE : Env a 32 [(4,_),(6,_),(7,_),(9,_),(16,_),(17,_),(18,_),(19,_)] := hE.sl rfl
  refine hK9 _ _ (wp_plain [true,true,false,true] rfl rfl (s_move hE rfl rfl fun a hE=>s_move hE rfl rfl fun a hE=>?_))
  obtain ⟨ca,hpi⟩ := rdv_get (hM.get 4 rfl) (i := i) hb19
  have hle := flat_le ps (i + 1)
  rw [flat_succ hb19,List.length_append] at hle
  refine s_append hE rfl rfl hM sl42 (Src.rd Tryd.underlying42 hpi (bv_one _)) (len47 (by simp only [List.length_append,padW_length];omega)) (by simp only [List.length_append,padW_length];omega) (by intro X h;cases h) rfl ?_;clear hpi;intro a v24 w9 hE hM';replace hM := hM'
  replace hM := hM.ownEq (m' := (padW key 54 ++ (ps.take (i + 1)).flatten).length) (cs' := bv (padW key 54 ++ (ps.take (i + 1)).flatten)) (by rw [flat_succ hb19];simp [Nat.add_assoc]) (by rw [flat_succ hb19,← bv_append,List.append_assoc])
  refine s_assign hE rfl rfl fun a hE=>q_nil ?_
  replace hE : Env a 32 [(4,_),(6,_),(7,_),(9,_),(16,_),(17,_),(18,_),(19,_)] := hE.sl rfl
  refine q_block_n (hK8 _ _ (wp_plain [true,true] rfl rfl (s_bin hE rfl rfl (bin_add (wrap_i64 (by omega) (by omega))) rfl fun a hE=>?_)))
  refine s_move hE rfl rfl fun a hE=>q_nil ?_
  replace hE : Env a 32 [(4,_),(6,_),(7,_),(9,_),(16,_),(17,_),(18,_),(19,_)] := hE.sl rfl
  replace hE := hE.cast 18 rfl (show _ = Value.int .i64 ((i + 1 : Nat) : Int) from congrArg _ (by omega))
  exact ⟨i + 1,⟨by omega,_,hE.sel [4,6,7,16,17,18] rfl,hM⟩,by omega⟩
 ·replace hb19 := of_decide_eq_false hb19
  replace hb19 : ¬ i < ps.length := by omega
  obtain rfl : i = ps.length := by omega
  rw [List.take_length] at hM
  refine wp_cond_false (hE.eval rfl) (wp_exit (q_then_e (q_then_e (q_block_x (hK4 _ _ (wp_seq_k fun K8 hK8=>wp_plain [true,false,false,false] rfl rfl (s_move hE rfl rfl fun a hE=>?_)))))))
  obtain ⟨cl,hl⟩ := own_rd (hM.get 0 rfl)
  refine s_call hE rfl Tryd.call80 (sha_c _ (padW key 54 ++ ps.flatten) _ _ (hM.get 5 rfl) hl (by simp only [List.length_append,padW_length];omega)) rfl ?_
  rintro e w9 ⟨rfl,hN⟩
  refine ⟨_,rfl,trivial,fun a hE=>?_⟩
  replace hM : Mem _ _ w9 [_,_,_,_,_,_] := hM.call0 hN trivial;clear hN
  refine s_alloc [32] hE hM zero27 rfl rfl ?_;intro a b10 w10 hE hM'
  replace hM := hM'
  refine s_storeSeg 0 hE rfl rfl hM rfl sz27 (by simp) (bv_one _) rfl (by simp) rfl (by intro X h;cases h) ?_;intro w11 hM';replace hM := hM'
  simp only [List.set_cons_zero,List.set_cons_succ] at hM
  refine q_nil ?_
  replace hE : Env a 32 [(4,_),(6,_),(7,_),(10,_),(16,_),(17,_),(18,_),(19,_)] := hE.sl rfl
  refine hK8 _ _ (wp_seq_k fun K9 hK9=>wp_drawnM2 hM (by kernel_rfl) (fun _ => True) (fun _ => True) [(0,true),(1,true)] [(2,false),(3,false),(4,false)] [(2,[(3,2),(4,2)]),(3,[(4,3)]),(4,[]),(0,[(2,0),(3,2),(4,0)]),(1,[(2,1),(3,2),(4,1)])] (by kernel_rfl) (by kernel_rfl) rfl rfl ?_)
  intro w12 hM' hww12;replace hM := hM'
  refine s_sliceArr (l := 0) (h := 64) (mx' := 64) hE rfl arr122 rfl rfl rfl (by simp) (by omega) (by omega) (by omega) rfl fun a hE=>?_
  replace hE := hE.cast 28 rfl (show _ = Value.slice (some ⟨b6,0,none⟩) 64 64 from rfl)
  replace hM : Mem _ _ w12 [_,_,_,_,_,_,_] := hM.pick [2,0,1,3,4,5,6] rfl
  replace hM := hM.blkOwn (k := 64) (es := 1) rfl (by decide)
  refine s_sliceArr (l := 0) (h := 32) (mx' := 32) hE rfl arr27 rfl rfl rfl (by simp) (by omega) (by omega) (by omega) rfl fun a hE=>?_
  replace hE := hE.cast 29 rfl (show _ = Value.slice (some ⟨b10,0,none⟩) 32 32 from rfl)
  refine s_append hE rfl rfl hM sl42 (Src.rd Tryd.underlying42 (rd_of_arr (hM.get 1 rfl) (by simp)) (bv_one _)) (len47 (by simp)) (by simp) (by intro X h;cases h;simp) rfl ?_;intro a v30 w13 hE hM';replace hM := hM'
  replace hM := hM.ownEq (m' := (padW key 92 ++ shaW (padW key 54 ++ ps.flatten)).length) (cs' := bv (padW key 92 ++ shaW (padW key 54 ++ ps.flatten))) (by simp) (by rw [bv_append])
  obtain ⟨cl,hl⟩ := own_rd (hM.get 0 rfl)
  refine s_call hE rfl Tryd.call80 (sha_c _ (padW key 92 ++ shaW (padW key 54 ++ ps.flatten)) _ _ (hM.get 6 rfl) hl (by simp)) rfl ?_
  rintro e w14 ⟨rfl,hN⟩
  refine ⟨_,rfl,hN.sta0 _,fun a hE=>?_⟩
  replace hM : Mem _ _ w14 [_,_,_,_,_,_,_] := hM.call0 hN trivial;clear hN
  replace hM : Mem _ _ w14 [_,_,_,_,_,_,_] := hM.pick [3,0,1,2,4,5,6] rfl
  refine s_storeSeg 0 hE rfl rfl hM rfl sz27 (by simp) (bv_one _) rfl (by simp) rfl (by intro X h;cases h;first | (simp;done) | simp [valBlocks]) ?_;intro w15 hM';replace hM := hM'
  simp only [List.set_cons_zero,List.set_cons_succ] at hM
  refine q_nil ?_
  replace hE : Env a 32 [(4,_),(6,_),(7,_),(10,_),(16,_),(17,_),(18,_),(19,_)] := hE.sl rfl
  exact hK9 _ _ (wp_ret (f_ret1 hE rfl (res_cellN rfl (hM.get 0 rfl) row27 rfl) ⟨rfl,hM.nil⟩))
theorem of_c (v u : Value) (key msg : List UInt8) (c cu : Nat) (w : World) (hG : (glb 1).holds w) (hr : (rd v 1 key.length c (bv key)).holds w) (hu : (rd u 1 msg.length cu (bv msg)).holds w) (hk : key.length ≤ 1099511627776) (hf : msg.length ≤ 549755813888) : Calls Tryd.prog 45 #[v,u] w fun e w' => e = .returned (.agg (bv (hmacW key msg)).toArray) ∧ Mem w [] w' [] := by
 have hM : Mem w [] w [rd v 1 key.length c (bv key),rd u 1 msg.length cu (bv msg),glb 1] := Mem.startR w (fun g hg => by
  simp only [List.mem_cons,List.not_mem_nil,or_false] at hg
  rcases hg with rfl | rfl | rfl
  ·exact ⟨hr,rfl⟩
  ·exact ⟨hu,rfl⟩
  ·exact ⟨hG,rfl⟩)
 refine f_enter 9 Tryd.func45 rfl rfl rfl ?_
 intro a hE
 replace hE : Env a 9 [(0,_),(1,_)] := hE
 refine wp_seq_k fun K1 hK1=>wp_plain [false] rfl rfl ?_
 refine s_alloc [32] hE hM zero27 rfl rfl ?_;intro a b4 w1 hE hM'
 replace hM := hM'
 refine q_nil (hK1 _ _ (wp_seq_k fun K2 hK2=>wp_plain [true,true,false,false,false] rfl rfl (s_move hE rfl rfl fun a hE=>s_move hE rfl rfl fun a hE=>?_)))
 refine s_buildSlice (xs := [.tmp 6]) ([u]) hE hM sl117 rfl rfl rfl (by intro v hv;rw [List.mem_singleton.1 hv];rw [(rd_one hu).1];rfl) (by simp [(rd_one hu).1]) rfl rfl rfl ?_;intro a v7 w2 hE hM'
 replace hM := hM'
 obtain ⟨cl,hl⟩ := own_rd (hM.get 0 rfl)
 refine s_call hE rfl Tryd.call66 ((by have h := parts_c v _ key [msg] _ _ c _ _ (hM.get 4 rfl) (hM.get 2 rfl) hl (rdv_cons (hM.get 3 rfl) (rdv_nil _)) hk (by simpa using hf) (by simp);rwa [List.flatten_singleton] at h)) rfl ?_
 rintro e w3 ⟨rfl,hN⟩
 refine ⟨_,rfl,trivial,fun a hE=>?_⟩
 replace hM : Mem _ _ w3 [_,_,_,_,_] := hM.call0 hN trivial;clear hN
 replace hM : Mem _ _ w3 [_,_,_,_,_] := hM.pick [1,0,2,3,4] rfl
 refine s_storeSeg 0 hE rfl rfl hM rfl sz27 (by simp) (bv_one _) rfl (by simp) rfl (by intro X h;cases h) ?_;intro w4 hM';replace hM := hM'
 simp only [List.set_cons_zero,List.set_cons_succ] at hM
 refine q_nil ?_
 replace hE : Env a 9 [(4,_)] := hE.sl rfl
 exact hK2 _ _ (wp_ret (f_ret1 hE rfl (res_cellN rfl (hM.get 0 rfl) row27 rfl) ⟨rfl,hM.nil⟩))
end Go.Proofs.YtniekapfoaiieaaDoor
