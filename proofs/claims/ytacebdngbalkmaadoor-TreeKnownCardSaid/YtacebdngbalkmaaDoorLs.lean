/- Walks of functions of the given program that the claim reaches. -/
import Derived.Test.YtacebdngbalkmaaDoorRows
import Derived.Test.YtacebdngbalkmaaDoorKc5
set_option linter.unusedSimpArgs false
set_option linter.unusedVariables false
namespace Go.Proofs.YtacebdngbalkmaaDoor
open Go Go.Kx
theorem one3 : OneT Tryd.prog 3 := OneT.of Tryd.underlying3 rfl (by kernel_rfl)
theorem arr104 : arrT Tryd.prog 104 = some (8, 1) := by kernel_rfl
theorem zero123 : Zero Tryd.prog 123 [wd (List.replicate 64 0)] := ⟨.agg ([wd (List.replicate 64 0)] : List (List Value)).flatten.toArray, by kernel_rfl, by kernel_rfl⟩
theorem slt82 : slT Tryd.prog 82 = some 1 := by kernel_rfl
theorem one5 : OneT Tryd.prog 5 := OneT.of Tryd.underlying5 rfl (by kernel_rfl)
theorem arr123 : arrT Tryd.prog 123 = some (64, 1) := by kernel_rfl
theorem one102 : OneT Tryd.prog 102 := OneT.of Tryd.underlying102 rfl (by kernel_rfl)
theorem sz102 : (Tryd.prog.info? 102).map (·.size) = some 1 := by kernel_rfl
theorem row123 : RowT Tryd.prog 123 64 := RowT.of Tryd.underlying123 rfl (by kernel_rfl)
theorem sz123 : (Tryd.prog.info? 123).map (·.size) = some 64 := by kernel_rfl
theorem zero104 : Zero Tryd.prog 104 [wd (List.replicate 8 0)] := ⟨.agg ([wd (List.replicate 8 0)] : List (List Value)).flatten.toArray, by kernel_rfl, by kernel_rfl⟩
theorem row104 : RowT Tryd.prog 104 8 := RowT.of Tryd.underlying104 rfl (by kernel_rfl)
theorem sz104 : (Tryd.prog.info? 104).map (·.size) = some 8 := by kernel_rfl
theorem zero3 : Zero Tryd.prog 3 [[.int .i64 0]] := ⟨.int .i64 0, by kernel_rfl, by kernel_rfl⟩
theorem sz3 : (Tryd.prog.info? 3).map (·.size) = some 1 := by kernel_rfl
theorem sl82 : SlT Tryd.prog 82 5 1 1 := ⟨Tryd.underlying82, by kernel_rfl, by kernel_rfl, .int .u8 0, by kernel_rfl, rfl⟩
theorem zero106 : Zero Tryd.prog 106 [wd (List.replicate 8 0), [.int .i64 0], [.bool false]] := ⟨.agg ([wd (List.replicate 8 0), [.int .i64 0], [.bool false]] : List (List Value)).flatten.toArray, by kernel_rfl, by kernel_rfl⟩
theorem fo106_2 : fieldOff Tryd.prog 106 2 = some 9 := by kernel_rfl
theorem one4 : OneT Tryd.prog 4 := OneT.of Tryd.underlying4 rfl (by kernel_rfl)
theorem fo106_0 : fieldOff Tryd.prog 106 0 = some 0 := by kernel_rfl
theorem fo106_1 : fieldOff Tryd.prog 106 1 = some 8 := by kernel_rfl
theorem fpl106 : fldPl Tryd.prog 106 = some (plc 0 [8, 1, 1]) := by kernel_rfl
theorem sz106 : (Tryd.prog.info? 106).map (·.size) = some 10 := by kernel_rfl
theorem row106 : RowT Tryd.prog 106 10 := RowT.of Tryd.underlying106 rfl (by kernel_rfl)
theorem zero34 : Zero Tryd.prog 34 [bv (List.replicate 32 0)] := ⟨.agg ([bv (List.replicate 32 0)] : List (List Value)).flatten.toArray, by kernel_rfl, by kernel_rfl⟩
theorem arr34 : arrT Tryd.prog 34 = some (32, 1) := by kernel_rfl
theorem sz5 : (Tryd.prog.info? 5).map (·.size) = some 1 := by kernel_rfl
theorem row34 : RowT Tryd.prog 34 32 := RowT.of Tryd.underlying34 rfl (by kernel_rfl)
theorem sz34 : (Tryd.prog.info? 34).map (·.size) = some 32 := by kernel_rfl
theorem rot_c (x : UInt32) (k : Nat) (w : World) (hk : k ≤ 32) : Calls Tryd.prog 77 #[wV x, .int .i64 (k : Int)] w fun e w' => e = .returned (wV (rotW x k)) ∧ Mem w [] w' [] := by
  have hM := Mem.start0 w
  refine f_enter 13 Tryd.func77 rfl rfl rfl ?_
  intro a hE
  replace hE : Env a 13 [(0, _), (1, _)] := hE
  refine wp_seq_k (fun K1 hK1 => ?_)
  refine wp_plain [true] rfl rfl ?_
  refine s_assign hE rfl rfl ?_; clear hE a; intro a hE
  refine q_nil ?_
  refine hK1 _ _ ?_
  refine wp_seq_k (fun K2 hK2 => ?_)
  refine wp_drawnM hM (by kernel_rfl) (fun _ => False) [(0, true), (1, true), (2, true), (3, true), (4, true), (5, true), (6, true), (7, true), (8, true)] [] (by kernel_rfl) rfl ?_
  intro w1 hM' hww1; clear hM; have hM := hM'; clear hM'
  refine s_move hE rfl rfl ?_; clear hE a; intro a hE
  refine s_move hE rfl rfl ?_; clear hE a; intro a hE
  refine s_bin hE rfl rfl (bin_shr32 (s := k) rfl (by omega)) rfl ?_; clear hE a; intro a hE
  refine s_move hE rfl rfl ?_; clear hE a; intro a hE
  refine s_move hE rfl rfl ?_; clear hE a; intro a hE
  refine s_bin hE rfl rfl (bin_sub (wrap_i64 (by omega) (by omega))) rfl ?_; clear hE a; intro a hE
  refine s_bin hE rfl rfl (bin_shl32 (s := 32 - k) (by omega) (by omega)) rfl ?_; clear hE a; intro a hE
  refine s_bin hE rfl rfl bin_or32 rfl ?_; clear hE a; intro a hE
  refine s_assign hE rfl rfl ?_; clear hE a; intro a hE
  refine q_nil ?_
  replace hE : Env a 13 [(4, _)] := hE.sel [4] rfl
  refine hK2 _ _ ?_
  refine wp_ret ?_
  refine f_ret1 hE rfl rfl ?_
  exact ⟨rfl, hM⟩
theorem half_c (x : UInt32) (x1 x2 x3 : Nat) (w : World) (h1 : x1 ≤ 32) (h2 : x2 ≤ 32) (h3 : x3 ≤ 32) : Calls Tryd.prog 79 #[wV x, .int .i64 (x1 : Int), .int .i64 (x2 : Int), .int .i64 (x3 : Int)] w fun e w' => e = .returned (wV (halfW x x1 x2 x3)) ∧ Mem w [] w' [] := by
  have hM := Mem.start0 w
  refine f_enter 30 Tryd.func79 rfl rfl rfl ?_
  intro a hE
  replace hE : Env a 30 [(0, _), (1, _), (2, _), (3, _)] := hE
  refine wp_seq_k (fun K1 hK1 => ?_)
  refine wp_plain [true] rfl rfl ?_
  refine s_assign hE rfl rfl ?_; clear hE a; intro a hE
  refine q_nil ?_
  refine hK1 _ _ ?_
  refine wp_seq_k (fun K2 hK2 => ?_)
  refine wp_drawnM hM (by kernel_rfl) (fun _ => False) [(0, true), (1, true), (2, true), (3, true), (4, true), (5, true), (6, true), (7, true), (8, true), (9, true), (10, true), (11, true), (12, true), (13, true), (14, true), (15, true), (16, true), (17, true), (18, true), (19, true), (20, true), (21, true)] [] (by kernel_rfl) rfl ?_
  intro w1 hM' hww1; clear hM; have hM := hM'; clear hM'
  refine s_move hE rfl rfl ?_; clear hE a; intro a hE
  refine s_move hE rfl rfl ?_; clear hE a; intro a hE
  refine s_bin hE rfl rfl (bin_shr32 (s := x1) rfl (by omega)) rfl ?_; clear hE a; intro a hE
  refine s_move hE rfl rfl ?_; clear hE a; intro a hE
  refine s_move hE rfl rfl ?_; clear hE a; intro a hE
  refine s_bin hE rfl rfl (bin_sub (wrap_i64 (by omega) (by omega))) rfl ?_; clear hE a; intro a hE
  refine s_bin hE rfl rfl (bin_shl32 (s := 32 - x1) (by omega) (by omega)) rfl ?_; clear hE a; intro a hE
  refine s_bin hE rfl rfl bin_or32 rfl ?_; clear hE a; intro a hE
  refine s_move hE rfl rfl ?_; clear hE a; intro a hE
  refine s_move hE rfl rfl ?_; clear hE a; intro a hE
  refine s_bin hE rfl rfl (bin_shr32 (s := x2) rfl (by omega)) rfl ?_; clear hE a; intro a hE
  refine s_move hE rfl rfl ?_; clear hE a; intro a hE
  refine s_move hE rfl rfl ?_; clear hE a; intro a hE
  refine s_bin hE rfl rfl (bin_sub (wrap_i64 (by omega) (by omega))) rfl ?_; clear hE a; intro a hE
  refine s_bin hE rfl rfl (bin_shl32 (s := 32 - x2) (by omega) (by omega)) rfl ?_; clear hE a; intro a hE
  refine s_bin hE rfl rfl bin_or32 rfl ?_; clear hE a; intro a hE
  refine s_bin hE rfl rfl bin_xor32 rfl ?_; clear hE a; intro a hE
  refine s_move hE rfl rfl ?_; clear hE a; intro a hE
  refine s_move hE rfl rfl ?_; clear hE a; intro a hE
  refine s_bin hE rfl rfl (bin_shr32 (s := x3) rfl (by omega)) rfl ?_; clear hE a; intro a hE
  refine s_bin hE rfl rfl bin_xor32 rfl ?_; clear hE a; intro a hE
  refine s_assign hE rfl rfl ?_; clear hE a; intro a hE
  refine q_nil ?_
  replace hE : Env a 30 [(8, _)] := hE.sel [8] rfl
  refine hK2 _ _ ?_
  refine wp_ret ?_
  refine f_ret1 hE rfl rfl ?_
  exact ⟨rfl, hM⟩
theorem who_c (bn bi : Nat) (k i : Nat) (w : World) (hI : (blk bi [[.int .i64 (i : Int)]] [1] 3).holds w) (hi : i < 64) (hk : k < 8) : Calls Tryd.prog 76 #[.int .i64 (k : Int), .pointer (some ⟨bn, 0, none⟩), .pointer (some ⟨bi, 0, none⟩)] w fun e w' => e = .returned (.pointer (some ⟨bn, whoI k i, none⟩)) ∧ Mem w [] w' [] := by
  have hM := Mem.startR1 (e := blkR bi [[.int .i64 (i : Int)]] [1] 3) hI rfl
  refine f_enter 11 Tryd.func76 rfl rfl rfl ?_
  intro a hE
  replace hE : Env a 11 [(0, _), (1, _), (2, _)] := hE
  refine wp_seq_k (fun K1 hK1 => ?_)
  refine wp_plain [true] rfl rfl ?_
  refine s_assign hE rfl rfl ?_; clear hE a; intro a hE
  refine q_nil ?_
  refine hK1 _ _ ?_
  refine wp_seq_k (fun K2 hK2 => ?_)
  refine wp_plain [true, true, true, true, true, true, true] rfl rfl ?_
  refine s_move hE rfl rfl ?_; clear hE a; intro a hE
  refine s_bin hE rfl rfl (bin_add (wrap_i64 (by omega) (by omega))) rfl ?_; clear hE a; intro a hE
  refine s_load1 hE rfl (blkR_blk (hM.get 0 rfl)) rfl one3 (by intro X h; cases h) rfl ?_; clear hE a; intro a hE
  refine s_bin hE rfl rfl (bin_sub (wrap_i64 (by omega) (by omega))) rfl ?_; clear hE a; intro a hE
  refine s_bin hE rfl rfl (show Bin _ _ _ _ _ (.int .i64 ((whoI k i : Nat) : Int)) from by rw [show ((k : Int) + 64 - (i : Int)) = ((k + 64 - i : Nat) : Int) by omega]; exact bin_rem_nat (by decide)) rfl ?_; clear hE a; intro a hE
  refine s_indexArr (j := whoI k i) hE rfl rfl arr104 (by first | rfl | omega) (whoI_lt k i) rfl ?_; clear hE a; intro a hE
  refine s_assign hE rfl rfl ?_; clear hE a; intro a hE
  refine q_nil ?_
  replace hE : Env a 11 [(4, _)] := hE.sel [4] rfl
  refine hK2 _ _ ?_
  refine wp_ret ?_
  refine f_ret1 hE rfl rfl ?_
  exact ⟨by simp, hM.nil⟩
theorem msg_c (v : Value) (bs : List UInt8) (c : Nat) (w : World) (hr : (rd v 1 bs.length c (bv bs)).holds w) (hb : bs.length = 64) : Calls Tryd.prog 75 #[v] w fun e w' => e = .returned (.agg (wd (msgW bs 64)).toArray) ∧ Mem w [] w' [] := by
  have hM := Mem.startR1 hr rfl
  have hlc := rd_len hr
  refine f_enter 58 Tryd.func75 rfl rfl rfl ?_
  intro a hE
  replace hE : Env a 58 [(0, _)] := hE
  refine wp_seq_k (fun K1 hK1 => ?_)
  refine wp_plain [false] rfl rfl ?_
  refine s_alloc [64] hE hM zero123 rfl rfl ?_; clear hE a; intro a b2 w1 hE hM'
  clear hM; have hM := hM'; clear hM'
  refine q_nil ?_
  refine hK1 _ _ ?_
  refine wp_seq_k (fun K2 hK2 => ?_)
  refine wp_seq_k (fun K3 hK3 => ?_)
  refine wp_plain [true] rfl rfl ?_
  refine s_move hE rfl rfl ?_; clear hE a; intro a hE
  refine q_nil ?_
  refine hK3 _ _ ?_
  refine wp_block ?_
  refine c_loop (fun (i : Nat) a w' => i ≤ 64 ∧ Env a 58 [(0, v), (2, .pointer (some ⟨b2, 0, none⟩)), (6, .int .i64 (i : Int))] ∧ Mem w [] w' [blk b2 [wd (msgW bs i ++ List.replicate (64 - i) 0)] [64] 123, rd v 1 bs.length c (bv bs)]) (fun i => 64 - i) 0 ⟨Nat.zero_le _, hE.sel [0, 2, 6] rfl, by simpa [msgW] using hM⟩ ?_
  clear hE hM a; rintro i a w2 ⟨hi, hE, hM⟩
  refine wp_seq_k (fun K4 hK4 => ?_)
  refine wp_plain [true] rfl rfl ?_
  refine s_bin hE rfl rfl bin_lss rfl ?_; clear hE a; intro a hE
  refine q_nil ?_
  refine hK4 _ _ ?_
  refine wp_seq_k (fun K5 hK5 => ?_)
  refine hE.split 7 rfl (fun hb7 hE' => ?_) (fun hb7 hE' => ?_)
  · replace hE := hE'; clear hE'
    replace hb7 := of_decide_eq_true hb7
    replace hb7 : i < 64 := by omega
    refine wp_cond_true (hE.eval rfl) ?_
    refine wp_skip ?_
    refine hK5 _ _ ?_
    refine wp_seq_k (fun K6 hK6 => ?_)
    refine wp_block ?_
    refine wp_seq_k (fun K7 hK7 => ?_)
    refine wp_plain [true, true] rfl rfl ?_
    refine s_move hE rfl rfl ?_; clear hE a; intro a hE
    refine s_assign hE rfl rfl ?_; clear hE a; intro a hE
    refine q_nil ?_
    replace hE : Env a 58 [(0, _), (2, _), (3, _), (6, _), (7, _)] := hE.sel [0, 2, 3, 6, 7] rfl
    refine hK7 _ _ ?_
    refine wp_seq_k (fun K8 hK8 => ?_)
    refine wp_seq_k (fun K9 hK9 => ?_)
    refine wp_plain [true, true] rfl rfl ?_
    refine s_move hE rfl rfl ?_; clear hE a; intro a hE
    refine s_bin hE rfl rfl bin_lss rfl ?_; clear hE a; intro a hE
    refine q_nil ?_
    replace hE : Env a 58 [(0, _), (2, _), (3, _), (6, _), (7, _), (10, _)] := hE.sel [0, 2, 3, 6, 7, 10] rfl
    refine hK9 _ _ ?_
    refine hE.split 10 rfl (fun hb10 hE' => ?_) (fun hb10 hE' => ?_)
    · replace hE := hE'; clear hE'
      replace hb10 := of_decide_eq_true hb10
      replace hb10 : i < 16 := by omega
      have hps : ((bs.drop (4 * i)).take 4).length = 4 := by simp; omega
      refine wp_cond_true (hE.eval rfl) ?_
      refine wp_seq_k (fun K10 hK10 => ?_)
      refine wp_seq_k (fun K11 hK11 => ?_)
      refine wp_plain [true, true, true, true, true, true, true, true, true] rfl rfl ?_
      refine s_move hE rfl rfl ?_; clear hE a; intro a hE
      refine s_move hE rfl rfl ?_; clear hE a; intro a hE
      refine s_bin hE rfl rfl (bin_mul (wrap_i64 (by omega) (by omega))) rfl ?_; clear hE a; intro a hE
      refine s_move hE rfl rfl ?_; clear hE a; intro a hE
      refine s_bin hE rfl rfl (bin_mul (wrap_i64 (by omega) (by omega))) rfl ?_; clear hE a; intro a hE
      refine s_bin hE rfl rfl (bin_add (wrap_i64 (by omega) (by omega))) rfl ?_; clear hE a; intro a hE
      refine s_slice (l := (4 * i)) (h := (4 * i + 4)) (mx' := c) hE rfl (hM.get 1 rfl) slt82 ⟨_, rfl⟩ ⟨_, rfl⟩ rfl (by simp) (by omega) (by omega) (by omega) (by omega) rfl ?_; clear hE a; intro a v17 hE hr17 hvb17
      replace hr17 := (fun h => by have h := rd_mid (l := 4 * i) (h := 4 * i + 4) (by omega) h; rw [show 4 * i + 4 - 4 * i = 4 by omega] at h; exact h) hr17
      replace hM := hM.addPart 1 rfl hr17 hvb17; clear hr17
      refine s_len hE rfl Tryd.underlying82 (rd_slice (hM.get 0 rfl)) rfl ?_; clear hE a; intro a hE
      refine s_move hE rfl rfl ?_; clear hE a; intro a hE
      refine q_nil ?_
      replace hE : Env a 58 [(0, _), (2, _), (3, _), (6, _), (7, _), (10, _), (17, _), (18, _), (19, _)] := hE.sel [0, 2, 3, 6, 7, 10, 17, 18, 19] rfl
      refine hK11 _ _ ?_
      refine wp_block ?_
      rw [← msg_zero hb7] at hM
      replace hM : Mem _ _ w2 [_, _, _] := hM.pick [1, 0, 2] rfl
      refine c_loop (fun (k : Nat) a w' => k ≤ ((bs.drop (4 * i)).take 4).length ∧ Env a 58 [(0, v), (2, .pointer (some ⟨b2, 0, none⟩)), (3, .int .i64 (i : Int)), (6, .int .i64 (i : Int)), (17, v17), (18, .int .i64 (((bs.drop (4 * i)).take 4).length : Int)), (19, .int .i64 (k : Int))] ∧ Mem w [] w' [blk b2 [wd ((msgW bs i ++ List.replicate (64 - i) 0).set i (beW (((bs.drop (4 * i)).take 4).take k)))] [64] 123, rd v17 1 ((bs.drop (4 * i)).take 4).length (c - 4 * i) (bv ((bs.drop (4 * i)).take 4)), rd v 1 bs.length c (bv bs)]) (fun k => ((bs.drop (4 * i)).take 4).length - k) 0 ⟨Nat.zero_le _, hE.sel [0, 2, 3, 6, 17, 18, 19] rfl, hM⟩ ?_
      clear hE hM a; rintro k a w3 ⟨hk, hE, hM⟩
      refine wp_seq_k (fun K12 hK12 => ?_)
      refine wp_plain [true] rfl rfl ?_
      refine s_bin hE rfl rfl bin_lss rfl ?_; clear hE a; intro a hE
      refine q_nil ?_
      refine hK12 _ _ ?_
      refine wp_seq_k (fun K13 hK13 => ?_)
      refine hE.split 20 rfl (fun hb20 hE' => ?_) (fun hb20 hE' => ?_)
      · replace hE := hE'; clear hE'
        replace hb20 := of_decide_eq_true hb20
        replace hb20 : k < ((bs.drop (4 * i)).take 4).length := by omega
        refine wp_cond_true (hE.eval rfl) ?_
        refine wp_skip ?_
        refine hK13 _ _ ?_
        refine wp_seq_k (fun K14 hK14 => ?_)
        refine wp_block ?_
        refine wp_seq_k (fun K15 hK15 => ?_)
        refine wp_plain [true, true, true] rfl rfl ?_
        refine s_indexRd (j := k) hE rfl (hM.get 1 rfl) rfl slt82 (by first | rfl | omega) (by first | omega | (simp; omega) | decide) rfl ?_; clear hE a; intro a p21 hE hc21 hp21
        rw [bv_elem hb20] at hc21
        refine s_loadAt1 hE rfl hc21 one5 (by intro X h; cases h) rfl ?_; clear hE a; intro a hE
        refine s_assign hE rfl rfl ?_; clear hE a; intro a hE
        refine q_nil ?_
        replace hE : Env a 58 [(0, _), (2, _), (3, _), (5, _), (6, _), (17, _), (18, _), (19, _), (20, _)] := hE.sel [0, 2, 3, 5, 6, 17, 18, 19, 20] rfl
        refine hK15 _ _ ?_
        refine wp_plain [true, true, true, true, true, true, true, true, true, false] rfl rfl ?_
        refine s_move hE rfl rfl ?_; clear hE a; intro a hE
        refine s_move hE rfl rfl ?_; clear hE a; intro a hE
        refine s_indexArr (j := i) hE rfl rfl arr123 (by first | rfl | omega) (by first | omega | decide) rfl ?_; clear hE a; intro a hE
        refine s_loadIdx (j := i) hE rfl (by omega) (hM.get 0 rfl) (wd_get (by simp; omega)) one102 (by intro X h; cases h) rfl ?_; clear hE a; intro a hE
        refine s_bin hE rfl rfl (bin_mul32 (y := 256)) rfl ?_; clear hE a; intro a hE
        refine s_move hE rfl rfl ?_; clear hE a; intro a hE
        refine s_conv hE rfl (cnv_int Tryd.underlying5 Tryd.underlying102 (wrap_u32_ofNat _)) rfl ?_; clear hE a; intro a hE
        refine s_bin hE rfl rfl bin_add32 rfl ?_; clear hE a; intro a hE
        refine s_indexArr (j := i) hE rfl rfl arr123 (by first | rfl | omega) (by first | omega | decide) rfl ?_; clear hE a; intro a hE
        refine s_storeIdx (j := i) hE rfl (by omega) rfl hM rfl rfl sz102 (by simp; omega) (by intro X h; cases h) ?_; intro w4 hM'; clear hM; have hM := hM'; clear hM'
        rw [wd_set] at hM
        refine q_nil ?_
        replace hE : Env a 58 [(0, _), (2, _), (3, _), (5, _), (6, _), (17, _), (18, _), (19, _), (20, _)] := hE.sel [0, 2, 3, 5, 6, 17, 18, 19, 20] rfl
        refine q_block_n ?_
        refine hK14 _ _ ?_
        refine wp_plain [true, true] rfl rfl ?_
        refine s_bin hE rfl rfl (bin_add (wrap_i64 (by omega) (by omega))) rfl ?_; clear hE a; intro a hE
        refine s_move hE rfl rfl ?_; clear hE a; intro a hE
        refine q_nil ?_
        replace hE : Env a 58 [(0, _), (2, _), (3, _), (5, _), (6, _), (17, _), (18, _), (19, _), (20, _)] := hE.sel [0, 2, 3, 5, 6, 17, 18, 19, 20] rfl
        replace hE := hE.cast 19 rfl (show _ = Value.int .i64 ((k + 1 : Nat) : Int) from congrArg _ (by omega))
        rw [set_getD (by simp; omega), List.set_set, ← beW_take_succ hb20] at hM
        exact ⟨k + 1, ⟨by omega, hE.sel [0, 2, 3, 6, 17, 18, 19] rfl, hM⟩, by omega⟩
      · replace hE := hE'; clear hE'
        replace hb20 := of_decide_eq_false hb20
        replace hb20 : ¬ k < ((bs.drop (4 * i)).take 4).length := by omega
        have hk4 : k = ((bs.drop (4 * i)).take 4).length := by omega
        refine wp_cond_false (hE.eval rfl) ?_
        refine wp_exit ?_
        refine q_then_e ?_
        refine q_then_e ?_
        refine q_block_x ?_
        refine hK10 _ _ ?_
        refine wp_exit ?_
        refine q_then_e ?_
        refine q_block_x ?_
        refine hK6 _ _ ?_
        refine wp_plain [true, true] rfl rfl ?_
        refine s_bin hE rfl rfl (bin_add (wrap_i64 (by omega) (by omega))) rfl ?_; clear hE a; intro a hE
        refine s_move hE rfl rfl ?_; clear hE a; intro a hE
        refine q_nil ?_
        replace hE : Env a 58 [(0, _), (2, _), (3, _), (6, _), (17, _), (18, _), (19, _), (20, _)] := hE.sel [0, 2, 3, 6, 17, 18, 19, 20] rfl
        replace hE := hE.cast 6 rfl (show _ = Value.int .i64 ((i + 1 : Nat) : Int) from congrArg _ (by omega))
        rw [List.take_of_length_le (by rw [hps]; omega), ← msg_low (bs := bs) hb10, msg_set hb7] at hM
        replace hM : Mem _ _ w3 [_, _] := hM.pick [0, 2] rfl
        exact ⟨i + 1, ⟨by omega, hE.sel [0, 2, 6] rfl, hM⟩, by omega⟩
    · replace hE := hE'; clear hE'
      replace hb10 := of_decide_eq_false hb10
      replace hb10 : ¬ i < 16 := by omega
      refine wp_cond_false (hE.eval rfl) ?_
      refine wp_skip ?_
      refine hK8 _ _ ?_
      refine wp_drawnM2 hM (by kernel_rfl) (fun _ => False) (fun _ => True) [(0, true), (1, true), (2, true), (3, true), (4, true), (5, true), (6, true), (7, true), (8, true), (11, true), (12, true), (13, true), (14, true), (16, true), (17, true), (18, true), (19, true), (9, false), (10, true), (15, true), (20, false), (21, true), (22, true)] [(23, false)] [(9, [(10, 9), (15, 10), (20, 9), (21, 20), (22, 9), (23, 9)]), (20, [(21, 20), (22, 20), (23, 20)]), (23, []), (2, [(3, 2), (4, 3), (10, 4), (15, 10), (21, 15), (22, 2), (23, 2)]), (3, [(4, 3), (10, 4), (15, 10), (21, 15), (22, 3), (23, 3)]), (4, [(10, 4), (15, 10), (21, 15), (22, 4), (23, 4)]), (6, [(7, 6), (8, 7), (9, 8), (10, 9), (15, 10), (20, 9), (21, 20), (22, 6), (23, 6)]), (7, [(8, 7), (9, 8), (10, 9), (15, 10), (20, 9), (21, 20), (22, 7), (23, 7)]), (8, [(9, 8), (10, 9), (15, 10), (20, 9), (21, 20), (22, 8), (23, 8)]), (12, [(13, 12), (14, 13), (15, 14), (21, 15), (22, 12), (23, 12)]), (13, [(14, 13), (15, 14), (21, 15), (22, 13), (23, 13)]), (14, [(15, 14), (21, 15), (22, 14), (23, 14)]), (17, [(18, 17), (19, 18), (20, 19), (21, 20), (22, 17), (23, 17)]), (18, [(19, 18), (20, 19), (21, 20), (22, 18), (23, 18)]), (19, [(20, 19), (21, 20), (22, 19), (23, 19)]), (10, [(15, 10), (21, 15), (22, 10), (23, 10)]), (15, [(21, 15), (22, 15), (23, 15)]), (21, [(22, 21), (23, 21)]), (22, [(23, 22)])] (by kernel_rfl) (by kernel_rfl) rfl rfl ?_
      intro w3 hM' hww3; clear hM; have hM := hM'; clear hM'
      refine s_move hE rfl rfl ?_; clear hE a; intro a hE
      refine s_move hE rfl rfl ?_; clear hE a; intro a hE
      refine s_bin hE rfl rfl (bin_sub (wrap_i64 (by omega) (by omega))) rfl ?_; clear hE a; intro a hE
      refine s_indexArr (j := (i - 16)) hE rfl rfl arr123 (by first | rfl | omega) (by first | omega | decide) rfl ?_; clear hE a; intro a hE
      refine s_loadIdx (j := (i - 16)) hE rfl (by omega) (hM.get 0 rfl) (wd_get (by simp; omega)) one102 (by intro X h; cases h; simp) rfl ?_; clear hE a; intro a hE
      refine s_move hE rfl rfl ?_; clear hE a; intro a hE
      refine s_bin hE rfl rfl (bin_sub (wrap_i64 (by omega) (by omega))) rfl ?_; clear hE a; intro a hE
      refine s_indexArr (j := (i - 15)) hE rfl rfl arr123 (by first | rfl | omega) (by first | omega | decide) rfl ?_; clear hE a; intro a hE
      refine s_loadIdx (j := (i - 15)) hE rfl (by omega) (hM.get 0 rfl) (wd_get (by simp; omega)) one102 (by intro X h; cases h; simp) rfl ?_; clear hE a; intro a hE
      refine s_move hE rfl rfl ?_; clear hE a; intro a hE
      refine s_bin hE rfl rfl (bin_sub (wrap_i64 (by omega) (by omega))) rfl ?_; clear hE a; intro a hE
      refine s_indexArr (j := (i - 7)) hE rfl rfl arr123 (by first | rfl | omega) (by first | omega | decide) rfl ?_; clear hE a; intro a hE
      refine s_loadIdx (j := (i - 7)) hE rfl (by omega) (hM.get 0 rfl) (wd_get (by simp; omega)) one102 (by intro X h; cases h; simp) rfl ?_; clear hE a; intro a hE
      refine s_move hE rfl rfl ?_; clear hE a; intro a hE
      refine s_bin hE rfl rfl (bin_sub (wrap_i64 (by omega) (by omega))) rfl ?_; clear hE a; intro a hE
      refine s_indexArr (j := (i - 2)) hE rfl rfl arr123 (by first | rfl | omega) (by first | omega | decide) rfl ?_; clear hE a; intro a hE
      refine s_loadIdx (j := (i - 2)) hE rfl (by omega) (hM.get 0 rfl) (wd_get (by simp; omega)) one102 (by intro X h; cases h; simp) rfl ?_; clear hE a; intro a hE
      refine s_call hE rfl Tryd.call79 (half_c _ 7 18 3 _ (by decide) (by decide) (by decide)) rfl ?_
      rintro e w4 ⟨rfl, hN⟩
      refine ⟨_, rfl, hN.sta0 _, ?_⟩; clear hE a; intro a hE
      replace hM : Mem _ _ w4 [_, _] := hM.call0 hN trivial; clear hN
      refine s_bin hE rfl rfl bin_add32 rfl ?_; clear hE a; intro a hE
      refine s_bin hE rfl rfl bin_add32 rfl ?_; clear hE a; intro a hE
      refine s_call hE rfl Tryd.call79 (half_c _ 17 19 10 _ (by decide) (by decide) (by decide)) rfl ?_
      rintro e w5 ⟨rfl, hN⟩
      refine ⟨_, rfl, hN.sta0 _, ?_⟩; clear hE a; intro a hE
      replace hM : Mem _ _ w5 [_, _] := hM.call0 hN trivial; clear hN
      refine s_bin hE rfl rfl bin_add32 rfl ?_; clear hE a; intro a hE
      refine s_indexArr (j := i) hE rfl rfl arr123 (by first | rfl | omega) (by first | omega | decide) rfl ?_; clear hE a; intro a hE
      refine q_nil (q_ph ?_)
      refine s_storeIdx (j := i) hE rfl (by omega) rfl hM rfl rfl sz102 (by simp; omega) (by intro X h; cases h; first | (simp; done) | simp [valBlocks]) ?_; intro w6 hM'; clear hM; have hM := hM'; clear hM'
      rw [wd_set] at hM
      refine q_nil ?_
      replace hE : Env a 58 [(0, _), (2, _), (3, _), (6, _), (7, _), (10, _)] := hE.sel [0, 2, 3, 6, 7, 10] rfl
      refine q_block_n ?_
      refine hK6 _ _ ?_
      refine wp_plain [true, true] rfl rfl ?_
      refine s_bin hE rfl rfl (bin_add (wrap_i64 (by omega) (by omega))) rfl ?_; clear hE a; intro a hE
      refine s_move hE rfl rfl ?_; clear hE a; intro a hE
      refine q_nil ?_
      replace hE : Env a 58 [(0, _), (2, _), (3, _), (6, _), (7, _), (10, _)] := hE.sel [0, 2, 3, 6, 7, 10] rfl
      replace hE := hE.cast 6 rfl (show _ = Value.int .i64 ((i + 1 : Nat) : Int) from congrArg _ (by omega))
      rw [← msg_high (bs := bs) hb10, msg_set hb7] at hM
      exact ⟨i + 1, ⟨by omega, hE.sel [0, 2, 6] rfl, hM⟩, by omega⟩
  · replace hE := hE'; clear hE'
    replace hb7 := of_decide_eq_false hb7
    replace hb7 : ¬ i < 64 := by omega
    obtain rfl : i = 64 := by omega
    refine wp_cond_false (hE.eval rfl) ?_
    refine wp_exit ?_
    refine q_then_e ?_
    refine q_then_e ?_
    refine q_block_x ?_
    refine hK2 _ _ ?_
    refine wp_seq_k (fun K6 hK6 => ?_)
    refine wp_plain [true, false] rfl rfl ?_
    refine s_loadN hE rfl (hM.get 0 rfl) row123 rfl (by intro X h; cases h) rfl ?_; clear hE a; intro a hE
    refine s_storeSeg 0 hE rfl rfl hM rfl sz123 (by simp) (wd_one _) rfl (by simp) rfl (by intro X h; cases h) ?_; intro w3 hM'; clear hM; have hM := hM'; clear hM'
    simp only [List.set_cons_zero, List.set_cons_succ] at hM
    refine q_nil ?_
    replace hE : Env a 58 [(0, _), (2, _), (6, _), (7, _)] := hE.sel [0, 2, 6, 7] rfl
    refine hK6 _ _ ?_
    refine wp_ret ?_
    refine f_ret1 hE rfl (res_cellN rfl (hM.get 0 rfl) row123 rfl) ?_
    exact ⟨by simp, hM.nil⟩
theorem pass_c (was : List UInt32) (v : Value) (bs : List UInt8) (c : Nat) (w : World) (hG : (glb 0).holds w) (hr : (rd v 1 bs.length c (bv bs)).holds w) (hw8 : was.length = 8) (hb : bs.length = 64) : Calls Tryd.prog 71 #[.agg (wd was).toArray, v] w fun e w' => e = .returned (.agg (wd (passW was bs)).toArray) ∧ Mem w [] w' [] := by
  have hM := Mem.startR2 hr hG rfl rfl
  refine f_enter 127 Tryd.func71 rfl rfl rfl ?_
  intro a hE
  replace hE : Env a 127 [(0, _), (1, _)] := hE
  refine wp_seq_k (fun K1 hK1 => ?_)
  refine wp_plain [false, false] rfl rfl ?_
  refine s_box (ss := [wd was]) [8] hE hM rfl (by simp [Value.cells]) (by simp [hw8]) rfl ?_; clear hE a; intro a b2 w1 hE hM'
  clear hM; have hM := hM'; clear hM'
  refine s_alloc [8] hE hM zero104 rfl rfl ?_; clear hE a; intro a b4 w2 hE hM'
  clear hM; have hM := hM'; clear hM'
  refine q_nil ?_
  replace hE : Env a 127 [(1, _), (2, _), (4, _)] := hE.sel [1, 2, 4] rfl
  refine hK1 _ _ ?_
  refine wp_seq_k (fun K2 hK2 => ?_)
  refine wp_plain [true, false, false] rfl rfl ?_
  refine s_loadN hE rfl (hM.get 1 rfl) row104 rfl (by intro X h; cases h) rfl ?_; clear hE a; intro a hE
  refine s_alloc [8] hE hM zero104 rfl rfl ?_; clear hE a; intro a b5 w3 hE hM'
  clear hM; have hM := hM'; clear hM'
  refine s_storeSeg 0 hE rfl rfl hM rfl sz104 (by simp [hw8]) (wd_one _) rfl (by simp) rfl (by intro X h; cases h) ?_; intro w4 hM'; clear hM; have hM := hM'; clear hM'
  simp only [List.set_cons_zero, List.set_cons_succ] at hM
  refine q_nil ?_
  replace hE : Env a 127 [(1, _), (2, _), (4, _), (5, _)] := hE.sel [1, 2, 4, 5] rfl
  refine hK2 _ _ ?_
  refine wp_seq_k (fun K3 hK3 => ?_)
  refine wp_seq_k (fun K4 hK4 => ?_)
  refine wp_plain [true, false, true] rfl rfl ?_
  refine s_move hE rfl rfl ?_; clear hE a; intro a hE
  refine s_call hE rfl Tryd.call75 (msg_c v bs c _ (hM.get 3 rfl) hb) rfl ?_
  rintro e w5 ⟨rfl, hN⟩
  refine ⟨_, rfl, trivial, ?_⟩; clear hE a; intro a hE
  replace hM : Mem _ _ w5 [_, _, _, _, _] := hM.call0 hN trivial; clear hN
  refine s_move hE rfl rfl ?_; clear hE a; intro a hE
  refine q_nil ?_
  replace hE : Env a 127 [(2, _), (4, _), (5, _), (17, _), (18, _)] := hE.sel [2, 4, 5, 17, 18] rfl
  refine hK4 _ _ ?_
  refine wp_block ?_
  replace hM : Mem _ _ w5 [_, _, _, _, _] := hM.pick [0, 1, 2, 4, 3] rfl
  replace hM : Mem _ _ w5 [_, _, _, _] := hM.pick [0, 1, 2, 3] rfl
  refine c_loop (fun (i : Nat) a w' => i ≤ 64 ∧ Env a 127 [(2, .pointer (some ⟨b2, 0, none⟩)), (4, .pointer (some ⟨b4, 0, none⟩)), (5, .pointer (some ⟨b5, 0, none⟩)), (17, .agg (wd (msgW bs 64)).toArray), (18, .int .i64 (i : Int))] ∧ Mem w [] w' [blk b5 [wd (runW (msgW bs 64) i was)] [8] 104, blk b4 [wd (List.replicate 8 0)] [8] 104, blk b2 [wd (was)] [8] 104, glb 0]) (fun i => 64 - i) 0 ⟨Nat.zero_le _, hE.sel [2, 4, 5, 17, 18] rfl, hM⟩ ?_
  clear hE hM a; rintro i a w6 ⟨hi, hE, hM⟩
  refine wp_seq_k (fun K5 hK5 => ?_)
  refine wp_plain [true] rfl rfl ?_
  refine s_bin hE rfl rfl bin_lss rfl ?_; clear hE a; intro a hE
  refine q_nil ?_
  refine hK5 _ _ ?_
  refine wp_seq_k (fun K6 hK6 => ?_)
  refine hE.split 19 rfl (fun hb19 hE' => ?_) (fun hb19 hE' => ?_)
  · replace hE := hE'; clear hE'
    replace hb19 := of_decide_eq_true hb19
    replace hb19 : i < 64 := by omega
    refine wp_cond_true (hE.eval rfl) ?_
    refine wp_skip ?_
    refine hK6 _ _ ?_
    refine wp_seq_k (fun K7 hK7 => ?_)
    refine wp_block ?_
    refine wp_seq_k (fun K8 hK8 => ?_)
    refine wp_plain [true, true, false, false, true] rfl rfl ?_
    refine s_move hE rfl rfl ?_; clear hE a; intro a hE
    refine s_index1 (j := i) hE rfl rfl Tryd.underlying123 one102 (by first | rfl | omega) (by first | omega | decide) (wd_get (by rw [msgW_length]; exact hb19)) rfl ?_; clear hE a; intro a hE
    refine s_alloc [1] hE hM zero3 rfl rfl ?_; clear hE a; intro a b6 w7 hE hM'
    clear hM; have hM := hM'; clear hM'
    refine s_store1 0 hE rfl rfl hM rfl rfl sz3 rfl rfl (by intro X h; cases h) ?_; intro w8 hM'; clear hM; have hM := hM'; clear hM'
    refine s_assign hE rfl rfl ?_; clear hE a; intro a hE
    refine q_nil ?_
    replace hE : Env a 127 [(2, _), (4, _), (5, _), (6, _), (7, _), (17, _), (18, _), (19, _)] := hE.sel [2, 4, 5, 6, 7, 17, 18, 19] rfl
    refine hK8 _ _ ?_
    refine wp_seq_k (fun K9 hK9 => ?_)
    refine wp_plain [true, true] rfl rfl ?_
    refine s_makeFn hE rfl rfl ?_; clear hE a; intro a hE
    refine s_assign hE rfl rfl ?_; clear hE a; intro a hE
    refine q_nil ?_
    replace hE : Env a 127 [(2, _), (4, _), (5, _), (6, _), (7, _), (8, _), (17, _), (18, _), (19, _)] := hE.sel [2, 4, 5, 6, 7, 8, 17, 18, 19] rfl
    refine hK9 _ _ ?_
    refine wp_seq_k (fun K10 hK10 => ?_)
    refine wp_drawnM hM (by kernel_rfl) (fun _ => False) [(0, true), (4, true), (1, false), (2, true), (3, true), (5, false), (6, true), (7, true), (8, true), (9, true)] [(1, [(2, 1), (3, 2), (5, 1), (6, 5), (7, 6), (8, 1), (9, 1)]), (5, [(6, 5), (7, 6), (8, 5), (9, 5)])] (by kernel_rfl) rfl ?_
    intro w9 hM' hww9; clear hM; have hM := hM'; clear hM'
    refine s_move hE rfl rfl ?_; clear hE a; intro a hE
    refine s_move hE rfl rfl ?_; clear hE a; intro a hE
    refine s_calldynL hE rfl rfl Tryd.call76 (who_c b5 b6 0 i _ (hM.get 0 rfl) hb19 (by decide)) rfl ?_
    rintro e w10 ⟨rfl, hN⟩
    refine ⟨_, rfl, hN.sta0 _, ?_⟩; clear hE a; intro a hE
    replace hM : Mem _ _ w10 [_, _, _, _, _] := hM.call0 hN trivial; clear hN
    refine s_nilCheck hE rfl rfl ?_; clear hE a; intro a hE
    refine s_loadIdx (j := (whoI 0 i)) hE rfl (by omega) (hM.get 1 rfl) (wd_get (by simp only [wd_length, List.length_set, runW_length, hw8]; exact whoI_lt _ _)) one102 (by intro X h; cases h; simp) rfl ?_; clear hE a; intro a hE
    refine s_calldynL hE rfl rfl Tryd.call76 (who_c b5 b6 4 i _ (hM.get 0 rfl) hb19 (by decide)) rfl ?_
    rintro e w11 ⟨rfl, hN⟩
    refine ⟨_, rfl, hN.sta0 _, ?_⟩; clear hE a; intro a hE
    replace hM : Mem _ _ w11 [_, _, _, _, _] := hM.call0 hN trivial; clear hN
    refine s_nilCheck hE rfl rfl ?_; clear hE a; intro a hE
    refine s_loadIdx (j := (whoI 4 i)) hE rfl (by omega) (hM.get 1 rfl) (wd_get (by simp only [wd_length, List.length_set, runW_length, hw8]; exact whoI_lt _ _)) one102 (by intro X h; cases h; simp) rfl ?_; clear hE a; intro a hE
    refine s_assign hE rfl rfl ?_; clear hE a; intro a hE
    refine s_assign hE rfl rfl ?_; clear hE a; intro a hE
    refine q_nil ?_
    replace hE : Env a 127 [(2, _), (4, _), (5, _), (6, _), (7, _), (8, _), (9, _), (10, _), (17, _), (18, _), (19, _)] := hE.sel [2, 4, 5, 6, 7, 8, 9, 10, 17, 18, 19] rfl
    refine hK10 _ _ ?_
    refine wp_seq_k (fun K11 hK11 => ?_)
    refine wp_drawnM hM (by kernel_rfl) (fun _ => False) [(0, true), (4, true), (5, true), (9, true), (1, false), (2, true), (3, true), (6, false), (7, true), (8, true), (10, false), (11, true), (12, true), (13, true), (14, true), (15, true), (16, true)] [(1, [(2, 1), (3, 2), (6, 1), (7, 6), (8, 7), (10, 6), (11, 10), (12, 11), (13, 8), (14, 13), (15, 3), (16, 1)]), (6, [(7, 6), (8, 7), (10, 6), (11, 10), (12, 11), (13, 8), (14, 13), (15, 14), (16, 6)]), (10, [(11, 10), (12, 11), (13, 12), (14, 13), (15, 14), (16, 10)])] (by kernel_rfl) rfl ?_
    intro w12 hM' hww12; clear hM; have hM := hM'; clear hM'
    refine s_move hE rfl rfl ?_; clear hE a; intro a hE
    refine s_move hE rfl rfl ?_; clear hE a; intro a hE
    refine s_move hE rfl rfl ?_; clear hE a; intro a hE
    refine s_move hE rfl rfl ?_; clear hE a; intro a hE
    refine s_calldynL hE rfl rfl Tryd.call76 (who_c b5 b6 6 i _ (hM.get 0 rfl) hb19 (by decide)) rfl ?_
    rintro e w13 ⟨rfl, hN⟩
    refine ⟨_, rfl, hN.sta0 _, ?_⟩; clear hE a; intro a hE
    replace hM : Mem _ _ w13 [_, _, _, _, _] := hM.call0 hN trivial; clear hN
    refine s_nilCheck hE rfl rfl ?_; clear hE a; intro a hE
    refine s_loadIdx (j := (whoI 6 i)) hE rfl (by omega) (hM.get 1 rfl) (wd_get (by simp only [wd_length, List.length_set, runW_length, hw8]; exact whoI_lt _ _)) one102 (by intro X h; cases h; simp) rfl ?_; clear hE a; intro a hE
    refine s_calldynL hE rfl rfl Tryd.call76 (who_c b5 b6 5 i _ (hM.get 0 rfl) hb19 (by decide)) rfl ?_
    rintro e w14 ⟨rfl, hN⟩
    refine ⟨_, rfl, hN.sta0 _, ?_⟩; clear hE a; intro a hE
    replace hM : Mem _ _ w14 [_, _, _, _, _] := hM.call0 hN trivial; clear hN
    refine s_nilCheck hE rfl rfl ?_; clear hE a; intro a hE
    refine s_loadIdx (j := (whoI 5 i)) hE rfl (by omega) (hM.get 1 rfl) (wd_get (by simp only [wd_length, List.length_set, runW_length, hw8]; exact whoI_lt _ _)) one102 (by intro X h; cases h; simp) rfl ?_; clear hE a; intro a hE
    refine s_calldynL hE rfl rfl Tryd.call76 (who_c b5 b6 6 i _ (hM.get 0 rfl) hb19 (by decide)) rfl ?_
    rintro e w15 ⟨rfl, hN⟩
    refine ⟨_, rfl, hN.sta0 _, ?_⟩; clear hE a; intro a hE
    replace hM : Mem _ _ w15 [_, _, _, _, _] := hM.call0 hN trivial; clear hN
    refine s_nilCheck hE rfl rfl ?_; clear hE a; intro a hE
    refine s_loadIdx (j := (whoI 6 i)) hE rfl (by omega) (hM.get 1 rfl) (wd_get (by simp only [wd_length, List.length_set, runW_length, hw8]; exact whoI_lt _ _)) one102 (by intro X h; cases h; simp) rfl ?_; clear hE a; intro a hE
    refine s_bin hE rfl rfl bin_xor32 rfl ?_; clear hE a; intro a hE
    refine s_bin hE rfl rfl bin_and32 rfl ?_; clear hE a; intro a hE
    refine s_bin hE rfl rfl bin_xor32 rfl ?_; clear hE a; intro a hE
    refine s_assign hE rfl rfl ?_; clear hE a; intro a hE
    refine q_nil ?_
    replace hE : Env a 127 [(2, _), (4, _), (5, _), (6, _), (7, _), (8, _), (9, _), (10, _), (11, _), (17, _), (18, _), (19, _)] := hE.sel [2, 4, 5, 6, 7, 8, 9, 10, 11, 17, 18, 19] rfl
    refine hK11 _ _ ?_
    refine wp_seq_k (fun K12 hK12 => ?_)
    refine wp_drawnM hM (by kernel_rfl) (fun _ => False) [(0, true), (1, true), (6, true), (7, true), (13, true), (17, true), (2, false), (3, true), (4, true), (5, true), (8, false), (9, true), (10, true), (11, true), (12, true), (14, false), (15, true), (16, true), (18, false), (19, true), (20, true), (21, true), (22, true), (23, true)] [(2, [(3, 2), (4, 3), (5, 4), (8, 2), (9, 8), (10, 9), (11, 10), (12, 11), (14, 8), (15, 14), (16, 15), (18, 14), (19, 18), (20, 19), (21, 16), (22, 12), (23, 2)]), (8, [(9, 8), (10, 9), (11, 10), (12, 11), (14, 8), (15, 14), (16, 15), (18, 14), (19, 18), (20, 19), (21, 16), (22, 12), (23, 8)]), (14, [(15, 14), (16, 15), (18, 14), (19, 18), (20, 19), (21, 16), (22, 21), (23, 14)]), (18, [(19, 18), (20, 19), (21, 20), (22, 21), (23, 18)])] (by kernel_rfl) rfl ?_
    intro w16 hM' hww16; clear hM; have hM := hM'; clear hM'
    refine s_move hE rfl rfl ?_; clear hE a; intro a hE
    refine s_move hE rfl rfl ?_; clear hE a; intro a hE
    refine s_move hE rfl rfl ?_; clear hE a; intro a hE
    refine s_move hE rfl rfl ?_; clear hE a; intro a hE
    refine s_move hE rfl rfl ?_; clear hE a; intro a hE
    refine s_move hE rfl rfl ?_; clear hE a; intro a hE
    refine s_calldynL hE rfl rfl Tryd.call76 (who_c b5 b6 1 i _ (hM.get 0 rfl) hb19 (by decide)) rfl ?_
    rintro e w17 ⟨rfl, hN⟩
    refine ⟨_, rfl, hN.sta0 _, ?_⟩; clear hE a; intro a hE
    replace hM : Mem _ _ w17 [_, _, _, _, _] := hM.call0 hN trivial; clear hN
    refine s_nilCheck hE rfl rfl ?_; clear hE a; intro a hE
    refine s_loadIdx (j := (whoI 1 i)) hE rfl (by omega) (hM.get 1 rfl) (wd_get (by simp only [wd_length, List.length_set, runW_length, hw8]; exact whoI_lt _ _)) one102 (by intro X h; cases h; simp) rfl ?_; clear hE a; intro a hE
    refine s_bin hE rfl rfl bin_and32 rfl ?_; clear hE a; intro a hE
    refine s_calldynL hE rfl rfl Tryd.call76 (who_c b5 b6 2 i _ (hM.get 0 rfl) hb19 (by decide)) rfl ?_
    rintro e w18 ⟨rfl, hN⟩
    refine ⟨_, rfl, hN.sta0 _, ?_⟩; clear hE a; intro a hE
    replace hM : Mem _ _ w18 [_, _, _, _, _] := hM.call0 hN trivial; clear hN
    refine s_nilCheck hE rfl rfl ?_; clear hE a; intro a hE
    refine s_loadIdx (j := (whoI 2 i)) hE rfl (by omega) (hM.get 1 rfl) (wd_get (by simp only [wd_length, List.length_set, runW_length, hw8]; exact whoI_lt _ _)) one102 (by intro X h; cases h; simp) rfl ?_; clear hE a; intro a hE
    refine s_bin hE rfl rfl bin_and32 rfl ?_; clear hE a; intro a hE
    refine s_bin hE rfl rfl bin_or32 rfl ?_; clear hE a; intro a hE
    refine s_calldynL hE rfl rfl Tryd.call76 (who_c b5 b6 1 i _ (hM.get 0 rfl) hb19 (by decide)) rfl ?_
    rintro e w19 ⟨rfl, hN⟩
    refine ⟨_, rfl, hN.sta0 _, ?_⟩; clear hE a; intro a hE
    replace hM : Mem _ _ w19 [_, _, _, _, _] := hM.call0 hN trivial; clear hN
    refine s_nilCheck hE rfl rfl ?_; clear hE a; intro a hE
    refine s_loadIdx (j := (whoI 1 i)) hE rfl (by omega) (hM.get 1 rfl) (wd_get (by simp only [wd_length, List.length_set, runW_length, hw8]; exact whoI_lt _ _)) one102 (by intro X h; cases h; simp) rfl ?_; clear hE a; intro a hE
    refine s_calldynL hE rfl rfl Tryd.call76 (who_c b5 b6 2 i _ (hM.get 0 rfl) hb19 (by decide)) rfl ?_
    rintro e w20 ⟨rfl, hN⟩
    refine ⟨_, rfl, hN.sta0 _, ?_⟩; clear hE a; intro a hE
    replace hM : Mem _ _ w20 [_, _, _, _, _] := hM.call0 hN trivial; clear hN
    refine s_nilCheck hE rfl rfl ?_; clear hE a; intro a hE
    refine s_loadIdx (j := (whoI 2 i)) hE rfl (by omega) (hM.get 1 rfl) (wd_get (by simp only [wd_length, List.length_set, runW_length, hw8]; exact whoI_lt _ _)) one102 (by intro X h; cases h; simp) rfl ?_; clear hE a; intro a hE
    refine s_bin hE rfl rfl bin_and32 rfl ?_; clear hE a; intro a hE
    refine s_bin hE rfl rfl bin_or32 rfl ?_; clear hE a; intro a hE
    refine s_assign hE rfl rfl ?_; clear hE a; intro a hE
    refine q_nil ?_
    replace hE : Env a 127 [(2, _), (4, _), (5, _), (6, _), (7, _), (8, _), (9, _), (10, _), (11, _), (12, _), (17, _), (18, _), (19, _)] := hE.sel [2, 4, 5, 6, 7, 8, 9, 10, 11, 12, 17, 18, 19] rfl
    refine hK12 _ _ ?_
    refine wp_seq_k (fun K13 hK13 => ?_)
    refine wp_drawnM hM (by kernel_rfl) (fun _ => False) [(0, true), (4, true), (6, true), (9, true), (13, true), (15, true), (16, true), (17, true), (19, true), (1, false), (2, true), (3, true), (5, false), (7, false), (8, true), (10, false), (11, true), (12, true), (14, true), (18, true), (20, true), (21, true)] [(1, [(2, 1), (3, 2), (5, 1), (7, 5), (8, 5), (10, 7), (11, 8), (12, 11), (14, 12), (18, 14), (20, 18), (21, 1)]), (5, [(7, 5), (8, 5), (10, 7), (11, 8), (12, 11), (14, 12), (18, 14), (20, 18), (21, 5)]), (7, [(8, 7), (10, 7), (11, 8), (12, 11), (14, 12), (18, 14), (20, 18), (21, 7)]), (10, [(11, 10), (12, 11), (14, 12), (18, 14), (20, 18), (21, 10)])] (by kernel_rfl) rfl ?_
    intro w21 hM' hww21; clear hM; have hM := hM'; clear hM'
    refine s_move hE rfl rfl ?_; clear hE a; intro a hE
    refine s_move hE rfl rfl ?_; clear hE a; intro a hE
    refine s_move hE rfl rfl ?_; clear hE a; intro a hE
    refine s_move hE rfl rfl ?_; clear hE a; intro a hE
    refine s_move hE rfl rfl ?_; clear hE a; intro a hE
    refine s_load1 hE rfl (hM.get 0 rfl) rfl one3 (by intro X h; cases h; simp) rfl ?_; clear hE a; intro a hE
    refine s_indexArr (j := i) hE rfl rfl arr123 (by first | rfl | omega) (by first | omega | decide) rfl ?_; clear hE a; intro a hE
    refine s_loadCells (j := i) hE rfl (by omega) (hM.get 4 rfl) (wd_get (show i < 64 from hb19)) one102 (by intro X h; cases h; simp) rfl ?_; clear hE a; intro a hE
    refine s_move hE rfl rfl ?_; clear hE a; intro a hE
    refine s_calldynL hE rfl rfl Tryd.call76 (who_c b5 b6 7 i _ (hM.get 0 rfl) hb19 (by decide)) rfl ?_
    rintro e w22 ⟨rfl, hN⟩
    refine ⟨_, rfl, hN.sta0 _, ?_⟩; clear hE a; intro a hE
    replace hM : Mem _ _ w22 [_, _, _, _, _] := hM.call0 hN trivial; clear hN
    refine s_nilCheck hE rfl rfl ?_; clear hE a; intro a hE
    refine s_loadIdx (j := (whoI 7 i)) hE rfl (by omega) (hM.get 1 rfl) (wd_get (by simp only [wd_length, List.length_set, runW_length, hw8]; exact whoI_lt _ _)) one102 (by intro X h; cases h; simp) rfl ?_; clear hE a; intro a hE
    refine s_call hE rfl Tryd.call77 (rot_c _ 6 _ (by decide)) rfl ?_
    rintro e w23 ⟨rfl, hN⟩
    refine ⟨_, rfl, hN.sta0 _, ?_⟩; clear hE a; intro a hE
    replace hM : Mem _ _ w23 [_, _, _, _, _] := hM.call0 hN trivial; clear hN
    refine s_call hE rfl Tryd.call77 (rot_c _ 11 _ (by decide)) rfl ?_
    rintro e w24 ⟨rfl, hN⟩
    refine ⟨_, rfl, hN.sta0 _, ?_⟩; clear hE a; intro a hE
    replace hM : Mem _ _ w24 [_, _, _, _, _] := hM.call0 hN trivial; clear hN
    refine s_bin hE rfl rfl bin_xor32 rfl ?_; clear hE a; intro a hE
    refine s_call hE rfl Tryd.call77 (rot_c _ 25 _ (by decide)) rfl ?_
    rintro e w25 ⟨rfl, hN⟩
    refine ⟨_, rfl, hN.sta0 _, ?_⟩; clear hE a; intro a hE
    replace hM : Mem _ _ w25 [_, _, _, _, _] := hM.call0 hN trivial; clear hN
    refine s_bin hE rfl rfl bin_xor32 rfl ?_; clear hE a; intro a hE
    refine s_bin hE rfl rfl bin_add32 rfl ?_; clear hE a; intro a hE
    refine s_bin hE rfl rfl bin_add32 rfl ?_; clear hE a; intro a hE
    refine s_bin hE rfl rfl bin_add32 rfl ?_; clear hE a; intro a hE
    refine s_bin hE rfl rfl bin_add32 rfl ?_; clear hE a; intro a hE
    refine s_assign hE rfl rfl ?_; clear hE a; intro a hE
    refine q_nil ?_
    replace hE : Env a 127 [(2, _), (4, _), (5, _), (6, _), (7, _), (8, _), (9, _), (10, _), (11, _), (12, _), (13, _), (17, _), (18, _), (19, _)] := hE.sel [2, 4, 5, 6, 7, 8, 9, 10, 11, 12, 13, 17, 18, 19] rfl
    refine hK13 _ _ ?_
    refine wp_seq_k (fun K14 hK14 => ?_)
    refine wp_plain [true, false, true, true, true, true, true, false] rfl rfl ?_
    refine s_move hE rfl rfl ?_; clear hE a; intro a hE
    refine s_calldynL hE rfl rfl Tryd.call76 (who_c b5 b6 3 i _ (hM.get 0 rfl) hb19 (by decide)) rfl ?_
    rintro e w26 ⟨rfl, hN⟩
    refine ⟨_, rfl, trivial, ?_⟩; clear hE a; intro a hE
    replace hM : Mem _ _ w26 [_, _, _, _, _] := hM.call0 hN trivial; clear hN
    refine s_nilCheck hE rfl rfl ?_; clear hE a; intro a hE
    refine s_loadIdx (j := (whoI 3 i)) hE rfl (by omega) (hM.get 1 rfl) (wd_get (by simp only [wd_length, List.length_set, runW_length, hw8]; exact whoI_lt _ _)) one102 (by intro X h; cases h) rfl ?_; clear hE a; intro a hE
    refine s_move hE rfl rfl ?_; clear hE a; intro a hE
    refine s_bin hE rfl rfl bin_add32 rfl ?_; clear hE a; intro a hE
    refine s_nilCheck hE rfl rfl ?_; clear hE a; intro a hE
    replace hM : Mem _ _ w26 [_, _, _, _, _] := hM.pick [1, 0, 2, 3, 4] rfl
    refine s_storeIdx (j := (whoI 3 i)) hE rfl (by omega) rfl hM rfl rfl sz102 (by simp only [wd_length, List.length_set, runW_length, hw8]; exact whoI_lt _ _) (by intro X h; cases h) ?_; intro w27 hM'; clear hM; have hM := hM'; clear hM'
    rw [wd_set] at hM
    refine q_nil ?_
    replace hE : Env a 127 [(2, _), (4, _), (5, _), (6, _), (7, _), (8, _), (9, _), (10, _), (11, _), (12, _), (13, _), (17, _), (18, _), (19, _)] := hE.sel [2, 4, 5, 6, 7, 8, 9, 10, 11, 12, 13, 17, 18, 19] rfl
    refine hK14 _ _ ?_
    refine wp_plain [true, false, true, true, false, true, false, true, true, false, true, true, true, true, true, false] rfl rfl ?_
    refine s_move hE rfl rfl ?_; clear hE a; intro a hE
    refine s_calldynL hE rfl rfl Tryd.call76 (who_c b5 b6 7 i _ (hM.get 1 rfl) hb19 (by decide)) rfl ?_
    rintro e w28 ⟨rfl, hN⟩
    refine ⟨_, rfl, trivial, ?_⟩; clear hE a; intro a hE
    replace hM : Mem _ _ w28 [_, _, _, _, _] := hM.call0 hN trivial; clear hN
    refine s_move hE rfl rfl ?_; clear hE a; intro a hE
    refine s_move hE rfl rfl ?_; clear hE a; intro a hE
    refine s_call hE rfl Tryd.call77 (rot_c _ 2 _ (by decide)) rfl ?_
    rintro e w29 ⟨rfl, hN⟩
    refine ⟨_, rfl, trivial, ?_⟩; clear hE a; intro a hE
    replace hM : Mem _ _ w29 [_, _, _, _, _] := hM.call0 hN trivial; clear hN
    refine s_move hE rfl rfl ?_; clear hE a; intro a hE
    refine s_call hE rfl Tryd.call77 (rot_c _ 13 _ (by decide)) rfl ?_
    rintro e w30 ⟨rfl, hN⟩
    refine ⟨_, rfl, trivial, ?_⟩; clear hE a; intro a hE
    replace hM : Mem _ _ w30 [_, _, _, _, _] := hM.call0 hN trivial; clear hN
    refine s_bin hE rfl rfl bin_xor32 rfl ?_; clear hE a; intro a hE
    refine s_move hE rfl rfl ?_; clear hE a; intro a hE
    refine s_call hE rfl Tryd.call77 (rot_c _ 22 _ (by decide)) rfl ?_
    rintro e w31 ⟨rfl, hN⟩
    refine ⟨_, rfl, trivial, ?_⟩; clear hE a; intro a hE
    replace hM : Mem _ _ w31 [_, _, _, _, _] := hM.call0 hN trivial; clear hN
    refine s_bin hE rfl rfl bin_xor32 rfl ?_; clear hE a; intro a hE
    refine s_bin hE rfl rfl bin_add32 rfl ?_; clear hE a; intro a hE
    refine s_move hE rfl rfl ?_; clear hE a; intro a hE
    refine s_bin hE rfl rfl bin_add32 rfl ?_; clear hE a; intro a hE
    refine s_nilCheck hE rfl rfl ?_; clear hE a; intro a hE
    refine s_storeIdx (j := (whoI 7 i)) hE rfl (by omega) rfl hM rfl rfl sz102 (by simp only [wd_length, List.length_set, runW_length, hw8]; exact whoI_lt _ _) (by intro X h; cases h) ?_; intro w32 hM'; clear hM; have hM := hM'; clear hM'
    rw [wd_set] at hM
    refine q_nil ?_
    replace hE : Env a 127 [(2, _), (4, _), (5, _), (6, _), (7, _), (8, _), (9, _), (10, _), (11, _), (12, _), (13, _), (17, _), (18, _), (19, _)] := hE.sel [2, 4, 5, 6, 7, 8, 9, 10, 11, 12, 13, 17, 18, 19] rfl
    refine q_block_n ?_
    refine hK7 _ _ ?_
    refine wp_plain [true, true] rfl rfl ?_
    refine s_bin hE rfl rfl (bin_add (wrap_i64 (by omega) (by omega))) rfl ?_; clear hE a; intro a hE
    refine s_move hE rfl rfl ?_; clear hE a; intro a hE
    refine q_nil ?_
    replace hE : Env a 127 [(2, _), (4, _), (5, _), (6, _), (7, _), (8, _), (9, _), (10, _), (11, _), (12, _), (13, _), (17, _), (18, _), (19, _)] := hE.sel [2, 4, 5, 6, 7, 8, 9, 10, 11, 12, 13, 17, 18, 19] rfl
    replace hE := hE.cast 18 rfl (show _ = Value.int .i64 ((i + 1 : Nat) : Int) from congrArg _ (by omega))
    replace hM : Mem _ _ w32 [_, _, _, _, _] := hM.pick [0, 2, 3, 4, 1] rfl
    replace hM : Mem _ _ w32 [_, _, _, _] := hM.pick [0, 1, 2, 3] rfl
    exact ⟨i + 1, ⟨by omega, hE.sel [2, 4, 5, 17, 18] rfl, hM⟩, by omega⟩
  · replace hE := hE'; clear hE'
    replace hb19 := of_decide_eq_false hb19
    replace hb19 : ¬ i < 64 := by omega
    obtain rfl : i = 64 := by omega
    refine wp_cond_false (hE.eval rfl) ?_
    refine wp_exit ?_
    refine q_then_e ?_
    refine q_then_e ?_
    refine q_block_x ?_
    refine hK3 _ _ ?_
    refine wp_seq_k (fun K7 hK7 => ?_)
    refine wp_seq_k (fun K8 hK8 => ?_)
    refine wp_plain [true] rfl rfl ?_
    refine s_move hE rfl rfl ?_; clear hE a; intro a hE
    refine q_nil ?_
    refine hK8 _ _ ?_
    refine wp_block ?_
    refine c_loop (fun (k : Nat) a w' => k ≤ 8 ∧ Env a 127 [(2, .pointer (some ⟨b2, 0, none⟩)), (4, .pointer (some ⟨b4, 0, none⟩)), (5, .pointer (some ⟨b5, 0, none⟩)), (114, .int .i64 (k : Int))] ∧ Mem w [] w' [blk b5 [wd (sumW was (runW (msgW bs 64) 64 was) k)] [8] 104, blk b4 [wd (List.replicate 8 0)] [8] 104, blk b2 [wd (was)] [8] 104, glb 0]) (fun k => 8 - k) 0 ⟨Nat.zero_le _, hE.sel [2, 4, 5, 114] rfl, hM⟩ ?_
    clear hE hM a; rintro k a w7 ⟨hk, hE, hM⟩
    refine wp_seq_k (fun K9 hK9 => ?_)
    refine wp_plain [true] rfl rfl ?_
    refine s_bin hE rfl rfl bin_lss rfl ?_; clear hE a; intro a hE
    refine q_nil ?_
    refine hK9 _ _ ?_
    refine wp_seq_k (fun K10 hK10 => ?_)
    refine hE.split 115 rfl (fun hb115 hE' => ?_) (fun hb115 hE' => ?_)
    · replace hE := hE'; clear hE'
      replace hb115 := of_decide_eq_true hb115
      replace hb115 : k < 8 := by omega
      refine wp_cond_true (hE.eval rfl) ?_
      refine wp_skip ?_
      refine hK10 _ _ ?_
      refine wp_seq_k (fun K11 hK11 => ?_)
      refine wp_block ?_
      refine wp_seq_k (fun K12 hK12 => ?_)
      refine wp_plain [true, true] rfl rfl ?_
      refine s_move hE rfl rfl ?_; clear hE a; intro a hE
      refine s_assign hE rfl rfl ?_; clear hE a; intro a hE
      refine q_nil ?_
      replace hE : Env a 127 [(2, _), (4, _), (5, _), (14, _), (114, _), (115, _)] := hE.sel [2, 4, 5, 14, 114, 115] rfl
      refine hK12 _ _ ?_
      refine wp_drawnM2 hM (by kernel_rfl) (fun _ => False) (fun _ => True) [(0, true), (1, true), (2, true), (3, true), (4, true), (5, true), (6, true), (7, true)] [(8, false)] [(8, []), (1, [(2, 1), (6, 2), (7, 1), (8, 1)]), (2, [(6, 2), (7, 2), (8, 2)]), (4, [(5, 4), (6, 5), (7, 4), (8, 4)]), (5, [(6, 5), (7, 5), (8, 5)]), (6, [(7, 6), (8, 6)]), (7, [(8, 7)])] (by kernel_rfl) (by kernel_rfl) rfl rfl ?_
      intro w8 hM' hww8; clear hM; have hM := hM'; clear hM'
      refine s_move hE rfl rfl ?_; clear hE a; intro a hE
      refine s_indexArr (j := k) hE rfl rfl arr104 (by first | rfl | omega) (by first | omega | decide) rfl ?_; clear hE a; intro a hE
      refine s_loadIdx (j := k) hE rfl (by omega) (hM.get 0 rfl) (wd_get (by simp only [wd_length, sumW_length, runW_length, hw8]; exact hb115)) one102 (by intro X h; cases h; simp) rfl ?_; clear hE a; intro a hE
      refine s_move hE rfl rfl ?_; clear hE a; intro a hE
      refine s_indexArr (j := k) hE rfl rfl arr104 (by first | rfl | omega) (by first | omega | decide) rfl ?_; clear hE a; intro a hE
      refine s_loadIdx (j := k) hE rfl (by omega) (hM.get 2 rfl) (wd_get (by simp only [wd_length, sumW_length, runW_length, hw8]; exact hb115)) one102 (by intro X h; cases h; simp) rfl ?_; clear hE a; intro a hE
      refine s_bin hE rfl rfl bin_add32 rfl ?_; clear hE a; intro a hE
      refine s_indexArr (j := k) hE rfl rfl arr104 (by first | rfl | omega) (by first | omega | decide) rfl ?_; clear hE a; intro a hE
      refine q_nil (q_ph ?_)
      refine s_storeIdx (j := k) hE rfl (by omega) rfl hM rfl rfl sz102 (by simp only [wd_length, sumW_length, runW_length, hw8]; exact hb115) (by intro X h; cases h; first | (simp; done) | simp [valBlocks]) ?_; intro w9 hM'; clear hM; have hM := hM'; clear hM'
      rw [wd_set] at hM
      refine q_nil ?_
      replace hE : Env a 127 [(2, _), (4, _), (5, _), (14, _), (114, _), (115, _)] := hE.sel [2, 4, 5, 14, 114, 115] rfl
      refine q_block_n ?_
      refine hK11 _ _ ?_
      refine wp_plain [true, true] rfl rfl ?_
      refine s_bin hE rfl rfl (bin_add (wrap_i64 (by omega) (by omega))) rfl ?_; clear hE a; intro a hE
      refine s_move hE rfl rfl ?_; clear hE a; intro a hE
      refine q_nil ?_
      replace hE : Env a 127 [(2, _), (4, _), (5, _), (14, _), (114, _), (115, _)] := hE.sel [2, 4, 5, 14, 114, 115] rfl
      replace hE := hE.cast 114 rfl (show _ = Value.int .i64 ((k + 1 : Nat) : Int) from congrArg _ (by omega))
      exact ⟨k + 1, ⟨by omega, hE.sel [2, 4, 5, 114] rfl, hM⟩, by omega⟩
    · replace hE := hE'; clear hE'
      replace hb115 := of_decide_eq_false hb115
      replace hb115 : ¬ k < 8 := by omega
      obtain rfl : k = 8 := by omega
      refine wp_cond_false (hE.eval rfl) ?_
      refine wp_exit ?_
      refine q_then_e ?_
      refine q_then_e ?_
      refine q_block_x ?_
      refine hK7 _ _ ?_
      refine wp_seq_k (fun K11 hK11 => ?_)
      refine wp_plain [true, false] rfl rfl ?_
      refine s_loadN hE rfl (hM.get 0 rfl) row104 rfl (by intro X h; cases h) rfl ?_; clear hE a; intro a hE
      replace hM : Mem _ _ w7 [_, _, _, _] := hM.pick [1, 0, 2, 3] rfl
      refine s_storeSeg 0 hE rfl rfl hM rfl sz104 (by simp [hw8]) (wd_one _) rfl (by simp [hw8]) rfl (by intro X h; cases h) ?_; intro w8 hM'; clear hM; have hM := hM'; clear hM'
      simp only [List.set_cons_zero, List.set_cons_succ] at hM
      refine q_nil ?_
      replace hE : Env a 127 [(2, _), (4, _), (5, _), (114, _), (115, _)] := hE.sel [2, 4, 5, 114, 115] rfl
      refine hK11 _ _ ?_
      refine wp_ret ?_
      refine f_ret1 hE rfl (res_cellN rfl (hM.get 0 rfl) row104 rfl) ?_
      exact ⟨rfl, hM.nil⟩
theorem over_c (ns : List UInt32) (v : Value) (bs : List UInt8) (c k : Nat) (w : World) (hG : (glb 0).holds w) (hr : (rd v 1 bs.length c (bv bs)).holds w) (hw8 : ns.length = 8) (hb : bs.length = 64 * k) : Calls Tryd.prog 63 #[.agg (wd ns).toArray, v] w fun e w' => e = .returned (.agg (wd (overW k ns bs)).toArray) ∧ Mem w [] w' [] := by
  have hM := Mem.startR2 hr hG rfl rfl
  refine f_enter 15 Tryd.func63 rfl rfl rfl ?_
  intro a hE
  replace hE : Env a 15 [(0, _), (1, _)] := hE
  refine wp_seq_k (fun K1 hK1 => ?_)
  refine wp_plain [false, false] rfl rfl ?_
  refine s_box (ss := [wd ns]) [8] hE hM rfl (by simp [Value.cells]) (by simp [hw8]) rfl ?_; clear hE a; intro a b2 w1 hE hM'
  clear hM; have hM := hM'; clear hM'
  refine s_alloc [8] hE hM zero104 rfl rfl ?_; clear hE a; intro a b4 w2 hE hM'
  clear hM; have hM := hM'; clear hM'
  refine q_nil ?_
  replace hE : Env a 15 [(1, _), (2, _), (4, _)] := hE.sel [1, 2, 4] rfl
  refine hK1 _ _ ?_
  refine wp_seq_k (fun K2 hK2 => ?_)
  refine wp_block ?_
  replace hM : Mem _ _ w2 [_, _, _, _] := hM.pick [1, 0, 3, 2] rfl
  refine c_loop (fun (j : Nat) a w' => j ≤ k ∧ ∃ v' c', Env a 15 [(1, v'), (2, .pointer (some ⟨b2, 0, none⟩)), (4, .pointer (some ⟨b4, 0, none⟩))] ∧ Mem w [] w' [blk b2 [wd (overW j ns bs)] [8] 104, blk b4 [wd (List.replicate 8 0)] [8] 104, glb 0, rd v' 1 (bs.drop (64 * j)).length c' (bv (bs.drop (64 * j)))]) (fun j => k - j) 0 ⟨Nat.zero_le _, _, _, hE.sel [1, 2, 4] rfl, by simpa [overW] using hM⟩ ?_
  clear hE hM a; rintro j a w3 ⟨hj, v1, c1, hE, hM⟩
  have hlc := rd_len (hM.get 3 rfl)
  have hdl : (bs.drop (64 * j)).length = 64 * k - 64 * j := by simp [hb]
  refine wp_seq_k (fun K3 hK3 => ?_)
  refine wp_seq_k (fun K4 hK4 => ?_)
  refine wp_plain [true, true, true] rfl rfl ?_
  refine s_move hE rfl rfl ?_; clear hE a; intro a hE
  refine s_len hE rfl Tryd.underlying82 (rd_slice (hM.get 3 rfl)) rfl ?_; clear hE a; intro a hE
  refine s_bin hE rfl rfl bin_gtr rfl ?_; clear hE a; intro a hE
  refine q_nil ?_
  replace hE : Env a 15 [(1, _), (2, _), (4, _), (7, _)] := hE.sel [1, 2, 4, 7] rfl
  refine hK4 _ _ ?_
  refine hE.split 7 rfl (fun hb7 hE' => ?_) (fun hb7 hE' => ?_)
  · replace hE := hE'; clear hE'
    replace hb7 := of_decide_eq_true hb7
    have hjk : j < k := by omega
    refine wp_cond_true (hE.eval rfl) ?_
    refine wp_skip ?_
    refine hK3 _ _ ?_
    refine wp_seq_k (fun K5 hK5 => ?_)
    refine wp_block ?_
    refine wp_drawnM2 hM (by kernel_rfl) (fun _ => False) (fun _ => True) [(0, true), (1, true), (2, true), (3, false)] [(4, false)] [(3, [(4, 3)]), (4, []), (0, [(3, 0), (4, 0)]), (2, [(3, 2), (4, 2)])] (by kernel_rfl) (by kernel_rfl) rfl rfl ?_
    intro w4 hM' hww4; clear hM; have hM := hM'; clear hM'
    refine s_loadN hE rfl (hM.get 0 rfl) row104 rfl (by intro X h; cases h; simp) rfl ?_; clear hE a; intro a hE
    refine s_move hE rfl rfl ?_; clear hE a; intro a hE
    refine s_slice (l := 0) (h := 64) (mx' := c1) hE rfl (hM.get 3 rfl) slt82 rfl ⟨_, rfl⟩ rfl (by simp) (by omega) (by omega) (by omega) (by omega) rfl ?_; clear hE a; intro a v12 hE hr12 hvb12
    replace hr12 := rd_take (by omega) hr12
    replace hM := hM.addPart 3 rfl hr12 hvb12; clear hr12
    refine s_call hE rfl Tryd.call71 (pass_c _ v12 _ _ _ (hM.get 3 rfl) (hM.get 0 rfl) (by simp [hw8]) (by simp; omega)) rfl ?_
    rintro e w5 ⟨rfl, hN⟩
    refine ⟨_, rfl, hN.sta0 _, ?_⟩; clear hE a; intro a hE
    replace hM : Mem _ _ w5 [_, _, _, _, _] := hM.call0 hN trivial; clear hN
    refine q_nil (q_ph ?_)
    replace hM : Mem _ _ w5 [_, _, _, _, _] := hM.pick [1, 0, 2, 3, 4] rfl
    refine s_storeSeg 0 hE rfl rfl hM rfl sz104 (by simp [hw8]) (wd_one _) rfl (by simp [hw8]) rfl (by intro X h; cases h; first | (simp; done) | simp [valBlocks]) ?_; intro w6 hM'; clear hM; have hM := hM'; clear hM'
    simp only [List.set_cons_zero, List.set_cons_succ] at hM
    refine q_nil ?_
    replace hE : Env a 15 [(1, _), (2, _), (4, _), (7, _)] := hE.sel [1, 2, 4, 7] rfl
    refine q_block_n ?_
    refine hK5 _ _ ?_
    refine wp_plain [true, true, true] rfl rfl ?_
    refine s_move hE rfl rfl ?_; clear hE a; intro a hE
    refine s_slice (l := 64) (h := (bs.drop (64 * j)).length) (mx' := c1) hE rfl (hM.get 4 rfl) slt82 ⟨_, rfl⟩ rfl rfl (by simp) (by omega) (by omega) (by omega) (by omega) rfl ?_; clear hE a; intro a v9 hE hr9 hvb9
    replace hr9 := rd_drop rfl (by omega) hr9
    replace hM := hM.addPart 4 rfl hr9 hvb9; clear hr9
    refine s_assign hE rfl rfl ?_; clear hE a; intro a hE
    refine q_nil ?_
    replace hE : Env a 15 [(1, _), (2, _), (4, _), (7, _)] := hE.sel [1, 2, 4, 7] rfl
    replace hM : Mem _ _ w6 [_, _, _, _, _, _] := hM.pick [1, 3, 4, 0, 2, 5] rfl
    replace hM : Mem _ _ w6 [_, _, _, _] := hM.pick [0, 1, 2, 3] rfl
    rw [← overW_succ j ns bs, List.drop_drop, show 64 * j + 64 = 64 * (j + 1) by omega] at hM
    exact ⟨j + 1, ⟨by omega, _, _, hE.sel [1, 2, 4] rfl, hM⟩, by omega⟩
  · replace hE := hE'; clear hE'
    replace hb7 := of_decide_eq_false hb7
    obtain rfl : j = k := by omega
    refine wp_cond_false (hE.eval rfl) ?_
    refine wp_exit ?_
    refine q_then_e ?_
    refine q_then_e ?_
    refine q_block_x ?_
    refine hK2 _ _ ?_
    refine wp_seq_k (fun K5 hK5 => ?_)
    refine wp_plain [true, false] rfl rfl ?_
    refine s_loadN hE rfl (hM.get 0 rfl) row104 rfl (by intro X h; cases h) rfl ?_; clear hE a; intro a hE
    replace hM : Mem _ _ w3 [_, _, _, _] := hM.pick [1, 0, 2, 3] rfl
    refine s_storeSeg 0 hE rfl rfl hM rfl sz104 (by simp [hw8]) (wd_one _) rfl (by simp [hw8]) rfl (by intro X h; cases h) ?_; intro w4 hM'; clear hM; have hM := hM'; clear hM'
    simp only [List.set_cons_zero, List.set_cons_succ] at hM
    refine q_nil ?_
    replace hE : Env a 15 [(1, _), (2, _), (4, _), (7, _)] := hE.sel [1, 2, 4, 7] rfl
    refine hK5 _ _ ?_
    refine wp_ret ?_
    refine f_ret1 hE rfl (res_cellN rfl (hM.get 0 rfl) row104 rfl) ?_
    exact ⟨rfl, hM.nil⟩
theorem tail_c (n : Nat) (w : World) (hn : n ≤ 1152921504606846976) : Calls Tryd.prog 64 #[.int .i64 (n : Int)] w fun e w' => ∃ v', e = .returned v' ∧ Mem w [] w' [own v' 1 (tailW n).length (bv (tailW n))] := by
  have hM := Mem.start0 w
  have hz : zerosW n < 64 := Nat.mod_lt _ (by decide)
  refine f_enter 29 Tryd.func64 rfl rfl rfl ?_
  intro a hE
  replace hE : Env a 29 [(0, _)] := hE
  refine wp_seq_k (fun K1 hK1 => ?_)
  refine wp_plain [true] rfl rfl ?_
  refine s_assign hE rfl rfl ?_; clear hE a; intro a hE
  refine q_nil ?_
  refine hK1 _ _ ?_
  refine wp_seq_k (fun K2 hK2 => ?_)
  refine wp_plain [false, true] rfl rfl ?_
  refine s_buildSlice (xs := [.const (.int .u8 128)]) (bv [128]) hE hM sl82 rfl rfl rfl (by intro v hv; simp at hv; subst hv; rfl) rfl rfl rfl rfl ?_; clear hE a; intro a v5 w1 hE hM'
  clear hM; have hM := hM'; clear hM'
  refine s_assign hE rfl rfl ?_; clear hE a; intro a hE
  refine q_nil ?_
  replace hE : Env a 29 [(0, _), (2, _), (3, _)] := hE.sel [0, 2, 3] rfl
  refine hK2 _ _ ?_
  refine wp_seq_k (fun K3 hK3 => ?_)
  refine wp_block ?_
  refine c_loop (fun (j : Nat) a w' => j ≤ zerosW n ∧ ∃ v', Env a 29 [(0, .int .i64 (n : Int)), (3, v')] ∧ Mem w [] w' [own v' 1 (1 + j) (bv (128 :: List.replicate j 0))]) (fun j => zerosW n - j) 0 ⟨Nat.zero_le _, _, hE.sel [0, 3] rfl, hM⟩ ?_
  clear hE hM a; rintro j a w2 ⟨hj, v1, hE, hM⟩
  refine wp_seq_k (fun K4 hK4 => ?_)
  refine wp_seq_k (fun K5 hK5 => ?_)
  refine wp_plain [true, true, true, true, true, true] rfl rfl ?_
  refine s_move hE rfl rfl ?_; clear hE a; intro a hE
  refine s_move hE rfl rfl ?_; clear hE a; intro a hE
  refine s_len hE rfl Tryd.underlying82 (own_slice (hM.get 0 rfl)) rfl ?_; clear hE a; intro a hE
  refine s_bin hE rfl rfl (show Bin _ _ _ _ _ (.int .i64 ((n + (1 + j) : Nat) : Int)) from bin_add (by rw [wrap_i64 (by omega) (by omega)]; omega)) rfl ?_; clear hE a; intro a hE
  refine s_bin hE rfl rfl (bin_rem_nat (by decide)) rfl ?_; clear hE a; intro a hE
  refine s_bin hE rfl rfl bin_neq rfl ?_; clear hE a; intro a hE
  refine q_nil ?_
  replace hE : Env a 29 [(0, _), (3, _), (11, _)] := hE.sel [0, 3, 11] rfl
  refine hK5 _ _ ?_
  refine hE.split 11 rfl (fun hb11 hE' => ?_) (fun hb11 hE' => ?_)
  · replace hE := hE'; clear hE'
    replace hb11 : (n + (1 + j)) % 64 ≠ 56 := by simp at hb11; omega
    replace hb11 : j < zerosW n := by simp only [zerosW] at hj ⊢; omega
    refine wp_cond_true (hE.eval rfl) ?_
    refine wp_skip ?_
    refine hK4 _ _ ?_
    refine wp_block ?_
    refine wp_plain [true, false, false, true] rfl rfl ?_
    refine s_move hE rfl rfl ?_; clear hE a; intro a hE
    refine s_buildSlice (xs := [.const (.int .u8 0)]) (bv [0]) hE hM sl82 rfl rfl rfl (by intro v hv; simp at hv; subst hv; rfl) rfl rfl rfl rfl ?_; clear hE a; intro a v13 w3 hE hM'
    clear hM; have hM := hM'; clear hM'
    replace hM : Mem _ _ w3 [_, _] := hM.pick [1, 0] rfl
    obtain ⟨cy, hy⟩ := own_rd (hM.get 1 rfl)
    refine s_append hE rfl rfl hM sl82 (Src.rd Tryd.underlying82 hy (bv_one _)) (len47 (by simp; omega)) (by simp; omega) (by intro X h; cases h) rfl ?_; clear hE a hy; intro a v14 w4 hE hM'
    clear hM; have hM := hM'; clear hM'
    replace hM : Mem _ _ w4 [_] := hM.pick [0] rfl
    refine s_assign hE rfl rfl ?_; clear hE a; intro a hE
    refine q_nil ?_
    replace hE : Env a 29 [(0, _), (3, _), (11, _)] := hE.sel [0, 3, 11] rfl
    refine q_block_n ?_
    rw [← bv_append, show (128 :: List.replicate j 0) ++ [0] = 128 :: List.replicate (j + 1) (0 : UInt8) by rw [List.replicate_succ']; rfl] at hM
    exact ⟨j + 1, ⟨by omega, _, hE.sel [0, 3] rfl, hM⟩, by omega⟩
  · replace hE := hE'; clear hE'
    replace hb11 : (n + (1 + j)) % 64 = 56 := by simp at hb11; omega
    obtain rfl : j = zerosW n := by simp only [zerosW] at hj ⊢; omega
    refine wp_cond_false (hE.eval rfl) ?_
    refine wp_exit ?_
    refine q_then_e ?_
    refine q_then_e ?_
    refine q_block_x ?_
    refine hK3 _ _ ?_
    refine wp_seq_k (fun K6 hK6 => ?_)
    refine wp_seq_k (fun K7 hK7 => ?_)
    refine wp_plain [true] rfl rfl ?_
    refine s_assign hE rfl rfl ?_; clear hE a; intro a hE
    refine q_nil ?_
    refine hK7 _ _ ?_
    refine wp_block ?_
    refine c_loop (fun (j : Nat) a w' => j ≤ 8 ∧ ∃ v', Env a 29 [(0, .int .i64 (n : Int)), (3, v'), (4, .int .i64 (56 - 8 * (j : Int)))] ∧ Mem w [] w' [own v' 1 (1 + zerosW n + j) (bv ((128 :: List.replicate (zerosW n) 0) ++ (laid 8 (n * 8)).take j))]) (fun j => 8 - j) 0 ⟨Nat.zero_le _, _, hE.sel [0, 3, 4] rfl, by simpa using hM⟩ ?_
    clear hE hM a; rintro j a w3 ⟨hj, v1, hE, hM⟩
    refine wp_seq_k (fun K8 hK8 => ?_)
    refine wp_seq_k (fun K9 hK9 => ?_)
    refine wp_plain [true, true] rfl rfl ?_
    refine s_move hE rfl rfl ?_; clear hE a; intro a hE
    refine s_bin hE rfl rfl bin_geq rfl ?_; clear hE a; intro a hE
    refine q_nil ?_
    replace hE : Env a 29 [(0, _), (3, _), (4, _), (16, _)] := hE.sel [0, 3, 4, 16] rfl
    refine hK9 _ _ ?_
    refine hE.split 16 rfl (fun hb16 hE' => ?_) (fun hb16 hE' => ?_)
    · replace hE := hE'; clear hE'
      replace hb16 := of_decide_eq_true hb16
      refine wp_cond_true (hE.eval rfl) ?_
      refine wp_skip ?_
      refine hK8 _ _ ?_
      refine wp_seq_k (fun K10 hK10 => ?_)
      refine wp_block ?_
      refine wp_plain [true, true, true, true, true, true, true, false, false, true] rfl rfl ?_
      refine s_move hE rfl rfl ?_; clear hE a; intro a hE
      refine s_move hE rfl rfl ?_; clear hE a; intro a hE
      refine s_conv hE rfl (cnv_int Tryd.underlying3 Tryd.underlying94 (wrap_u64 (by omega) (by omega))) rfl ?_; clear hE a; intro a hE
      refine s_bin hE rfl rfl (show Bin _ _ _ _ _ (.int .u64 ((n * 8 : Nat) : Int)) from bin_mul (by rw [wrap_u64 (by omega) (by omega)]; omega)) rfl ?_; clear hE a; intro a hE
      refine s_move hE rfl rfl ?_; clear hE a; intro a hE
      refine s_bin hE rfl rfl (bin_shr_nat (s := 8 * (8 - 1 - j)) (by omega) (by show _ ≤ 64; omega)) rfl ?_; clear hE a; intro a hE
      refine s_conv hE rfl (cnv_int Tryd.underlying94 Tryd.underlying5 (wrap_u8_ofNat _)) rfl ?_; clear hE a; intro a hE
      refine s_buildSlice (xs := [.tmp 25]) (bv [UInt8.ofNat (n * 8 / 2 ^ (8 * (8 - 1 - j)))]) hE hM sl82 rfl rfl rfl (by intro v hv; simp at hv; subst hv; rfl) rfl rfl rfl rfl ?_; clear hE a; intro a v26 w4 hE hM'
      clear hM; have hM := hM'; clear hM'
      replace hM : Mem _ _ w4 [_, _] := hM.pick [1, 0] rfl
      obtain ⟨cy, hy⟩ := own_rd (hM.get 1 rfl)
      refine s_append hE rfl rfl hM sl82 (Src.rd Tryd.underlying82 hy (bv_one _)) (len47 (by simp; omega)) (by simp; omega) (by intro X h; cases h) rfl ?_; clear hE a hy; intro a v27 w5 hE hM'
      clear hM; have hM := hM'; clear hM'
      replace hM : Mem _ _ w5 [_] := hM.pick [0] rfl
      refine s_assign hE rfl rfl ?_; clear hE a; intro a hE
      refine q_nil ?_
      replace hE : Env a 29 [(0, _), (3, _), (4, _), (16, _)] := hE.sel [0, 3, 4, 16] rfl
      refine q_block_n ?_
      refine hK10 _ _ ?_
      refine wp_plain [true, true, true] rfl rfl ?_
      refine s_move hE rfl rfl ?_; clear hE a; intro a hE
      refine s_bin hE rfl rfl (bin_sub (wrap_i64 (by omega) (by omega))) rfl ?_; clear hE a; intro a hE
      refine s_assign hE rfl rfl ?_; clear hE a; intro a hE
      refine q_nil ?_
      replace hE : Env a 29 [(0, _), (3, _), (4, _), (16, _)] := hE.sel [0, 3, 4, 16] rfl
      rw [← bv_append, List.append_assoc, ← laid_take_succ (by omega)] at hM
      replace hE := hE.cast 4 rfl (show _ = Value.int .i64 (56 - 8 * ((j + 1 : Nat) : Int)) from congrArg _ (by omega))
      exact ⟨j + 1, ⟨by omega, _, hE.sel [0, 3, 4] rfl, hM⟩, by omega⟩
    · replace hE := hE'; clear hE'
      replace hb16 := of_decide_eq_false hb16
      obtain rfl : j = 8 := by omega
      refine wp_cond_false (hE.eval rfl) ?_
      refine wp_exit ?_
      refine q_then_e ?_
      refine q_then_e ?_
      refine q_block_x ?_
      refine hK6 _ _ ?_
      refine wp_seq_k (fun K10 hK10 => ?_)
      refine wp_plain [true, true] rfl rfl ?_
      refine s_move hE rfl rfl ?_; clear hE a; intro a hE
      refine s_assign hE rfl rfl ?_; clear hE a; intro a hE
      refine q_nil ?_
      replace hE : Env a 29 [(0, _), (2, _), (3, _), (4, _), (16, _)] := hE.sel [0, 2, 3, 4, 16] rfl
      refine hK10 _ _ ?_
      refine wp_ret ?_
      refine f_ret1 hE rfl rfl ?_
      refine ⟨_, rfl, ?_⟩
      rw [tailW_len, tailW_eq]; exact hM
theorem seeds_c (w : World) : Calls Tryd.prog 61 #[] w fun e w' => e = .returned (.agg (wd seedsW).toArray) ∧ Mem w [] w' [] := by
  have hM := Mem.start0 w
  refine f_enter 2 Tryd.func61 rfl rfl rfl ?_
  intro a hE
  replace hE : Env a 2 [] := hE
  refine wp_seq_k (fun K1 hK1 => ?_)
  refine wp_plain [false] rfl rfl ?_
  refine s_alloc [8] hE hM zero104 rfl rfl ?_; clear hE a; intro a b0 w1 hE hM'
  clear hM; have hM := hM'; clear hM'
  refine q_nil ?_
  refine hK1 _ _ ?_
  refine wp_seq_k (fun K2 hK2 => ?_)
  refine wp_plain [true, false] rfl rfl ?_
  refine s_build (r := .agg (wd seedsW).toArray) _ hE rfl (fun w => by kernel_rfl) rfl ?_; clear hE a; intro a hE
  refine s_storeSeg 0 hE rfl rfl hM rfl sz104 (by decide) (wd_one _) rfl (by simp) rfl (by intro X h; cases h) ?_; intro w2 hM'; clear hM; have hM := hM'; clear hM'
  simp only [List.set_cons_zero, List.set_cons_succ] at hM
  refine q_nil ?_
  replace hE : Env a 2 [(0, _)] := hE.sel [0] rfl
  refine hK2 _ _ ?_
  refine wp_ret ?_
  refine f_ret1 hE rfl (res_cellN rfl (hM.get 0 rfl) row104 rfl) ?_
  exact ⟨rfl, hM.nil⟩
theorem more_c (ns : List UInt32) (size : Nat) (v : Value) (bs : List UInt8) (c k : Nat) (w : World) (hG : (glb 0).holds w) (hr : (rd v 1 bs.length c (bv bs)).holds w) (hw8 : ns.length = 8) (hb : bs.length = 64 * k) (hs : size ≤ 288230376151711744) (hb2 : bs.length ≤ 288230376151711744) : Calls Tryd.prog 62 #[.agg (prefL ns size).toArray, v] w fun e w' => e = .returned (.tuple #[.agg (prefL (overW k ns bs) (size + bs.length)).toArray, .int .i64 0]) ∧ Mem w [] w' [] := by
  have hM := Mem.startR2 hr hG rfl rfl
  refine f_enter 27 Tryd.func62 rfl rfl rfl ?_
  intro a hE
  replace hE : Env a 27 [(0, _), (1, _)] := hE
  refine wp_seq_k (fun K1 hK1 => ?_)
  refine wp_plain [false, false, true] rfl rfl ?_
  refine s_box (ss := [wd ns, [.int .i64 (size : Int)], [.bool true]]) [8, 1, 1] hE hM rfl (by simp [Value.cells, prefL]) (by simp [hw8]) rfl ?_; clear hE a; intro a b2 w1 hE hM'
  clear hM; have hM := hM'; clear hM'
  refine s_alloc [8, 1, 1] hE hM zero106 rfl rfl ?_; clear hE a; intro a b4 w2 hE hM'
  clear hM; have hM := hM'; clear hM'
  replace hM := hM.resplit (ss' := [wd (List.replicate 8 0) ++ [.int .i64 0, .bool false]]) (ns' := [10]) (by simp) (by simp)
  refine s_assign hE rfl rfl ?_; clear hE a; intro a hE
  refine q_nil ?_
  replace hE : Env a 27 [(1, _), (2, _), (4, _), (5, _)] := hE.sel [1, 2, 4, 5] rfl
  refine hK1 _ _ ?_
  refine wp_seq_k (fun K2 hK2 => ?_)
  refine wp_block ?_
  refine wp_seq_k (fun K3 hK3 => ?_)
  refine wp_plain [true, true, true, true] rfl rfl ?_
  refine s_fieldAddr hE rfl fo106_2 rfl ?_; clear hE a; intro a hE
  refine s_load1 hE rfl (hM.get 1 rfl) rfl one4 (by intro X h; cases h) rfl ?_; clear hE a; intro a hE
  refine s_not hE rfl rfl ?_; clear hE a; intro a hE
  refine s_assign hE rfl rfl ?_; clear hE a; intro a hE
  refine q_nil ?_
  replace hE : Env a 27 [(1, _), (2, _), (4, _), (5, _), (6, _)] := hE.sel [1, 2, 4, 5, 6] rfl
  refine hK3 _ _ ?_
  replace hE := hE.cast 6 rfl (show _ = Value.bool false from (congrArg Value.bool rfl))
  refine wp_cond_false (hE.eval rfl) ?_
  refine wp_seq_k (fun K4 hK4 => ?_)
  refine wp_plain [true, true, true, true, true] rfl rfl ?_
  refine s_move hE rfl rfl ?_; clear hE a; intro a hE
  refine s_len hE rfl Tryd.underlying82 (rd_slice (hM.get 2 rfl)) rfl ?_; clear hE a; intro a hE
  refine s_bin hE rfl rfl (bin_rem_nat (by decide)) rfl ?_; clear hE a; intro a hE
  refine s_bin hE rfl rfl bin_neq rfl ?_; clear hE a; intro a hE
  refine s_assign hE rfl rfl ?_; clear hE a; intro a hE
  refine q_nil ?_
  replace hE : Env a 27 [(1, _), (2, _), (4, _), (5, _), (6, _), (11, _)] := hE.sel [1, 2, 4, 5, 6, 11] rfl
  refine hK4 _ _ ?_
  replace hE := hE.cast 11 rfl (show _ = Value.bool false from (congrArg Value.bool (by simp; omega)))
  refine wp_cond_false (hE.eval rfl) ?_
  refine wp_skip ?_
  refine q_block_n ?_
  refine hK2 _ _ ?_
  refine wp_seq_k (fun K5 hK5 => ?_)
  refine wp_drawnM2 hM (by kernel_rfl) (fun _ => False) (fun _ => True) [(0, true), (1, true), (2, true), (4, true), (5, true), (6, true), (7, true), (8, true), (3, false), (9, true)] [(10, false), (11, true)] [(3, [(9, 3), (10, 3), (11, 3)]), (10, [(11, 10)]), (0, [(1, 0), (3, 1), (9, 3), (10, 0), (11, 0)]), (1, [(3, 1), (9, 3), (10, 1), (11, 1)]), (4, [(5, 4), (8, 5), (9, 8), (10, 4), (11, 4)]), (5, [(8, 5), (9, 8), (10, 5), (11, 5)]), (7, [(8, 7), (9, 8), (10, 7), (11, 7)]), (8, [(9, 8), (10, 8), (11, 8)]), (9, [(10, 9), (11, 9)])] (by kernel_rfl) (by kernel_rfl) rfl rfl ?_
  intro w3 hM' hww3; clear hM; have hM := hM'; clear hM'
  refine s_fieldAddr hE rfl fo106_0 rfl ?_; clear hE a; intro a hE
  refine s_loadN hE rfl (hM.get 1 rfl) row104 rfl (by intro X h; cases h; simp) rfl ?_; clear hE a; intro a hE
  refine s_move hE rfl rfl ?_; clear hE a; intro a hE
  refine s_fieldAddr hE rfl fo106_1 rfl ?_; clear hE a; intro a hE
  refine s_load1 hE rfl (hM.get 1 rfl) rfl one3 (by intro X h; cases h; simp) rfl ?_; clear hE a; intro a hE
  refine s_move hE rfl rfl ?_; clear hE a; intro a hE
  refine s_len hE rfl Tryd.underlying82 (rd_slice (hM.get 2 rfl)) rfl ?_; clear hE a; intro a hE
  refine s_bin hE rfl rfl (bin_add (wrap_i64 (by omega) (by omega))) rfl ?_; clear hE a; intro a hE
  refine s_call hE rfl Tryd.call63 (over_c ns v bs c k _ (hM.get 3 rfl) (hM.get 2 rfl) hw8 hb) rfl ?_
  rintro e w4 ⟨rfl, hN⟩
  refine ⟨_, rfl, hN.sta0 _, ?_⟩; clear hE a; intro a hE
  replace hM : Mem _ _ w4 [_, _, _, _] := hM.call0 hN trivial; clear hN
  refine s_buildS [wd (overW k ns bs), [.int .i64 ((size : Int) + (bs.length : Int))], [.bool true]] hE rfl zero106 rfl fpl106 ⟨rfl, (by simp [hw8]), rfl, rfl, rfl, rfl, trivial⟩ rfl ?_; clear hE a; intro a hE
  refine q_nil (q_ph ?_)
  refine s_storeSeg 0 (vs := prefL (overW k ns bs) (size + bs.length)) hE rfl rfl hM rfl sz106 (by simp [prefL, hw8]) (prefL_one _ _) rfl (by simp [prefL]) rfl (by intro X h; cases h; first | (simp; done) | simp [valBlocks]) ?_; intro w5 hM'; clear hM; have hM := hM'; clear hM'
  simp only [List.set_cons_zero] at hM
  refine s_assign hE rfl rfl ?_; clear hE a; intro a hE
  refine q_nil ?_
  replace hE : Env a 27 [(1, _), (2, _), (4, _), (5, _), (6, _), (11, _)] := hE.sel [1, 2, 4, 5, 6, 11] rfl
  refine hK5 _ _ ?_
  refine wp_ret ?_
  refine f_ret2 hE rfl (res_cellN rfl (hM.get 0 rfl) row106 rfl) rfl ?_
  exact ⟨rfl, hM.nil⟩
theorem ahead_c (v : Value) (bs : List UInt8) (c k : Nat) (w : World) (hG : (glb 0).holds w) (hr : (rd v 1 bs.length c (bv bs)).holds w) (hb : bs.length = 64 * k) (hb2 : bs.length ≤ 288230376151711744) : Calls Tryd.prog 56 #[v] w fun e w' => e = .returned (.tuple #[.agg (prefL (overW k seedsW bs) bs.length).toArray, .int .i64 0]) ∧ Mem w [] w' [] := by
  have hM := Mem.startR2 hr hG rfl rfl
  refine f_enter 10 Tryd.func56 rfl rfl rfl ?_
  intro a hE
  replace hE : Env a 10 [(0, _)] := hE
  refine wp_seq_k (fun K1 hK1 => ?_)
  refine wp_plain [false, true] rfl rfl ?_
  refine s_alloc [8, 1, 1] hE hM zero106 rfl rfl ?_; clear hE a; intro a b2 w1 hE hM'
  clear hM; have hM := hM'; clear hM'
  replace hM := hM.resplit (ss' := [wd (List.replicate 8 0) ++ [.int .i64 0, .bool false]]) (ns' := [10]) (by simp) (by simp)
  refine s_assign hE rfl rfl ?_; clear hE a; intro a hE
  refine q_nil ?_
  refine hK1 _ _ ?_
  refine wp_seq_k (fun K2 hK2 => ?_)
  refine wp_plain [false, true, true, false, true, true, false, true] rfl rfl ?_
  refine s_call hE rfl Tryd.call61 (seeds_c _) rfl ?_
  rintro e w2 ⟨rfl, hN⟩
  refine ⟨_, rfl, trivial, ?_⟩; clear hE a; intro a hE
  replace hM : Mem _ _ w2 [_, _, _] := hM.call0 hN trivial; clear hN
  refine s_buildS [wd seedsW, [.bool true]] hE rfl zero106 rfl fpl106 ⟨rfl, rfl, rfl, rfl, trivial⟩ rfl ?_; clear hE a; intro a hE
  refine s_move hE rfl rfl ?_; clear hE a; intro a hE
  refine s_call hE rfl Tryd.call62 (more_c seedsW 0 v bs c k _ (hM.get 2 rfl) (hM.get 1 rfl) rfl hb (by decide) hb2) rfl ?_
  rintro e w3 ⟨rfl, hN⟩
  refine ⟨_, rfl, trivial, ?_⟩; clear hE a; intro a hE
  replace hM : Mem _ _ w3 [_, _, _] := hM.call0 hN trivial; clear hN
  refine s_extract hE rfl rfl rfl ?_; clear hE a; intro a hE
  refine s_extract hE rfl rfl rfl ?_; clear hE a; intro a hE
  refine s_storeSeg 0 (vs := prefL (overW k seedsW bs) (0 + bs.length)) hE rfl rfl hM rfl sz106 (by simp [prefL, show seedsW.length = 8 from rfl]) (prefL_one _ _) rfl (by simp [prefL]) rfl (by intro X h; cases h) ?_; intro w4 hM'; clear hM; have hM := hM'; clear hM'
  simp only [List.set_cons_zero] at hM
  refine s_assign hE rfl rfl ?_; clear hE a; intro a hE
  refine q_nil ?_
  replace hE : Env a 10 [(2, _), (3, _)] := hE.sel [2, 3] rfl
  refine hK2 _ _ ?_
  refine wp_ret ?_
  refine f_ret2 hE rfl (res_cellN rfl (hM.get 0 rfl) row106 rfl) rfl ?_
  exact ⟨by rw [Nat.zero_add]; rfl, hM.nil⟩
theorem psum_c (ns : List UInt32) (size : Nat) (v : Value) (bs : List UInt8) (c : Nat) (w : World) (hG : (glb 0).holds w) (hr : (rd v 1 bs.length c (bv bs)).holds w) (hw8 : ns.length = 8) (hs : size % 64 = 0) (hs2 : size ≤ 1099511627776) (hb2 : bs.length ≤ 1099511627776) : Calls Tryd.prog 57 #[.agg (prefL ns size).toArray, v] w fun e w' => e = .returned (.agg (bv (endW ns size bs)).toArray) ∧ Mem w [] w' [] := by
  have hM := Mem.startR2 hr hG rfl rfl
  have hlc := rd_len hr
  have hz : zerosW (size + bs.length) < 64 := Nat.mod_lt _ (by decide)
  have hL : (bs.drop (bs.length / 64 * 64) ++ tailW (size + bs.length)).length = 64 * ((bs.drop (bs.length / 64 * 64) ++ tailW (size + bs.length)).length / 64) := by
    have := tailW_length (size + bs.length)
    simp only [List.length_append, List.length_drop] at this ⊢; omega
  refine f_enter 55 Tryd.func57 rfl rfl rfl ?_
  intro a hE
  replace hE : Env a 55 [(0, _), (1, _)] := hE
  refine wp_seq_k (fun K1 hK1 => ?_)
  refine wp_plain [false, false] rfl rfl ?_
  refine s_box (ss := [wd ns, [.int .i64 (size : Int)], [.bool true]]) [8, 1, 1] hE hM rfl (by simp [Value.cells, prefL]) (by simp [hw8]) rfl ?_; clear hE a; intro a b2 w1 hE hM'
  clear hM; have hM := hM'; clear hM'
  refine s_alloc [32] hE hM zero34 rfl rfl ?_; clear hE a; intro a b4 w2 hE hM'
  clear hM; have hM := hM'; clear hM'
  refine q_nil ?_
  replace hE : Env a 55 [(1, _), (2, _), (4, _)] := hE.sel [1, 2, 4] rfl
  refine hK1 _ _ ?_
  refine wp_seq_k (fun K2 hK2 => ?_)
  refine wp_seq_k (fun K3 hK3 => ?_)
  refine wp_plain [true, true, true] rfl rfl ?_
  refine s_fieldAddr hE rfl fo106_2 rfl ?_; clear hE a; intro a hE
  refine s_load1 hE rfl (hM.get 1 rfl) rfl one4 (by intro X h; cases h) rfl ?_; clear hE a; intro a hE
  refine s_not hE rfl rfl ?_; clear hE a; intro a hE
  refine q_nil ?_
  replace hE : Env a 55 [(1, _), (2, _), (4, _), (11, _)] := hE.sel [1, 2, 4, 11] rfl
  refine hK3 _ _ ?_
  replace hE := hE.cast 11 rfl (show _ = Value.bool false from (congrArg Value.bool rfl))
  refine wp_cond_false (hE.eval rfl) ?_
  refine wp_skip ?_
  refine hK2 _ _ ?_
  refine wp_seq_k (fun K4 hK4 => ?_)
  refine wp_plain [true, true, true, true, true] rfl rfl ?_
  refine s_move hE rfl rfl ?_; clear hE a; intro a hE
  refine s_len hE rfl Tryd.underlying82 (rd_slice (hM.get 2 rfl)) rfl ?_; clear hE a; intro a hE
  refine s_bin hE rfl rfl (bin_quo_nat (s := 64) (by decide) (wrap_i64 (by omega) (by omega))) rfl ?_; clear hE a; intro a hE
  refine s_bin hE rfl rfl (show Bin _ _ _ _ _ (.int .i64 ((bs.length / 64 * 64 : Nat) : Int)) from bin_mul (by rw [wrap_i64 (by omega) (by omega)]; omega)) rfl ?_; clear hE a; intro a hE
  refine s_assign hE rfl rfl ?_; clear hE a; intro a hE
  refine q_nil ?_
  replace hE : Env a 55 [(1, _), (2, _), (4, _), (5, _), (11, _)] := hE.sel [1, 2, 4, 5, 11] rfl
  refine hK4 _ _ ?_
  refine wp_seq_k (fun K5 hK5 => ?_)
  refine wp_forkM hM (by kernel_rfl) (fun _ => False) (fun _ => True) [(0, true), (1, true), (2, true), (3, true), (4, true)] (5, false) (6, false) [] [(7, false)] [(5, [(7, 5)]), (6, [(7, 6)]), (7, []), (0, [(1, 0), (5, 1), (7, 0)]), (1, [(5, 1), (7, 1)]), (4, [(5, 4), (7, 4)])] (by kernel_rfl) (by kernel_rfl) rfl rfl rfl ?_ ?_
  · intro w3 hM' hww3; clear hM; have hM := hM'; clear hM'
    refine s_fieldAddr hE rfl fo106_0 rfl ?_; clear hE a; intro a hE
    refine s_loadN hE rfl (hM.get 1 rfl) row104 rfl (by intro X h; cases h; simp) rfl ?_; clear hE a; intro a hE
    refine s_move hE rfl rfl ?_; clear hE a; intro a hE
    refine s_move hE rfl rfl ?_; clear hE a; intro a hE
    refine s_slice (l := 0) (h := bs.length / 64 * 64) (mx' := c) hE rfl (hM.get 2 rfl) slt82 rfl ⟨_, rfl⟩ rfl (by simp) (by omega) (by omega) (by omega) (by omega) rfl ?_; clear hE a; intro a v21 hE hr21 hvb21
    replace hr21 := rd_take (by omega) hr21
    replace hM := hM.addPart 2 rfl hr21 hvb21; clear hr21
    refine s_call hE rfl Tryd.call63 (over_c ns v21 (bs.take (bs.length / 64 * 64)) _ (bs.length / 64) _ (hM.get 4 rfl) (hM.get 0 rfl) hw8 (by simp; omega)) rfl ?_
    rintro e w4 ⟨rfl, hN⟩
    refine ⟨_, rfl, hN.sta0 _, ?_⟩; clear hE a; intro a hE
    replace hM : Mem _ _ w4 [_, _, _, _, _] := hM.call0 hN trivial; clear hN
    refine s_alloc [8] hE hM zero104 rfl rfl ?_; clear hE a; intro a b6 w5 hE hM'
    clear hM; have hM := hM'; clear hM'
    refine q_nil (q_ph ?_)
    refine s_storeSeg 0 hE rfl rfl hM rfl sz104 (by simp [hw8]) (wd_one _) rfl (by simp [hw8]) rfl (by intro X h; cases h; first | (simp; done) | simp [valBlocks]) ?_; intro w6 hM'; clear hM; have hM := hM'; clear hM'
    simp only [List.set_cons_zero, List.set_cons_succ] at hM
    refine q_nil ?_
    replace hE : Env a 55 [(1, _), (2, _), (4, _), (5, _), (6, _), (11, _)] := hE.sel [1, 2, 4, 5, 6, 11] rfl
    refine hK5 _ _ ?_
    refine wp_seq_k (fun K6 hK6 => ?_)
    refine wp_plain [false, true, true, true, false, true] rfl rfl ?_
    refine s_buildSlice (xs := []) (bv []) hE hM sl82 rfl rfl rfl (by intro v hv; cases hv) rfl rfl rfl rfl ?_; clear hE a; intro a v23 w7 hE hM'
    clear hM; have hM := hM'; clear hM'
    refine s_move hE rfl rfl ?_; clear hE a; intro a hE
    refine s_move hE rfl rfl ?_; clear hE a; intro a hE
    refine s_slice (l := bs.length / 64 * 64) (h := bs.length) (mx' := c) hE rfl (hM.get 5 rfl) slt82 ⟨_, rfl⟩ rfl rfl (by simp) (by omega) (by omega) (by omega) (by omega) rfl ?_; clear hE a; intro a v26 hE hr26 hvb26
    replace hr26 := rd_drop rfl (by omega) hr26
    replace hM := hM.addPart 5 rfl hr26 hvb26; clear hr26
    replace hM : Mem _ _ w7 [_, _, _, _, _, _, _, _] := hM.pick [1, 0, 2, 3, 4, 5, 6, 7] rfl
    have hy := hM.get 1 rfl
    refine s_append hE rfl rfl hM sl82 (Src.rd Tryd.underlying82 hy (bv_one _)) (len47 (by simp; omega)) (by simp; omega) (by intro X h; cases h) rfl ?_; clear hE a hy; intro a v27 w8 hE hM'
    clear hM; have hM := hM'; clear hM'
    replace hM := hM.ownEq (m' := (bs.drop (bs.length / 64 * 64)).length) (cs' := bv (bs.drop (bs.length / 64 * 64))) (by simp) (by simp [bv])
    refine s_assign hE rfl rfl ?_; clear hE a; intro a hE
    refine q_nil ?_
    replace hE : Env a 55 [(1, _), (2, _), (4, _), (5, _), (6, _), (7, _), (11, _)] := hE.sel [1, 2, 4, 5, 6, 7, 11] rfl
    refine hK6 _ _ ?_
    refine wp_seq_k (fun K7 hK7 => ?_)
    refine wp_drawnM2 hM (by kernel_rfl) (fun b => b ∈ valBlocks v27) (fun _ => True) [(0, true), (1, true), (2, true), (3, true), (4, true), (5, true), (6, true), (7, false), (8, false), (9, false)] [(10, false)] [(7, [(8, 7), (9, 8), (10, 7)]), (8, [(9, 8), (10, 8)]), (9, [(10, 9)]), (10, []), (0, [(9, 0), (10, 0)]), (2, [(3, 2), (6, 3), (7, 6), (8, 7), (9, 8), (10, 2)]), (3, [(6, 3), (7, 6), (8, 7), (9, 8), (10, 3)]), (5, [(6, 5), (7, 6), (8, 7), (9, 8), (10, 5)]), (6, [(7, 6), (8, 7), (9, 8), (10, 6)])] (by kernel_rfl) (by kernel_rfl) rfl rfl ?_
    intro w9 hM' hww9; clear hM; have hM := hM'; clear hM'
    refine s_loadN hE rfl (hM.get 2 rfl) row104 rfl (by intro X h; cases h; intro hx; exact ((apart_of_get hM.apart (i := 0) (j := 2) rfl rfl (by decide)).1 _ hx).1 (.head _)) rfl ?_; clear hE a; intro a hE
    refine s_move hE rfl rfl ?_; clear hE a; intro a hE
    refine s_fieldAddr hE rfl fo106_1 rfl ?_; clear hE a; intro a hE
    refine s_load1 hE rfl (hM.get 5 rfl) rfl one3 (by intro X h; cases h; intro hx; exact ((apart_of_get hM.apart (i := 0) (j := 5) rfl rfl (by decide)).1 _ hx).1 (.head _)) rfl ?_; clear hE a; intro a hE
    refine s_move hE rfl rfl ?_; clear hE a; intro a hE
    refine s_len hE rfl Tryd.underlying82 (rd_slice (hM.get 6 rfl)) rfl ?_; clear hE a; intro a hE
    refine s_bin hE rfl rfl (show Bin _ _ _ _ _ (.int .i64 ((size + bs.length : Nat) : Int)) from bin_add (by rw [wrap_i64 (by omega) (by omega)]; omega)) rfl ?_; clear hE a; intro a hE
    refine s_call hE rfl Tryd.call64 (tail_c (size + bs.length) _ (by omega)) rfl ?_
    rintro e w10 ⟨v35, rfl, hN⟩
    refine ⟨_, rfl, hN.sta0 _, ?_⟩; clear hE a; intro a hE
    replace hM : Mem _ _ w10 [_, _, _, _, _, _, _, _, _] := hM.call0 hN ⟨rfl, trivial⟩; clear hN
    replace hM : Mem _ _ w10 [_, _, _, _, _, _, _, _, _] := hM.pick [1, 0, 2, 3, 4, 5, 6, 7, 8] rfl
    obtain ⟨cy, hy⟩ := own_rd (hM.get 1 rfl)
    refine s_append hE rfl rfl hM sl82 (Src.rd Tryd.underlying82 hy (bv_one _)) (len47 (by simp only [List.length_drop, tailW_len]; omega)) (by simp only [List.length_drop, tailW_len]; omega) (by intro X h; cases h; first | (simp; done) | simp [valBlocks]) rfl ?_; clear hE a hy; intro a v36 w11 hE hM'
    clear hM; have hM := hM'; clear hM'
    replace hM := hM.ownEq (m' := (bs.drop (bs.length / 64 * 64) ++ tailW (size + bs.length)).length) (cs' := bv (bs.drop (bs.length / 64 * 64) ++ tailW (size + bs.length))) (by simp) (by rw [bv_append])
    obtain ⟨cl, hl⟩ := own_rd (hM.get 0 rfl)
    refine s_call hE rfl Tryd.call63 (over_c (overW (bs.length / 64) ns (bs.take (bs.length / 64 * 64))) _ (bs.drop (bs.length / 64 * 64) ++ tailW (size + bs.length)) _ ((bs.drop (bs.length / 64 * 64) ++ tailW (size + bs.length)).length / 64) _ (hM.get 8 rfl) hl (by simp [hw8]) hL) rfl ?_
    rintro e w12 ⟨rfl, hN⟩
    refine ⟨_, rfl, hN.sta0 _, ?_⟩; clear hE a; intro a hE
    replace hM : Mem _ _ w12 [_, _, _, _, _, _, _, _, _] := hM.call0 hN trivial; clear hN
    refine q_nil (q_ph ?_)
    replace hM : Mem _ _ w12 [_, _, _, _, _, _, _, _, _] := hM.pick [3, 0, 1, 2, 4, 5, 6, 7, 8] rfl
    refine s_storeSeg 0 hE rfl rfl hM rfl sz104 (by simp [hw8]) (wd_one _) rfl (by simp [hw8]) rfl (by intro X h; cases h; first | (simp; done) | simp [valBlocks]) ?_; intro w13 hM'; clear hM; have hM := hM'; clear hM'
    simp only [List.set_cons_zero, List.set_cons_succ] at hM
    refine q_nil ?_
    replace hE : Env a 55 [(1, _), (2, _), (4, _), (5, _), (6, _), (11, _)] := hE.sel [1, 2, 4, 5, 6, 11] rfl
    refine hK7 _ _ ?_
    refine wp_seq_k (fun K8 hK8 => ?_)
    refine wp_seq_k (fun K9 hK9 => ?_)
    refine wp_plain [true] rfl rfl ?_
    refine s_move hE rfl rfl ?_; clear hE a; intro a hE
    refine q_nil ?_
    refine hK9 _ _ ?_
    refine wp_block ?_
    replace hM : Mem _ _ w13 [_, _, _, _, _, _, _, _, _] := hM.pick [5, 0, 1, 2, 3, 4, 6, 7, 8] rfl
    replace hM : Mem _ _ w13 [_, _] := hM.pick [0, 1] rfl
    refine c_loop (fun (i : Nat) a w' => i ≤ 32 ∧ Env a 55 [(4, .pointer (some ⟨b4, 0, none⟩)), (6, .pointer (some ⟨b6, 0, none⟩)), (38, .int .i64 (i : Int))] ∧ Mem w [] w' [blk b4 [bv (bytesW (overW ((bs.drop (bs.length / 64 * 64) ++ tailW (size + bs.length)).length / 64) (overW (bs.length / 64) ns (bs.take (bs.length / 64 * 64))) (bs.drop (bs.length / 64 * 64) ++ tailW (size + bs.length))) i ++ List.replicate (32 - i) 0)] [32] 34, blk b6 [wd (overW ((bs.drop (bs.length / 64 * 64) ++ tailW (size + bs.length)).length / 64) (overW (bs.length / 64) ns (bs.take (bs.length / 64 * 64))) (bs.drop (bs.length / 64 * 64) ++ tailW (size + bs.length)))] [8] 104]) (fun i => 32 - i) 0 ⟨Nat.zero_le _, hE.sel [4, 6, 38] rfl, by simpa [bytesW] using hM⟩ ?_
    clear hE hM a; rintro i a w14 ⟨hi, hE, hM⟩
    refine wp_seq_k (fun K10 hK10 => ?_)
    refine wp_plain [true] rfl rfl ?_
    refine s_bin hE rfl rfl bin_lss rfl ?_; clear hE a; intro a hE
    refine q_nil ?_
    refine hK10 _ _ ?_
    refine wp_seq_k (fun K11 hK11 => ?_)
    refine hE.split 39 rfl (fun hb39 hE' => ?_) (fun hb39 hE' => ?_)
    · replace hE := hE'; clear hE'
      replace hb39 := of_decide_eq_true hb39
      replace hb39 : i < 32 := by omega
      refine wp_cond_true (hE.eval rfl) ?_
      refine wp_skip ?_
      refine hK11 _ _ ?_
      refine wp_seq_k (fun K12 hK12 => ?_)
      refine wp_block ?_
      refine wp_seq_k (fun K13 hK13 => ?_)
      refine wp_plain [true, true] rfl rfl ?_
      refine s_move hE rfl rfl ?_; clear hE a; intro a hE
      refine s_assign hE rfl rfl ?_; clear hE a; intro a hE
      refine q_nil ?_
      replace hE : Env a 55 [(4, _), (6, _), (8, _), (38, _), (39, _)] := hE.sel [4, 6, 8, 38, 39] rfl
      refine hK13 _ _ ?_
      refine wp_plain [true, true, true, true, true, true, true, true, true, true, true, true, false] rfl rfl ?_
      refine s_move hE rfl rfl ?_; clear hE a; intro a hE
      refine s_move hE rfl rfl ?_; clear hE a; intro a hE
      refine s_bin hE rfl rfl (bin_quo_nat (s := 4) (by decide) (wrap_i64 (by omega) (by omega))) rfl ?_; clear hE a; intro a hE
      refine s_indexArr (j := (i / 4)) hE rfl rfl arr104 (by first | rfl | omega) (by first | omega | decide) rfl ?_; clear hE a; intro a hE
      refine s_loadIdx (j := (i / 4)) hE rfl (by omega) (hM.get 1 rfl) (wd_get (by simp [hw8]; omega)) one102 (by intro X h; cases h) rfl ?_; clear hE a; intro a hE
      refine s_move hE rfl rfl ?_; clear hE a; intro a hE
      refine s_bin hE rfl rfl (bin_rem_nat (s := 4) (by decide)) rfl ?_; clear hE a; intro a hE
      refine s_bin hE rfl rfl (bin_mul (wrap_i64 (by omega) (by omega))) rfl ?_; clear hE a; intro a hE
      refine s_bin hE rfl rfl (bin_sub (wrap_i64 (by omega) (by omega))) rfl ?_; clear hE a; intro a hE
      refine s_bin hE rfl rfl (bin_shr32 (s := 24 - i % 4 * 8) (by omega) (by omega)) rfl ?_; clear hE a; intro a hE
      refine s_conv hE rfl (cnv_int Tryd.underlying102 Tryd.underlying5 (wrap_u8_ofNat _)) rfl ?_; clear hE a; intro a hE
      refine s_indexArr (j := i) hE rfl rfl arr34 (by first | rfl | omega) (by first | omega | decide) rfl ?_; clear hE a; intro a hE
      refine s_storeIdx (j := i) hE rfl (by omega) rfl hM rfl rfl sz5 (by simp; omega) (by intro X h; cases h) ?_; intro w15 hM'; clear hM; have hM := hM'; clear hM'
      first | rw [bv_set'] at hM | rw [bv_setI] at hM
      refine q_nil ?_
      replace hE : Env a 55 [(4, _), (6, _), (8, _), (38, _), (39, _)] := hE.sel [4, 6, 8, 38, 39] rfl
      refine q_block_n ?_
      refine hK12 _ _ ?_
      refine wp_plain [true, true] rfl rfl ?_
      refine s_bin hE rfl rfl (bin_add (wrap_i64 (by omega) (by omega))) rfl ?_; clear hE a; intro a hE
      refine s_move hE rfl rfl ?_; clear hE a; intro a hE
      refine q_nil ?_
      replace hE : Env a 55 [(4, _), (6, _), (8, _), (38, _), (39, _)] := hE.sel [4, 6, 8, 38, 39] rfl
      replace hE := hE.cast 38 rfl (show _ = Value.int .i64 ((i + 1 : Nat) : Int) from congrArg _ (by omega))
      rw [bytes_set hb39] at hM
      exact ⟨i + 1, ⟨by omega, hE.sel [4, 6, 38] rfl, hM⟩, by omega⟩
    · replace hE := hE'; clear hE'
      replace hb39 := of_decide_eq_false hb39
      replace hb39 : ¬ i < 32 := by omega
      obtain rfl : i = 32 := by omega
      refine wp_cond_false (hE.eval rfl) ?_
      refine wp_exit ?_
      refine q_then_e ?_
      refine q_then_e ?_
      refine q_block_x ?_
      refine hK8 _ _ ?_
      refine wp_seq_k (fun K12 hK12 => ?_)
      refine wp_plain [true, false] rfl rfl ?_
      refine s_loadN hE rfl (hM.get 0 rfl) row34 rfl (by intro X h; cases h) rfl ?_; clear hE a; intro a hE
      refine s_storeSeg 0 hE rfl rfl hM rfl sz34 (by simp) (bv_one _) rfl (by simp) rfl (by intro X h; cases h) ?_; intro w15 hM'; clear hM; have hM := hM'; clear hM'
      simp only [List.set_cons_zero, List.set_cons_succ] at hM
      refine q_nil ?_
      replace hE : Env a 55 [(4, _), (6, _), (38, _), (39, _)] := hE.sel [4, 6, 38, 39] rfl
      refine hK12 _ _ ?_
      refine wp_ret ?_
      refine f_ret1 hE rfl (res_cellN rfl (hM.get 0 rfl) row34 rfl) ?_
      refine ⟨?_, hM.nil⟩
      simp only [Nat.sub_self, List.replicate_zero, List.append_nil, endW, Nat.mul_comm 64 (bs.length / 64)]
  · intro w3 hM' hww3; clear hM; have hM := hM'; clear hM'
    refine s_fieldAddr hE rfl fo106_0 rfl ?_; clear hE a; intro a hE
    refine s_loadN hE rfl (hM.get 1 rfl) row104 rfl (by intro X h; cases h; simp) rfl ?_; clear hE a; intro a hE
    refine s_move hE rfl rfl ?_; clear hE a; intro a hE
    refine s_move hE rfl rfl ?_; clear hE a; intro a hE
    refine s_slice (l := 0) (h := bs.length / 64 * 64) (mx' := c) hE rfl (hM.get 2 rfl) slt82 rfl ⟨_, rfl⟩ rfl (by simp) (by omega) (by omega) (by omega) (by omega) rfl ?_; clear hE a; intro a v21 hE hr21 hvb21
    replace hr21 := rd_take (by omega) hr21
    replace hM := hM.addPart 2 rfl hr21 hvb21; clear hr21
    refine s_alloc [8] hE hM zero104 rfl rfl ?_; clear hE a; intro a b6 w4 hE hM'
    clear hM; have hM := hM'; clear hM'
    refine s_call hE rfl Tryd.call63 (over_c ns v21 (bs.take (bs.length / 64 * 64)) _ (bs.length / 64) _ (hM.get 5 rfl) (hM.get 1 rfl) hw8 (by simp; omega)) rfl ?_
    rintro e w5 ⟨rfl, hN⟩
    refine ⟨_, rfl, hN.sta0 _, ?_⟩; clear hE a; intro a hE
    replace hM : Mem _ _ w5 [_, _, _, _, _, _] := hM.call0 hN trivial; clear hN
    refine q_nil (q_ph ?_)
    refine s_storeSeg 0 hE rfl rfl hM rfl sz104 (by simp [hw8]) (wd_one _) rfl (by simp [hw8]) rfl (by intro X h; cases h; first | (simp; done) | simp [valBlocks]) ?_; intro w6 hM'; clear hM; have hM := hM'; clear hM'
    simp only [List.set_cons_zero, List.set_cons_succ] at hM
    refine q_nil ?_
    replace hE : Env a 55 [(1, _), (2, _), (4, _), (5, _), (6, _), (11, _)] := hE.sel [1, 2, 4, 5, 6, 11] rfl
    refine hK5 _ _ ?_
    refine wp_seq_k (fun K6 hK6 => ?_)
    refine wp_plain [false, true, true, true, false, true] rfl rfl ?_
    refine s_buildSlice (xs := []) (bv []) hE hM sl82 rfl rfl rfl (by intro v hv; cases hv) rfl rfl rfl rfl ?_; clear hE a; intro a v23 w7 hE hM'
    clear hM; have hM := hM'; clear hM'
    refine s_move hE rfl rfl ?_; clear hE a; intro a hE
    refine s_move hE rfl rfl ?_; clear hE a; intro a hE
    refine s_slice (l := bs.length / 64 * 64) (h := bs.length) (mx' := c) hE rfl (hM.get 5 rfl) slt82 ⟨_, rfl⟩ rfl rfl (by simp) (by omega) (by omega) (by omega) (by omega) rfl ?_; clear hE a; intro a v26 hE hr26 hvb26
    replace hr26 := rd_drop rfl (by omega) hr26
    replace hM := hM.addPart 5 rfl hr26 hvb26; clear hr26
    replace hM : Mem _ _ w7 [_, _, _, _, _, _, _, _] := hM.pick [1, 0, 2, 3, 4, 5, 6, 7] rfl
    have hy := hM.get 1 rfl
    refine s_append hE rfl rfl hM sl82 (Src.rd Tryd.underlying82 hy (bv_one _)) (len47 (by simp; omega)) (by simp; omega) (by intro X h; cases h) rfl ?_; clear hE a hy; intro a v27 w8 hE hM'
    clear hM; have hM := hM'; clear hM'
    replace hM := hM.ownEq (m' := (bs.drop (bs.length / 64 * 64)).length) (cs' := bv (bs.drop (bs.length / 64 * 64))) (by simp) (by simp [bv])
    refine s_assign hE rfl rfl ?_; clear hE a; intro a hE
    refine q_nil ?_
    replace hE : Env a 55 [(1, _), (2, _), (4, _), (5, _), (6, _), (7, _), (11, _)] := hE.sel [1, 2, 4, 5, 6, 7, 11] rfl
    refine hK6 _ _ ?_
    refine wp_seq_k (fun K7 hK7 => ?_)
    refine wp_drawnM2 hM (by kernel_rfl) (fun b => b ∈ valBlocks v27) (fun _ => True) [(0, true), (1, true), (2, true), (3, true), (4, true), (5, true), (6, true), (7, false), (8, false), (9, false)] [(10, false)] [(7, [(8, 7), (9, 8), (10, 7)]), (8, [(9, 8), (10, 8)]), (9, [(10, 9)]), (10, []), (0, [(9, 0), (10, 0)]), (2, [(3, 2), (6, 3), (7, 6), (8, 7), (9, 8), (10, 2)]), (3, [(6, 3), (7, 6), (8, 7), (9, 8), (10, 3)]), (5, [(6, 5), (7, 6), (8, 7), (9, 8), (10, 5)]), (6, [(7, 6), (8, 7), (9, 8), (10, 6)])] (by kernel_rfl) (by kernel_rfl) rfl rfl ?_
    intro w9 hM' hww9; clear hM; have hM := hM'; clear hM'
    refine s_loadN hE rfl (hM.get 2 rfl) row104 rfl (by intro X h; cases h; intro hx; exact ((apart_of_get hM.apart (i := 0) (j := 2) rfl rfl (by decide)).1 _ hx).1 (.head _)) rfl ?_; clear hE a; intro a hE
    refine s_move hE rfl rfl ?_; clear hE a; intro a hE
    refine s_fieldAddr hE rfl fo106_1 rfl ?_; clear hE a; intro a hE
    refine s_load1 hE rfl (hM.get 5 rfl) rfl one3 (by intro X h; cases h; intro hx; exact ((apart_of_get hM.apart (i := 0) (j := 5) rfl rfl (by decide)).1 _ hx).1 (.head _)) rfl ?_; clear hE a; intro a hE
    refine s_move hE rfl rfl ?_; clear hE a; intro a hE
    refine s_len hE rfl Tryd.underlying82 (rd_slice (hM.get 6 rfl)) rfl ?_; clear hE a; intro a hE
    refine s_bin hE rfl rfl (show Bin _ _ _ _ _ (.int .i64 ((size + bs.length : Nat) : Int)) from bin_add (by rw [wrap_i64 (by omega) (by omega)]; omega)) rfl ?_; clear hE a; intro a hE
    refine s_call hE rfl Tryd.call64 (tail_c (size + bs.length) _ (by omega)) rfl ?_
    rintro e w10 ⟨v35, rfl, hN⟩
    refine ⟨_, rfl, hN.sta0 _, ?_⟩; clear hE a; intro a hE
    replace hM : Mem _ _ w10 [_, _, _, _, _, _, _, _, _] := hM.call0 hN ⟨rfl, trivial⟩; clear hN
    replace hM : Mem _ _ w10 [_, _, _, _, _, _, _, _, _] := hM.pick [1, 0, 2, 3, 4, 5, 6, 7, 8] rfl
    obtain ⟨cy, hy⟩ := own_rd (hM.get 1 rfl)
    refine s_append hE rfl rfl hM sl82 (Src.rd Tryd.underlying82 hy (bv_one _)) (len47 (by simp only [List.length_drop, tailW_len]; omega)) (by simp only [List.length_drop, tailW_len]; omega) (by intro X h; cases h; first | (simp; done) | simp [valBlocks]) rfl ?_; clear hE a hy; intro a v36 w11 hE hM'
    clear hM; have hM := hM'; clear hM'
    replace hM := hM.ownEq (m' := (bs.drop (bs.length / 64 * 64) ++ tailW (size + bs.length)).length) (cs' := bv (bs.drop (bs.length / 64 * 64) ++ tailW (size + bs.length))) (by simp) (by rw [bv_append])
    obtain ⟨cl, hl⟩ := own_rd (hM.get 0 rfl)
    refine s_call hE rfl Tryd.call63 (over_c (overW (bs.length / 64) ns (bs.take (bs.length / 64 * 64))) _ (bs.drop (bs.length / 64 * 64) ++ tailW (size + bs.length)) _ ((bs.drop (bs.length / 64 * 64) ++ tailW (size + bs.length)).length / 64) _ (hM.get 8 rfl) hl (by simp [hw8]) hL) rfl ?_
    rintro e w12 ⟨rfl, hN⟩
    refine ⟨_, rfl, hN.sta0 _, ?_⟩; clear hE a; intro a hE
    replace hM : Mem _ _ w12 [_, _, _, _, _, _, _, _, _] := hM.call0 hN trivial; clear hN
    refine q_nil (q_ph ?_)
    replace hM : Mem _ _ w12 [_, _, _, _, _, _, _, _, _] := hM.pick [3, 0, 1, 2, 4, 5, 6, 7, 8] rfl
    refine s_storeSeg 0 hE rfl rfl hM rfl sz104 (by simp [hw8]) (wd_one _) rfl (by simp [hw8]) rfl (by intro X h; cases h; first | (simp; done) | simp [valBlocks]) ?_; intro w13 hM'; clear hM; have hM := hM'; clear hM'
    simp only [List.set_cons_zero, List.set_cons_succ] at hM
    refine q_nil ?_
    replace hE : Env a 55 [(1, _), (2, _), (4, _), (5, _), (6, _), (11, _)] := hE.sel [1, 2, 4, 5, 6, 11] rfl
    refine hK7 _ _ ?_
    refine wp_seq_k (fun K8 hK8 => ?_)
    refine wp_seq_k (fun K9 hK9 => ?_)
    refine wp_plain [true] rfl rfl ?_
    refine s_move hE rfl rfl ?_; clear hE a; intro a hE
    refine q_nil ?_
    refine hK9 _ _ ?_
    refine wp_block ?_
    replace hM : Mem _ _ w13 [_, _, _, _, _, _, _, _, _] := hM.pick [5, 0, 1, 2, 3, 4, 6, 7, 8] rfl
    replace hM : Mem _ _ w13 [_, _] := hM.pick [0, 1] rfl
    refine c_loop (fun (i : Nat) a w' => i ≤ 32 ∧ Env a 55 [(4, .pointer (some ⟨b4, 0, none⟩)), (6, .pointer (some ⟨b6, 0, none⟩)), (38, .int .i64 (i : Int))] ∧ Mem w [] w' [blk b4 [bv (bytesW (overW ((bs.drop (bs.length / 64 * 64) ++ tailW (size + bs.length)).length / 64) (overW (bs.length / 64) ns (bs.take (bs.length / 64 * 64))) (bs.drop (bs.length / 64 * 64) ++ tailW (size + bs.length))) i ++ List.replicate (32 - i) 0)] [32] 34, blk b6 [wd (overW ((bs.drop (bs.length / 64 * 64) ++ tailW (size + bs.length)).length / 64) (overW (bs.length / 64) ns (bs.take (bs.length / 64 * 64))) (bs.drop (bs.length / 64 * 64) ++ tailW (size + bs.length)))] [8] 104]) (fun i => 32 - i) 0 ⟨Nat.zero_le _, hE.sel [4, 6, 38] rfl, by simpa [bytesW] using hM⟩ ?_
    clear hE hM a; rintro i a w14 ⟨hi, hE, hM⟩
    refine wp_seq_k (fun K10 hK10 => ?_)
    refine wp_plain [true] rfl rfl ?_
    refine s_bin hE rfl rfl bin_lss rfl ?_; clear hE a; intro a hE
    refine q_nil ?_
    refine hK10 _ _ ?_
    refine wp_seq_k (fun K11 hK11 => ?_)
    refine hE.split 39 rfl (fun hb39 hE' => ?_) (fun hb39 hE' => ?_)
    · replace hE := hE'; clear hE'
      replace hb39 := of_decide_eq_true hb39
      replace hb39 : i < 32 := by omega
      refine wp_cond_true (hE.eval rfl) ?_
      refine wp_skip ?_
      refine hK11 _ _ ?_
      refine wp_seq_k (fun K12 hK12 => ?_)
      refine wp_block ?_
      refine wp_seq_k (fun K13 hK13 => ?_)
      refine wp_plain [true, true] rfl rfl ?_
      refine s_move hE rfl rfl ?_; clear hE a; intro a hE
      refine s_assign hE rfl rfl ?_; clear hE a; intro a hE
      refine q_nil ?_
      replace hE : Env a 55 [(4, _), (6, _), (8, _), (38, _), (39, _)] := hE.sel [4, 6, 8, 38, 39] rfl
      refine hK13 _ _ ?_
      refine wp_plain [true, true, true, true, true, true, true, true, true, true, true, true, false] rfl rfl ?_
      refine s_move hE rfl rfl ?_; clear hE a; intro a hE
      refine s_move hE rfl rfl ?_; clear hE a; intro a hE
      refine s_bin hE rfl rfl (bin_quo_nat (s := 4) (by decide) (wrap_i64 (by omega) (by omega))) rfl ?_; clear hE a; intro a hE
      refine s_indexArr (j := (i / 4)) hE rfl rfl arr104 (by first | rfl | omega) (by first | omega | decide) rfl ?_; clear hE a; intro a hE
      refine s_loadIdx (j := (i / 4)) hE rfl (by omega) (hM.get 1 rfl) (wd_get (by simp [hw8]; omega)) one102 (by intro X h; cases h) rfl ?_; clear hE a; intro a hE
      refine s_move hE rfl rfl ?_; clear hE a; intro a hE
      refine s_bin hE rfl rfl (bin_rem_nat (s := 4) (by decide)) rfl ?_; clear hE a; intro a hE
      refine s_bin hE rfl rfl (bin_mul (wrap_i64 (by omega) (by omega))) rfl ?_; clear hE a; intro a hE
      refine s_bin hE rfl rfl (bin_sub (wrap_i64 (by omega) (by omega))) rfl ?_; clear hE a; intro a hE
      refine s_bin hE rfl rfl (bin_shr32 (s := 24 - i % 4 * 8) (by omega) (by omega)) rfl ?_; clear hE a; intro a hE
      refine s_conv hE rfl (cnv_int Tryd.underlying102 Tryd.underlying5 (wrap_u8_ofNat _)) rfl ?_; clear hE a; intro a hE
      refine s_indexArr (j := i) hE rfl rfl arr34 (by first | rfl | omega) (by first | omega | decide) rfl ?_; clear hE a; intro a hE
      refine s_storeIdx (j := i) hE rfl (by omega) rfl hM rfl rfl sz5 (by simp; omega) (by intro X h; cases h) ?_; intro w15 hM'; clear hM; have hM := hM'; clear hM'
      first | rw [bv_set'] at hM | rw [bv_setI] at hM
      refine q_nil ?_
      replace hE : Env a 55 [(4, _), (6, _), (8, _), (38, _), (39, _)] := hE.sel [4, 6, 8, 38, 39] rfl
      refine q_block_n ?_
      refine hK12 _ _ ?_
      refine wp_plain [true, true] rfl rfl ?_
      refine s_bin hE rfl rfl (bin_add (wrap_i64 (by omega) (by omega))) rfl ?_; clear hE a; intro a hE
      refine s_move hE rfl rfl ?_; clear hE a; intro a hE
      refine q_nil ?_
      replace hE : Env a 55 [(4, _), (6, _), (8, _), (38, _), (39, _)] := hE.sel [4, 6, 8, 38, 39] rfl
      replace hE := hE.cast 38 rfl (show _ = Value.int .i64 ((i + 1 : Nat) : Int) from congrArg _ (by omega))
      rw [bytes_set hb39] at hM
      exact ⟨i + 1, ⟨by omega, hE.sel [4, 6, 38] rfl, hM⟩, by omega⟩
    · replace hE := hE'; clear hE'
      replace hb39 := of_decide_eq_false hb39
      replace hb39 : ¬ i < 32 := by omega
      obtain rfl : i = 32 := by omega
      refine wp_cond_false (hE.eval rfl) ?_
      refine wp_exit ?_
      refine q_then_e ?_
      refine q_then_e ?_
      refine q_block_x ?_
      refine hK8 _ _ ?_
      refine wp_seq_k (fun K12 hK12 => ?_)
      refine wp_plain [true, false] rfl rfl ?_
      refine s_loadN hE rfl (hM.get 0 rfl) row34 rfl (by intro X h; cases h) rfl ?_; clear hE a; intro a hE
      refine s_storeSeg 0 hE rfl rfl hM rfl sz34 (by simp) (bv_one _) rfl (by simp) rfl (by intro X h; cases h) ?_; intro w15 hM'; clear hM; have hM := hM'; clear hM'
      simp only [List.set_cons_zero, List.set_cons_succ] at hM
      refine q_nil ?_
      replace hE : Env a 55 [(4, _), (6, _), (38, _), (39, _)] := hE.sel [4, 6, 38, 39] rfl
      refine hK12 _ _ ?_
      refine wp_ret ?_
      refine f_ret1 hE rfl (res_cellN rfl (hM.get 0 rfl) row34 rfl) ?_
      refine ⟨?_, hM.nil⟩
      simp only [Nat.sub_self, List.replicate_zero, List.append_nil, endW, Nat.mul_comm 64 (bs.length / 64)]
theorem sha_c (v : Value) (bs : List UInt8) (c : Nat) (w : World) (hG : (glb 0).holds w) (hr : (rd v 1 bs.length c (bv bs)).holds w) (hb2 : bs.length ≤ 1099511627776) : Calls Tryd.prog 52 #[v] w fun e w' => e = .returned (.agg (bv (shaW bs)).toArray) ∧ Mem w [] w' [] := by
  have hM := Mem.startR2 hr hG rfl rfl
  refine f_enter 12 Tryd.func52 rfl rfl rfl ?_
  intro a hE
  replace hE : Env a 12 [(0, _)] := hE
  refine wp_seq_k (fun K1 hK1 => ?_)
  refine wp_plain [false] rfl rfl ?_
  refine s_alloc [32] hE hM zero34 rfl rfl ?_; clear hE a; intro a b2 w1 hE hM'
  clear hM; have hM := hM'; clear hM'
  refine q_nil ?_
  refine hK1 _ _ ?_
  refine wp_seq_k (fun K2 hK2 => ?_)
  refine wp_plain [false, true, true, true, false, false, true] rfl rfl ?_
  refine s_call hE rfl Tryd.call56 (ahead_c (.slice none 0 0) [] 0 0 _ (hM.get 2 rfl) ⟨rfl, .inl ⟨none, rfl, rfl, rfl⟩⟩ rfl (by decide)) rfl ?_
  rintro e w2 ⟨rfl, hN⟩
  refine ⟨_, rfl, trivial, ?_⟩; clear hE a; intro a hE
  replace hM : Mem _ _ w2 [_, _, _] := hM.call0 hN trivial; clear hN
  refine s_move hE rfl rfl ?_; clear hE a; intro a hE
  refine s_extract hE rfl rfl rfl ?_; clear hE a; intro a hE
  refine s_extract hE rfl rfl rfl ?_; clear hE a; intro a hE
  refine s_alloc [8, 1, 1] hE hM zero106 rfl rfl ?_; clear hE a; intro a b3 w3 hE hM'
  clear hM; have hM := hM'; clear hM'
  replace hM := hM.resplit (ss' := [wd (List.replicate 8 0) ++ [.int .i64 0, .bool false]]) (ns' := [10]) (by simp) (by simp)
  refine s_storeSeg 0 (vs := prefL seedsW 0) hE rfl rfl hM rfl sz106 (by simp [prefL, show seedsW.length = 8 from rfl]) (prefL_one _ _) rfl (by simp [prefL]) rfl (by intro X h; cases h) ?_; intro w4 hM'; clear hM; have hM := hM'; clear hM'
  simp only [List.set_cons_zero] at hM
  refine s_assign hE rfl rfl ?_; clear hE a; intro a hE
  refine q_nil ?_
  replace hE : Env a 12 [(0, _), (2, _), (3, _)] := hE.sel [0, 2, 3] rfl
  refine hK2 _ _ ?_
  refine wp_seq_k (fun K3 hK3 => ?_)
  refine wp_plain [true, true, false, false] rfl rfl ?_
  refine s_loadN hE rfl (hM.get 0 rfl) row106 rfl (by intro X h; cases h) rfl ?_; clear hE a; intro a hE
  refine s_move hE rfl rfl ?_; clear hE a; intro a hE
  refine s_call hE rfl Tryd.call57 (psum_c seedsW 0 v bs c _ (hM.get 3 rfl) (hM.get 2 rfl) rfl rfl (by decide) hb2) rfl ?_
  rintro e w5 ⟨rfl, hN⟩
  refine ⟨_, rfl, trivial, ?_⟩; clear hE a; intro a hE
  replace hM : Mem _ _ w5 [_, _, _, _] := hM.call0 hN trivial; clear hN
  replace hM : Mem _ _ w5 [_, _, _, _] := hM.pick [1, 0, 2, 3] rfl
  refine s_storeSeg 0 hE rfl rfl hM rfl sz34 (by simp) (bv_one _) rfl (by simp) rfl (by intro X h; cases h) ?_; intro w6 hM'; clear hM; have hM := hM'; clear hM'
  simp only [List.set_cons_zero, List.set_cons_succ] at hM
  refine q_nil ?_
  replace hE : Env a 12 [(2, _), (3, _)] := hE.sel [2, 3] rfl
  refine hK3 _ _ ?_
  refine wp_ret ?_
  refine f_ret1 hE rfl (res_cellN rfl (hM.get 0 rfl) row34 rfl) ?_
  exact ⟨rfl, hM.nil⟩
end Go.Proofs.YtacebdngbalkmaaDoor
