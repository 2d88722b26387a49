/- Walks of functions of the given program that the claim reaches. -/
import Derived.Test.YtacebdngbalkmaaDoorLh
set_option linter.unusedSimpArgs false
set_option linter.unusedVariables false
namespace Go.Proofs.YtacebdngbalkmaaDoor
open Go Go.Kx
theorem sl110 : SlT Tryd.prog 110 102 1 4 := ⟨Tryd.underlying110, by kernel_rfl, by kernel_rfl, .int .u32 0, by kernel_rfl, rfl⟩
theorem slt110 : slT Tryd.prog 110 = some 1 := by kernel_rfl
theorem sl121 : SlT Tryd.prog 121 4 1 1 := ⟨Tryd.underlying121, by kernel_rfl, by kernel_rfl, .bool false, by kernel_rfl, rfl⟩
theorem slt121 : slT Tryd.prog 121 = some 1 := by kernel_rfl
theorem sl115 : SlT Tryd.prog 115 94 1 8 := ⟨Tryd.underlying115, by kernel_rfl, by kernel_rfl, .int .u64 0, by kernel_rfl, rfl⟩
theorem sz4 : (Tryd.prog.info? 4).map (·.size) = some 1 := by kernel_rfl
theorem slt115 : slT Tryd.prog 115 = some 1 := by kernel_rfl
theorem one94 : OneT Tryd.prog 94 := OneT.of Tryd.underlying94 rfl (by kernel_rfl)
theorem rbit_c (x : UInt32) (i : Nat) (w : World) (hi : i ≤ 31) : Calls Tryd.prog 74 #[wV x, .int .i64 (i : Int)] w fun e w' => e = .returned (wV (bitW x i)) ∧ Mem w [] w' [] := by
  have hM := Mem.start0 w
  refine f_enter 10 Tryd.func74 rfl rfl rfl ?_
  intro a hE
  replace hE : Env a 10 [(0, _), (1, _)] := hE
  refine wp_seq_k (fun K1 hK1 => ?_)
  refine wp_plain [true] rfl rfl ?_
  refine s_assign hE rfl rfl ?_; clear hE a; intro a hE
  refine q_nil ?_
  refine hK1 _ _ ?_
  refine wp_seq_k (fun K2 hK2 => ?_)
  refine wp_plain [true, true, true, true, true, true] rfl rfl ?_
  refine s_move hE rfl rfl ?_; clear hE a; intro a hE
  refine s_move hE rfl rfl ?_; clear hE a; intro a hE
  refine s_conv hE rfl (cnv_int Tryd.underlying3 Tryd.underlying33 (wrap_u64 (by omega) (by omega))) rfl ?_; clear hE a; intro a hE
  refine s_bin hE rfl rfl (bin_shr32 (s := i) rfl (by omega)) rfl ?_; clear hE a; intro a hE
  refine s_bin hE rfl rfl (bin_rem32 (y := 2) (by decide)) rfl ?_; clear hE a; intro a hE
  refine s_assign hE rfl rfl ?_; clear hE a; intro a hE
  refine q_nil ?_
  replace hE : Env a 10 [(4, _)] := hE.sel [4] rfl
  refine hK2 _ _ ?_
  refine wp_ret ?_
  refine f_ret1 hE rfl rfl ?_
  exact ⟨rfl, hM⟩
theorem rrot_c (x : UInt32) (k : Nat) (w : World) (h0 : 0 < k) (hk : k < 32) : Calls Tryd.prog 68 #[wV x, .int .i64 (k : Int)] w fun e w' => e = .returned (wV (rotW x k)) ∧ Mem w [] w' [] := by
  have hM := Mem.start0 w
  refine f_enter 21 Tryd.func68 rfl rfl rfl ?_
  intro a hE
  replace hE : Env a 21 [(0, _), (1, _)] := hE
  refine wp_seq_k (fun K1 hK1 => ?_)
  refine wp_plain [true] rfl rfl ?_
  refine s_assign hE rfl rfl ?_; clear hE a; intro a hE
  refine q_nil ?_
  refine hK1 _ _ ?_
  refine wp_seq_k (fun K2 hK2 => ?_)
  refine wp_plain [true, true, true, true, true, true] rfl rfl ?_
  refine s_move hE rfl rfl ?_; clear hE a; intro a hE
  refine s_move hE rfl rfl ?_; clear hE a; intro a hE
  refine s_conv hE rfl (cnv_int Tryd.underlying3 Tryd.underlying33 (wrap_u64 (by omega) (by omega))) rfl ?_; clear hE a; intro a hE
  refine s_bin hE rfl rfl (bin_shl32 (x := 1) (s := k) (by omega) (by omega)) rfl ?_; clear hE a; intro a hE
  refine s_bin hE rfl rfl (bin_rem32 (by rw [one_shl (by omega)]; exact Nat.ne_of_gt (Nat.two_pow_pos _))) rfl ?_; clear hE a; intro a hE
  refine s_assign hE rfl rfl ?_; clear hE a; intro a hE
  refine q_nil ?_
  replace hE : Env a 21 [(0, _), (1, _), (4, _), (5, _)] := hE.sel [0, 1, 4, 5] rfl
  refine hK2 _ _ ?_
  refine wp_seq_k (fun K3 hK3 => ?_)
  refine wp_plain [true, true, true, true, true, true, true, true, true, true, true] rfl rfl ?_
  refine s_move hE rfl rfl ?_; clear hE a; intro a hE
  refine s_move hE rfl rfl ?_; clear hE a; intro a hE
  refine s_conv hE rfl (cnv_int Tryd.underlying3 Tryd.underlying33 (wrap_u64 (by omega) (by omega))) rfl ?_; clear hE a; intro a hE
  refine s_bin hE rfl rfl (bin_shr32 (s := k) (by omega) (by omega)) rfl ?_; clear hE a; intro a hE
  refine s_move hE rfl rfl ?_; clear hE a; intro a hE
  refine s_move hE rfl rfl ?_; clear hE a; intro a hE
  refine s_bin hE rfl rfl (bin_sub (wrap_i64 (by omega) (by omega))) rfl ?_; clear hE a; intro a hE
  refine s_conv hE rfl (cnv_int Tryd.underlying3 Tryd.underlying33 (wrap_u64 (by omega) (by omega))) rfl ?_; clear hE a; intro a hE
  refine s_bin hE rfl rfl (bin_shl32 (s := 32 - k) (by omega) (by omega)) rfl ?_; clear hE a; intro a hE
  refine s_bin hE rfl rfl bin_add32 rfl ?_; clear hE a; intro a hE
  refine s_assign hE rfl rfl ?_; clear hE a; intro a hE
  refine q_nil ?_
  replace hE : Env a 21 [(0, _), (1, _), (4, _)] := hE.sel [0, 1, 4] rfl
  refine hK3 _ _ ?_
  refine wp_ret ?_
  refine f_ret1 hE rfl rfl ?_
  exact ⟨by rw [← rot_eq h0 hk], hM⟩
theorem rcut_c (x : UInt32) (k : Nat) (w : World) (hk : k < 32) : Calls Tryd.prog 73 #[wV x, .int .i64 (k : Int)] w fun e w' => e = .returned (wV (shrW x k)) ∧ Mem w [] w' [] := by
  have hM := Mem.start0 w
  refine f_enter 10 Tryd.func73 rfl rfl rfl ?_
  intro a hE
  replace hE : Env a 10 [(0, _), (1, _)] := hE
  refine wp_seq_k (fun K1 hK1 => ?_)
  refine wp_plain [true] rfl rfl ?_
  refine s_assign hE rfl rfl ?_; clear hE a; intro a hE
  refine q_nil ?_
  refine hK1 _ _ ?_
  refine wp_seq_k (fun K2 hK2 => ?_)
  refine wp_plain [true, true, true, true, true, true] rfl rfl ?_
  refine s_move hE rfl rfl ?_; clear hE a; intro a hE
  refine s_move hE rfl rfl ?_; clear hE a; intro a hE
  refine s_conv hE rfl (cnv_int Tryd.underlying3 Tryd.underlying33 (wrap_u64 (by omega) (by omega))) rfl ?_; clear hE a; intro a hE
  refine s_bin hE rfl rfl (bin_shl32 (x := 1) (s := k) (by omega) (by omega)) rfl ?_; clear hE a; intro a hE
  refine s_bin hE rfl rfl (bin_quo32 (by rw [one_shl (by omega)]; exact Nat.ne_of_gt (Nat.two_pow_pos _))) rfl ?_; clear hE a; intro a hE
  refine s_assign hE rfl rfl ?_; clear hE a; intro a hE
  refine q_nil ?_
  replace hE : Env a 10 [(4, _)] := hE.sel [4] rfl
  refine hK2 _ _ ?_
  refine wp_ret ?_
  refine f_ret1 hE rfl rfl ?_
  exact ⟨by rw [← cut_eq hk], hM⟩
theorem rch_c (x y z : UInt32) (w : World) : Calls Tryd.prog 69 #[wV x, wV y, wV z] w fun e w' => e = .returned (wV (z ^^^ (x &&& (y ^^^ z)))) ∧ Mem w [] w' [] := by
  have hM := Mem.start0 w
  refine f_enter 29 Tryd.func69 rfl rfl rfl ?_
  intro a hE
  replace hE : Env a 29 [(0, _), (1, _), (2, _)] := hE
  refine wp_seq_k (fun K1 hK1 => ?_)
  refine wp_plain [true] rfl rfl ?_
  refine s_assign hE rfl rfl ?_; clear hE a; intro a hE
  refine q_nil ?_
  refine hK1 _ _ ?_
  refine wp_seq_k (fun K2 hK2 => ?_)
  refine wp_plain [true] rfl rfl ?_
  refine s_assign hE rfl rfl ?_; clear hE a; intro a hE
  refine q_nil ?_
  refine hK2 _ _ ?_
  refine wp_seq_k (fun K3 hK3 => ?_)
  refine wp_seq_k (fun K4 hK4 => ?_)
  refine wp_plain [true] rfl rfl ?_
  refine s_assign hE rfl rfl ?_; clear hE a; intro a hE
  refine q_nil ?_
  refine hK4 _ _ ?_
  refine wp_block ?_
  refine c_loop (fun (j : Nat) a w' => j ≤ 32 ∧ Env a 29 [(0, wV x), (1, wV y), (2, wV z), (7, wV (accW (chB x y z) j)), (8, .int .i64 (31 - (j : Int)))] ∧ Mem w [] w' []) (fun j => 32 - j) 0 ⟨Nat.zero_le _, hE.sel [0, 1, 2, 7, 8] rfl, hM⟩ ?_
  clear hE hM a; rintro j a w1 ⟨hj, hE, hM⟩
  refine wp_seq_k (fun K5 hK5 => ?_)
  refine wp_seq_k (fun K6 hK6 => ?_)
  refine wp_plain [true, true] rfl rfl ?_
  refine s_move hE rfl rfl ?_; clear hE a; intro a hE
  refine s_bin hE rfl rfl bin_geq rfl ?_; clear hE a; intro a hE
  refine q_nil ?_
  replace hE : Env a 29 [(0, _), (1, _), (2, _), (7, _), (8, _), (11, _)] := hE.sel [0, 1, 2, 7, 8, 11] rfl
  refine hK6 _ _ ?_
  refine hE.split 11 rfl (fun hb11 hE' => ?_) (fun hb11 hE' => ?_)
  · replace hE := hE'; clear hE'
    replace hb11 := of_decide_eq_true hb11
    have hj2 : j < 32 := by omega
    replace hE := hE.cast 8 rfl (show _ = Value.int .i64 ((31 - j : Nat) : Int) from congrArg _ (by omega))
    refine wp_cond_true (hE.eval rfl) ?_
    refine wp_skip ?_
    refine hK5 _ _ ?_
    refine wp_seq_k (fun K7 hK7 => ?_)
    refine wp_block ?_
    refine wp_seq_k (fun K8 hK8 => ?_)
    refine wp_plain [true, true, false, true] rfl rfl ?_
    refine s_move hE rfl rfl ?_; clear hE a; intro a hE
    refine s_move hE rfl rfl ?_; clear hE a; intro a hE
    refine s_call hE rfl Tryd.call74 (rbit_c _ (31 - j) _ (by omega)) rfl ?_
    rintro e w2 ⟨rfl, hN⟩
    refine ⟨_, rfl, trivial, ?_⟩; clear hE a; intro a hE
    replace hM : Mem _ _ w2 [] := hM.call0 hN trivial; clear hN
    refine s_assign hE rfl rfl ?_; clear hE a; intro a hE
    refine q_nil ?_
    replace hE : Env a 29 [(0, _), (1, _), (2, _), (7, _), (8, _), (9, _), (11, _)] := hE.sel [0, 1, 2, 7, 8, 9, 11] rfl
    refine hK8 _ _ ?_
    refine wp_seq_k (fun K9 hK9 => ?_)
    refine wp_seq_k (fun K10 hK10 => ?_)
    refine wp_plain [true, true, false, true] rfl rfl ?_
    refine s_move hE rfl rfl ?_; clear hE a; intro a hE
    refine s_move hE rfl rfl ?_; clear hE a; intro a hE
    refine s_call hE rfl Tryd.call74 (rbit_c _ (31 - j) _ (by omega)) rfl ?_
    rintro e w3 ⟨rfl, hN⟩
    refine ⟨_, rfl, trivial, ?_⟩; clear hE a; intro a hE
    replace hM : Mem _ _ w3 [] := hM.call0 hN trivial; clear hN
    refine s_bin hE rfl rfl bin_eql rfl ?_; clear hE a; intro a hE
    refine q_nil ?_
    replace hE : Env a 29 [(0, _), (1, _), (2, _), (7, _), (8, _), (9, _), (11, _), (20, _)] := hE.sel [0, 1, 2, 7, 8, 9, 11, 20] rfl
    refine hK10 _ _ ?_
    refine hE.split 20 rfl (fun hb20 hE' => ?_) (fun hb20 hE' => ?_)
    · replace hE := hE'; clear hE'
      replace hb20 := of_decide_eq_true hb20
      replace hb20 : bitW x (31 - j) = 1 := UInt32.toNat_inj.1 (by have : (1 : UInt32).toNat = 1 := rfl; omega)
      refine wp_cond_true (hE.eval rfl) ?_
      refine wp_plain [true, true, false, true] rfl rfl ?_
      refine s_move hE rfl rfl ?_; clear hE a; intro a hE
      refine s_move hE rfl rfl ?_; clear hE a; intro a hE
      refine s_call hE rfl Tryd.call74 (rbit_c _ (31 - j) _ (by omega)) rfl ?_
      rintro e w4 ⟨rfl, hN⟩
      refine ⟨_, rfl, trivial, ?_⟩; clear hE a; intro a hE
      replace hM : Mem _ _ w4 [] := hM.call0 hN trivial; clear hN
      refine s_assign hE rfl rfl ?_; clear hE a; intro a hE
      refine q_nil ?_
      replace hE : Env a 29 [(0, _), (1, _), (2, _), (7, _), (8, _), (9, _), (11, _), (20, _)] := hE.sel [0, 1, 2, 7, 8, 9, 11, 20] rfl
      refine hK9 _ _ ?_
      refine wp_plain [true, true, true, true, true] rfl rfl ?_
      refine s_move hE rfl rfl ?_; clear hE a; intro a hE
      refine s_bin hE rfl rfl (bin_mul32 (x := 2)) rfl ?_; clear hE a; intro a hE
      refine s_move hE rfl rfl ?_; clear hE a; intro a hE
      refine s_bin hE rfl rfl bin_add32 rfl ?_; clear hE a; intro a hE
      refine s_assign hE rfl rfl ?_; clear hE a; intro a hE
      refine q_nil ?_
      replace hE : Env a 29 [(0, _), (1, _), (2, _), (7, _), (8, _), (9, _), (11, _), (20, _)] := hE.sel [0, 1, 2, 7, 8, 9, 11, 20] rfl
      refine q_block_n ?_
      refine hK7 _ _ ?_
      refine wp_plain [true, true, true] rfl rfl ?_
      refine s_move hE rfl rfl ?_; clear hE a; intro a hE
      refine s_bin hE rfl rfl (bin_sub (wrap_i64 (by omega) (by omega))) rfl ?_; clear hE a; intro a hE
      refine s_assign hE rfl rfl ?_; clear hE a; intro a hE
      refine q_nil ?_
      replace hE : Env a 29 [(0, _), (1, _), (2, _), (7, _), (8, _), (9, _), (11, _), (20, _)] := hE.sel [0, 1, 2, 7, 8, 9, 11, 20] rfl
      replace hE := hE.cast 8 rfl (show _ = Value.int .i64 (31 - ((j + 1 : Nat) : Int)) from congrArg _ (by omega))
      replace hE := hE.cast 7 rfl (show _ = wV (accW (chB x y z) (j + 1)) from congrArg wV (by rw [accW, chB, if_pos hb20]))
      exact ⟨j + 1, ⟨by omega, hE.sel [0, 1, 2, 7, 8] rfl, hM⟩, by omega⟩
    · replace hE := hE'; clear hE'
      replace hb20 := of_decide_eq_false hb20
      replace hb20 : ¬ bitW x (31 - j) = 1 := fun h => hb20 (by rw [h]; rfl)
      refine wp_cond_false (hE.eval rfl) ?_
      refine wp_skip ?_
      refine hK9 _ _ ?_
      refine wp_plain [true, true, true, true, true] rfl rfl ?_
      refine s_move hE rfl rfl ?_; clear hE a; intro a hE
      refine s_bin hE rfl rfl (bin_mul32 (x := 2)) rfl ?_; clear hE a; intro a hE
      refine s_move hE rfl rfl ?_; clear hE a; intro a hE
      refine s_bin hE rfl rfl bin_add32 rfl ?_; clear hE a; intro a hE
      refine s_assign hE rfl rfl ?_; clear hE a; intro a hE
      refine q_nil ?_
      replace hE : Env a 29 [(0, _), (1, _), (2, _), (7, _), (8, _), (9, _), (11, _), (20, _)] := hE.sel [0, 1, 2, 7, 8, 9, 11, 20] rfl
      refine q_block_n ?_
      refine hK7 _ _ ?_
      refine wp_plain [true, true, true] rfl rfl ?_
      refine s_move hE rfl rfl ?_; clear hE a; intro a hE
      refine s_bin hE rfl rfl (bin_sub (wrap_i64 (by omega) (by omega))) rfl ?_; clear hE a; intro a hE
      refine s_assign hE rfl rfl ?_; clear hE a; intro a hE
      refine q_nil ?_
      replace hE : Env a 29 [(0, _), (1, _), (2, _), (7, _), (8, _), (9, _), (11, _), (20, _)] := hE.sel [0, 1, 2, 7, 8, 9, 11, 20] rfl
      replace hE := hE.cast 8 rfl (show _ = Value.int .i64 (31 - ((j + 1 : Nat) : Int)) from congrArg _ (by omega))
      replace hE := hE.cast 7 rfl (show _ = wV (accW (chB x y z) (j + 1)) from congrArg wV (by rw [accW, chB, if_neg hb20]))
      exact ⟨j + 1, ⟨by omega, hE.sel [0, 1, 2, 7, 8] rfl, hM⟩, by omega⟩
  · replace hE := hE'; clear hE'
    replace hb11 := of_decide_eq_false hb11
    obtain rfl : j = 32 := by omega
    refine wp_cond_false (hE.eval rfl) ?_
    refine wp_exit ?_
    refine q_then_e ?_
    refine q_then_e ?_
    refine q_block_x ?_
    refine hK3 _ _ ?_
    refine wp_seq_k (fun K7 hK7 => ?_)
    refine wp_plain [true, true] rfl rfl ?_
    refine s_move hE rfl rfl ?_; clear hE a; intro a hE
    refine s_assign hE rfl rfl ?_; clear hE a; intro a hE
    refine q_nil ?_
    replace hE : Env a 29 [(0, _), (1, _), (2, _), (6, _), (7, _), (8, _), (11, _)] := hE.sel [0, 1, 2, 6, 7, 8, 11] rfl
    refine hK7 _ _ ?_
    refine wp_ret ?_
    refine f_ret1 hE rfl rfl ?_
    exact ⟨by rw [← ch_eq], hM⟩
theorem rmaj_c (x y z : UInt32) (w : World) : Calls Tryd.prog 70 #[wV x, wV y, wV z] w fun e w' => e = .returned (wV (((x &&& y) ||| (x &&& z)) ||| (y &&& z))) ∧ Mem w [] w' [] := by
  have hM := Mem.start0 w
  refine f_enter 31 Tryd.func70 rfl rfl rfl ?_
  intro a hE
  replace hE : Env a 31 [(0, _), (1, _), (2, _)] := hE
  refine wp_seq_k (fun K1 hK1 => ?_)
  refine wp_plain [true] rfl rfl ?_
  refine s_assign hE rfl rfl ?_; clear hE a; intro a hE
  refine q_nil ?_
  refine hK1 _ _ ?_
  refine wp_seq_k (fun K2 hK2 => ?_)
  refine wp_plain [true] rfl rfl ?_
  refine s_assign hE rfl rfl ?_; clear hE a; intro a hE
  refine q_nil ?_
  refine hK2 _ _ ?_
  refine wp_seq_k (fun K3 hK3 => ?_)
  refine wp_seq_k (fun K4 hK4 => ?_)
  refine wp_plain [true] rfl rfl ?_
  refine s_assign hE rfl rfl ?_; clear hE a; intro a hE
  refine q_nil ?_
  refine hK4 _ _ ?_
  refine wp_block ?_
  refine c_loop (fun (j : Nat) a w' => j ≤ 32 ∧ Env a 31 [(0, wV x), (1, wV y), (2, wV z), (7, wV (accW (majB x y z) j)), (8, .int .i64 (31 - (j : Int)))] ∧ Mem w [] w' []) (fun j => 32 - j) 0 ⟨Nat.zero_le _, hE.sel [0, 1, 2, 7, 8] rfl, hM⟩ ?_
  clear hE hM a; rintro j a w1 ⟨hj, hE, hM⟩
  refine wp_seq_k (fun K5 hK5 => ?_)
  refine wp_seq_k (fun K6 hK6 => ?_)
  refine wp_plain [true, true] rfl rfl ?_
  refine s_move hE rfl rfl ?_; clear hE a; intro a hE
  refine s_bin hE rfl rfl bin_geq rfl ?_; clear hE a; intro a hE
  refine q_nil ?_
  replace hE : Env a 31 [(0, _), (1, _), (2, _), (7, _), (8, _), (11, _)] := hE.sel [0, 1, 2, 7, 8, 11] rfl
  refine hK6 _ _ ?_
  refine hE.split 11 rfl (fun hb11 hE' => ?_) (fun hb11 hE' => ?_)
  · replace hE := hE'; clear hE'
    replace hb11 := of_decide_eq_true hb11
    have hj2 : j < 32 := by omega
    replace hE := hE.cast 8 rfl (show _ = Value.int .i64 ((31 - j : Nat) : Int) from congrArg _ (by omega))
    refine wp_cond_true (hE.eval rfl) ?_
    refine wp_skip ?_
    refine hK5 _ _ ?_
    refine wp_seq_k (fun K7 hK7 => ?_)
    refine wp_block ?_
    refine wp_seq_k (fun K8 hK8 => ?_)
    refine wp_plain [true, true, false, true, true, false, true, true, true, false, true, true] rfl rfl ?_
    refine s_move hE rfl rfl ?_; clear hE a; intro a hE
    refine s_move hE rfl rfl ?_; clear hE a; intro a hE
    refine s_call hE rfl Tryd.call74 (rbit_c _ (31 - j) _ (by omega)) rfl ?_
    rintro e w2 ⟨rfl, hN⟩
    refine ⟨_, rfl, trivial, ?_⟩; clear hE a; intro a hE
    replace hM : Mem _ _ w2 [] := hM.call0 hN trivial; clear hN
    refine s_move hE rfl rfl ?_; clear hE a; intro a hE
    refine s_move hE rfl rfl ?_; clear hE a; intro a hE
    refine s_call hE rfl Tryd.call74 (rbit_c _ (31 - j) _ (by omega)) rfl ?_
    rintro e w3 ⟨rfl, hN⟩
    refine ⟨_, rfl, trivial, ?_⟩; clear hE a; intro a hE
    replace hM : Mem _ _ w3 [] := hM.call0 hN trivial; clear hN
    refine s_bin hE rfl rfl bin_add32 rfl ?_; clear hE a; intro a hE
    refine s_move hE rfl rfl ?_; clear hE a; intro a hE
    refine s_move hE rfl rfl ?_; clear hE a; intro a hE
    refine s_call hE rfl Tryd.call74 (rbit_c _ (31 - j) _ (by omega)) rfl ?_
    rintro e w4 ⟨rfl, hN⟩
    refine ⟨_, rfl, trivial, ?_⟩; clear hE a; intro a hE
    replace hM : Mem _ _ w4 [] := hM.call0 hN trivial; clear hN
    refine s_bin hE rfl rfl bin_add32 rfl ?_; clear hE a; intro a hE
    refine s_assign hE rfl rfl ?_; clear hE a; intro a hE
    refine q_nil ?_
    replace hE : Env a 31 [(0, _), (1, _), (2, _), (7, _), (8, _), (9, _), (11, _)] := hE.sel [0, 1, 2, 7, 8, 9, 11] rfl
    refine hK8 _ _ ?_
    refine wp_plain [true, true, true, true, true, true] rfl rfl ?_
    refine s_move hE rfl rfl ?_; clear hE a; intro a hE
    refine s_bin hE rfl rfl (bin_mul32 (x := 2)) rfl ?_; clear hE a; intro a hE
    refine s_move hE rfl rfl ?_; clear hE a; intro a hE
    refine s_bin hE rfl rfl (bin_quo32 (y := 2) (by decide)) rfl ?_; clear hE a; intro a hE
    refine s_bin hE rfl rfl bin_add32 rfl ?_; clear hE a; intro a hE
    refine s_assign hE rfl rfl ?_; clear hE a; intro a hE
    refine q_nil ?_
    replace hE : Env a 31 [(0, _), (1, _), (2, _), (7, _), (8, _), (9, _), (11, _)] := hE.sel [0, 1, 2, 7, 8, 9, 11] rfl
    refine q_block_n ?_
    refine hK7 _ _ ?_
    refine wp_plain [true, true, true] rfl rfl ?_
    refine s_move hE rfl rfl ?_; clear hE a; intro a hE
    refine s_bin hE rfl rfl (bin_sub (wrap_i64 (by omega) (by omega))) rfl ?_; clear hE a; intro a hE
    refine s_assign hE rfl rfl ?_; clear hE a; intro a hE
    refine q_nil ?_
    replace hE : Env a 31 [(0, _), (1, _), (2, _), (7, _), (8, _), (9, _), (11, _)] := hE.sel [0, 1, 2, 7, 8, 9, 11] rfl
    replace hE := hE.cast 8 rfl (show _ = Value.int .i64 (31 - ((j + 1 : Nat) : Int)) from congrArg _ (by omega))
    exact ⟨j + 1, ⟨by omega, hE.sel [0, 1, 2, 7, 8] rfl, hM⟩, by omega⟩
  · replace hE := hE'; clear hE'
    replace hb11 := of_decide_eq_false hb11
    obtain rfl : j = 32 := by omega
    refine wp_cond_false (hE.eval rfl) ?_
    refine wp_exit ?_
    refine q_then_e ?_
    refine q_then_e ?_
    refine q_block_x ?_
    refine hK3 _ _ ?_
    refine wp_seq_k (fun K7 hK7 => ?_)
    refine wp_plain [true, true] rfl rfl ?_
    refine s_move hE rfl rfl ?_; clear hE a; intro a hE
    refine s_assign hE rfl rfl ?_; clear hE a; intro a hE
    refine q_nil ?_
    replace hE : Env a 31 [(0, _), (1, _), (2, _), (6, _), (7, _), (8, _), (11, _)] := hE.sel [0, 1, 2, 6, 7, 8, 11] rfl
    refine hK7 _ _ ?_
    refine wp_ret ?_
    refine f_ret1 hE rfl rfl ?_
    exact ⟨by rw [← maj_eq], hM⟩
theorem take4 {bs : List UInt8} {i : Nat} (h : i + 4 ≤ bs.length) : (bs.drop i).take 4 = [bs.getD i 0, bs.getD (i + 1) 0, bs.getD (i + 2) 0, bs.getD (i + 3) 0] := by
  rw [List.drop_eq_getElem_cons (by omega), List.drop_eq_getElem_cons (by omega), List.drop_eq_getElem_cons (by omega), List.drop_eq_getElem_cons (by omega)]
  simp only [List.take_succ_cons, List.take_zero, List.getD, List.getElem?_eq_getElem (show i < bs.length by omega), List.getElem?_eq_getElem (show i + 1 < bs.length by omega), List.getElem?_eq_getElem (show i + 1 + 1 < bs.length by omega), List.getElem?_eq_getElem (show i + 1 + 1 + 1 < bs.length by omega), List.getElem?_eq_getElem (show i + 2 < bs.length by omega), List.getElem?_eq_getElem (show i + 3 < bs.length by omega), Option.getD_some]
theorem rmsg_c (v : Value) (bs : List UInt8) (c : Nat) (w : World) (hr : (rd v 1 bs.length c (bv bs)).holds w) (hb : bs.length = 64) : Calls Tryd.prog 67 #[v] w fun e w' => ∃ v', e = .returned v' ∧ Mem w [] w' [own v' 1 (msgW bs 64).length (wd (msgW bs 64))] := by
  have hM := Mem.startR1 hr rfl
  refine f_enter 113 Tryd.func67 rfl rfl rfl ?_
  intro a hE
  replace hE : Env a 113 [(0, _)] := hE
  refine wp_seq_k (fun K1 hK1 => ?_)
  refine wp_plain [true] rfl rfl ?_
  refine s_assign hE rfl rfl ?_; clear hE a; intro a hE
  refine q_nil ?_
  refine hK1 _ _ ?_
  refine wp_seq_k (fun K2 hK2 => ?_)
  refine wp_plain [true] rfl rfl ?_
  refine s_assign hE rfl rfl ?_; clear hE a; intro a hE
  replace hM := hM.addNil 1
  refine q_nil ?_
  refine hK2 _ _ ?_
  refine wp_seq_k (fun K3 hK3 => ?_)
  refine wp_seq_k (fun K4 hK4 => ?_)
  refine wp_plain [true] rfl rfl ?_
  refine s_assign hE rfl rfl ?_; clear hE a; intro a hE
  refine q_nil ?_
  refine hK4 _ _ ?_
  refine wp_block ?_
  refine c_loop (fun (i : Nat) a w' => 0 ≤ i ∧ i ≤ 16 ∧ ∃ vm, Env a 113 [(0, v), (3, vm), (4, .int .i64 (i : Int))] ∧ Mem w [] w' [own vm 1 (msgW bs i).length (wd (msgW bs i)), rd v 1 bs.length c (bv bs)]) (fun i => 16 - i) 0 ⟨Nat.le_refl _, by omega, _, hE.sel [0, 3, 4] rfl, hM⟩ ?_
  clear hE hM a; rintro i a w1 ⟨hi0, hi, vm, hE, hM⟩
  refine wp_seq_k (fun K5 hK5 => ?_)
  refine wp_seq_k (fun K6 hK6 => ?_)
  refine wp_plain [true, true] rfl rfl ?_
  refine s_move hE rfl rfl ?_; clear hE a; intro a hE
  refine s_bin hE rfl rfl bin_lss rfl ?_; clear hE a; intro a hE
  refine q_nil ?_
  replace hE : Env a 113 [(0, _), (3, _), (4, _), (10, _)] := hE.sel [0, 3, 4, 10] rfl
  refine hK6 _ _ ?_
  refine hE.split 10 rfl (fun hb10 hE' => ?_) (fun hb10 hE' => ?_)
  · replace hE := hE'; clear hE'
    replace hb10 := of_decide_eq_true hb10
    replace hb10 : i < 16 := by omega
    refine wp_cond_true (hE.eval rfl) ?_
    refine wp_skip ?_
    refine hK5 _ _ ?_
    refine wp_seq_k (fun K7 hK7 => ?_)
    refine wp_block ?_
    refine wp_seq_k (fun K8 hK8 => ?_)
    refine wp_drawnM hM (by kernel_rfl) (fun _ => False) [(0, true), (1, true), (2, true), (3, true), (4, true), (5, true), (6, true), (7, true), (8, true), (9, true), (10, true), (11, true), (12, true), (13, true), (14, true), (15, true), (16, true), (17, true), (18, true), (19, true), (20, true), (21, true), (22, true), (23, true), (24, true), (25, true), (26, true), (27, true), (28, true), (29, true), (30, true), (31, true), (32, true), (33, true)] [] (by kernel_rfl) rfl ?_
    intro w2 hM' hww2; clear hM; have hM := hM'; clear hM'
    refine s_move hE rfl rfl ?_; clear hE a; intro a hE
    refine s_move hE rfl rfl ?_; clear hE a; intro a hE
    refine s_bin hE rfl rfl (bin_mul (wrap_i64 (by omega) (by omega))) rfl ?_; clear hE a; intro a hE
    refine s_indexRd (j := (4 * i)) hE rfl (hM.get 1 rfl) rfl slt82 (by first | rfl | omega) (by first | omega | (simp; omega) | decide) rfl ?_; clear hE a; intro a p16 hE hc16 hp16
    rw [bv_elem (by omega)] at hc16
    refine s_loadAt1 hE rfl hc16 one5 (by intro X h; cases h; simp) rfl ?_; clear hE a; intro a hE
    refine s_conv hE rfl (cnv_int Tryd.underlying5 Tryd.underlying102 (wrap_u32_ofNat _)) rfl ?_; clear hE a; intro a hE
    refine s_bin hE rfl rfl (bin_mul32 (y := 16777216)) rfl ?_; clear hE a; intro a hE
    refine s_move hE rfl rfl ?_; clear hE a; intro a hE
    refine s_move hE rfl rfl ?_; clear hE a; intro a hE
    refine s_bin hE rfl rfl (bin_mul (wrap_i64 (by omega) (by omega))) rfl ?_; clear hE a; intro a hE
    refine s_bin hE rfl rfl (bin_add (wrap_i64 (by omega) (by omega))) rfl ?_; clear hE a; intro a hE
    refine s_indexRd (j := (4 * i + 1)) hE rfl (hM.get 1 rfl) rfl slt82 (by first | rfl | omega) (by first | omega | (simp; omega) | decide) rfl ?_; clear hE a; intro a p24 hE hc24 hp24
    rw [bv_elem (by omega)] at hc24
    refine s_loadAt1 hE rfl hc24 one5 (by intro X h; cases h; simp) rfl ?_; clear hE a; intro a hE
    refine s_conv hE rfl (cnv_int Tryd.underlying5 Tryd.underlying102 (wrap_u32_ofNat _)) rfl ?_; clear hE a; intro a hE
    refine s_bin hE rfl rfl (bin_mul32 (y := 65536)) rfl ?_; clear hE a; intro a hE
    refine s_bin hE rfl rfl bin_add32 rfl ?_; clear hE a; intro a hE
    refine s_move hE rfl rfl ?_; clear hE a; intro a hE
    refine s_move hE rfl rfl ?_; clear hE a; intro a hE
    refine s_bin hE rfl rfl (bin_mul (wrap_i64 (by omega) (by omega))) rfl ?_; clear hE a; intro a hE
    refine s_bin hE rfl rfl (bin_add (wrap_i64 (by omega) (by omega))) rfl ?_; clear hE a; intro a hE
    refine s_indexRd (j := (4 * i + 2)) hE rfl (hM.get 1 rfl) rfl slt82 (by first | rfl | omega) (by first | omega | (simp; omega) | decide) rfl ?_; clear hE a; intro a p33 hE hc33 hp33
    rw [bv_elem (by omega)] at hc33
    refine s_loadAt1 hE rfl hc33 one5 (by intro X h; cases h; simp) rfl ?_; clear hE a; intro a hE
    refine s_conv hE rfl (cnv_int Tryd.underlying5 Tryd.underlying102 (wrap_u32_ofNat _)) rfl ?_; clear hE a; intro a hE
    refine s_bin hE rfl rfl (bin_mul32 (y := 256)) rfl ?_; clear hE a; intro a hE
    refine s_bin hE rfl rfl bin_add32 rfl ?_; clear hE a; intro a hE
    refine s_move hE rfl rfl ?_; clear hE a; intro a hE
    refine s_move hE rfl rfl ?_; clear hE a; intro a hE
    refine s_bin hE rfl rfl (bin_mul (wrap_i64 (by omega) (by omega))) rfl ?_; clear hE a; intro a hE
    refine s_bin hE rfl rfl (bin_add (wrap_i64 (by omega) (by omega))) rfl ?_; clear hE a; intro a hE
    refine s_indexRd (j := (4 * i + 3)) hE rfl (hM.get 1 rfl) rfl slt82 (by first | rfl | omega) (by first | omega | (simp; omega) | decide) rfl ?_; clear hE a; intro a p42 hE hc42 hp42
    rw [bv_elem (by omega)] at hc42
    refine s_loadAt1 hE rfl hc42 one5 (by intro X h; cases h; simp) rfl ?_; clear hE a; intro a hE
    refine s_conv hE rfl (cnv_int Tryd.underlying5 Tryd.underlying102 (wrap_u32_ofNat _)) rfl ?_; clear hE a; intro a hE
    refine s_bin hE rfl rfl bin_add32 rfl ?_; clear hE a; intro a hE
    refine s_assign hE rfl rfl ?_; clear hE a; intro a hE
    replace hE := hE.cast 5 rfl (show _ = wV (wordW bs (msgW bs i) i) from congrArg wV (by rw [msg_low hb10, take4 (by omega), be4_eq]))
    refine q_nil ?_
    replace hE : Env a 113 [(0, _), (3, _), (4, _), (5, _), (10, _)] := hE.sel [0, 3, 4, 5, 10] rfl
    refine hK8 _ _ ?_
    refine wp_plain [true, true, false, false, true] rfl rfl ?_
    refine s_move hE rfl rfl ?_; clear hE a; intro a hE
    refine s_move hE rfl rfl ?_; clear hE a; intro a hE
    refine s_buildSlice (xs := [.tmp 47]) (wd [wordW bs (msgW bs i) i]) hE hM sl110 rfl rfl rfl (by intro v hv; simp at hv; subst hv; rfl) rfl rfl rfl rfl ?_; clear hE a; intro a v48 w3 hE hM'
    clear hM; have hM := hM'; clear hM'
    replace hM : Mem _ _ w3 [_, _, _] := hM.pick [1, 0, 2] rfl
    obtain ⟨cy, hy⟩ := own_rd (hM.get 1 rfl)
    refine s_append hE rfl rfl hM sl110 (Src.rd Tryd.underlying110 hy (wd_one _)) (len47 (by simp; omega)) (by simp; omega) (by intro X h; cases h) rfl ?_; clear hE a hy; intro a v49 w4 hE hM'
    clear hM; have hM := hM'; clear hM'
    replace hM : Mem _ _ w4 [_, _] := hM.pick [0, 2] rfl
    replace hM := hM.ownEq (m' := (msgW bs (i + 1)).length) (cs' := wd (msgW bs (i + 1))) (by simp) (by rw [msgW, wd_append])
    refine s_assign hE rfl rfl ?_; clear hE a; intro a hE
    refine q_nil ?_
    replace hE : Env a 113 [(0, _), (3, _), (4, _), (5, _), (10, _)] := hE.sel [0, 3, 4, 5, 10] rfl
    refine q_block_n ?_
    refine hK7 _ _ ?_
    refine wp_plain [true, true, true] rfl rfl ?_
    refine s_move hE rfl rfl ?_; clear hE a; intro a hE
    refine s_bin hE rfl rfl (bin_add (wrap_i64 (by omega) (by omega))) rfl ?_; clear hE a; intro a hE
    refine s_assign hE rfl rfl ?_; clear hE a; intro a hE
    refine q_nil ?_
    replace hE : Env a 113 [(0, _), (3, _), (4, _), (5, _), (10, _)] := hE.sel [0, 3, 4, 5, 10] rfl
    replace hE := hE.cast 4 rfl (show _ = Value.int .i64 ((i + 1 : Nat) : Int) from congrArg _ (by omega))
    exact ⟨i + 1, ⟨by omega, by omega, _, hE.sel [0, 3, 4] rfl, hM⟩, by omega⟩
  · replace hE := hE'; clear hE'
    replace hb10 := of_decide_eq_false hb10
    replace hb10 : ¬ (i < 16) := by omega
    obtain rfl : i = 16 := by omega
    refine wp_cond_false (hE.eval rfl) ?_
    refine wp_exit ?_
    refine q_then_e ?_
    refine q_then_e ?_
    refine q_block_x ?_
    refine hK3 _ _ ?_
    refine wp_seq_k (fun K7 hK7 => ?_)
    refine wp_seq_k (fun K8 hK8 => ?_)
    refine wp_plain [true] rfl rfl ?_
    refine s_assign hE rfl rfl ?_; clear hE a; intro a hE
    refine q_nil ?_
    refine hK8 _ _ ?_
    refine wp_block ?_
    refine c_loop (fun (i : Nat) a w' => 16 ≤ i ∧ i ≤ 64 ∧ ∃ vm, Env a 113 [(0, v), (3, vm), (6, .int .i64 (i : Int))] ∧ Mem w [] w' [own vm 1 (msgW bs i).length (wd (msgW bs i)), rd v 1 bs.length c (bv bs)]) (fun i => 64 - i) 16 ⟨Nat.le_refl _, by omega, _, hE.sel [0, 3, 6] rfl, hM⟩ ?_
    clear hE hM a; rintro i a w2 ⟨hi0, hi, vm, hE, hM⟩
    refine wp_seq_k (fun K9 hK9 => ?_)
    refine wp_seq_k (fun K10 hK10 => ?_)
    refine wp_plain [true, true] rfl rfl ?_
    refine s_move hE rfl rfl ?_; clear hE a; intro a hE
    refine s_bin hE rfl rfl bin_lss rfl ?_; clear hE a; intro a hE
    refine q_nil ?_
    replace hE : Env a 113 [(0, _), (3, _), (6, _), (51, _)] := hE.sel [0, 3, 6, 51] rfl
    refine hK10 _ _ ?_
    refine hE.split 51 rfl (fun hb51 hE' => ?_) (fun hb51 hE' => ?_)
    · replace hE := hE'; clear hE'
      replace hb51 := of_decide_eq_true hb51
      replace hb51 : i < 64 := by omega
      refine wp_cond_true (hE.eval rfl) ?_
      refine wp_skip ?_
      refine hK9 _ _ ?_
      refine wp_seq_k (fun K11 hK11 => ?_)
      refine wp_block ?_
      refine wp_seq_k (fun K12 hK12 => ?_)
      refine wp_drawnM hM (by kernel_rfl) (fun _ => False) [(0, true), (1, true), (2, true), (3, true), (4, true), (6, true), (7, true), (8, true), (9, true), (10, true), (13, true), (14, true), (15, true), (16, true), (17, true), (5, false), (11, false), (12, true), (18, false), (19, true), (20, true)] [(5, [(11, 5), (12, 5), (18, 11), (19, 18), (20, 5)]), (11, [(12, 11), (18, 11), (19, 18), (20, 11)]), (18, [(19, 18), (20, 18)])] (by kernel_rfl) rfl ?_
      intro w3 hM' hww3; clear hM; have hM := hM'; clear hM'
      refine s_move hE rfl rfl ?_; clear hE a; intro a hE
      refine s_move hE rfl rfl ?_; clear hE a; intro a hE
      refine s_bin hE rfl rfl (bin_sub (wrap_i64 (by omega) (by omega))) rfl ?_; clear hE a; intro a hE
      obtain ⟨cx57, hx57⟩ := own_rd (hM.get 0 rfl)
      refine s_indexRd (j := (i - 15)) hE rfl hx57 rfl slt110 (by first | rfl | omega) (by first | omega | (simp; omega) | decide) rfl ?_; clear hE a; intro a p57 hE hc57 hp57
      rw [wd_elem (by simp; omega)] at hc57
      refine s_loadAt1 hE rfl hc57 one102 (by intro X h; cases h; simp) rfl ?_; clear hE a; intro a hE
      refine s_move hE rfl rfl ?_; clear hE a; intro a hE
      refine s_move hE rfl rfl ?_; clear hE a; intro a hE
      refine s_bin hE rfl rfl (bin_sub (wrap_i64 (by omega) (by omega))) rfl ?_; clear hE a; intro a hE
      obtain ⟨cx63, hx63⟩ := own_rd (hM.get 0 rfl)
      refine s_indexRd (j := (i - 15)) hE rfl hx63 rfl slt110 (by first | rfl | omega) (by first | omega | (simp; omega) | decide) rfl ?_; clear hE a; intro a p63 hE hc63 hp63
      rw [wd_elem (by simp; omega)] at hc63
      refine s_loadAt1 hE rfl hc63 one102 (by intro X h; cases h; simp) rfl ?_; clear hE a; intro a hE
      refine s_move hE rfl rfl ?_; clear hE a; intro a hE
      refine s_move hE rfl rfl ?_; clear hE a; intro a hE
      refine s_bin hE rfl rfl (bin_sub (wrap_i64 (by omega) (by omega))) rfl ?_; clear hE a; intro a hE
      obtain ⟨cx70, hx70⟩ := own_rd (hM.get 0 rfl)
      refine s_indexRd (j := (i - 15)) hE rfl hx70 rfl slt110 (by first | rfl | omega) (by first | omega | (simp; omega) | decide) rfl ?_; clear hE a; intro a p70 hE hc70 hp70
      rw [wd_elem (by simp; omega)] at hc70
      refine s_loadAt1 hE rfl hc70 one102 (by intro X h; cases h; simp) rfl ?_; clear hE a; intro a hE
      refine s_call hE rfl Tryd.call68 (rrot_c _ 7 _ (by decide) (by decide)) rfl ?_
      rintro e w4 ⟨rfl, hN⟩
      refine ⟨_, rfl, hN.sta0 _, ?_⟩; clear hE a; intro a hE
      replace hM : Mem _ _ w4 [_, _] := hM.call0 hN trivial; clear hN
      refine s_call hE rfl Tryd.call68 (rrot_c _ 18 _ (by decide) (by decide)) rfl ?_
      rintro e w5 ⟨rfl, hN⟩
      refine ⟨_, rfl, hN.sta0 _, ?_⟩; clear hE a; intro a hE
      replace hM : Mem _ _ w5 [_, _] := hM.call0 hN trivial; clear hN
      refine s_bin hE rfl rfl bin_xor32 rfl ?_; clear hE a; intro a hE
      refine s_call hE rfl Tryd.call73 (rcut_c _ 3 _ (by decide)) rfl ?_
      rintro e w6 ⟨rfl, hN⟩
      refine ⟨_, rfl, hN.sta0 _, ?_⟩; clear hE a; intro a hE
      replace hM : Mem _ _ w6 [_, _] := hM.call0 hN trivial; clear hN
      refine s_bin hE rfl rfl bin_xor32 rfl ?_; clear hE a; intro a hE
      refine s_assign hE rfl rfl ?_; clear hE a; intro a hE
      refine q_nil ?_
      replace hE : Env a 113 [(0, _), (3, _), (6, _), (7, _), (51, _)] := hE.sel [0, 3, 6, 7, 51] rfl
      refine hK12 _ _ ?_
      refine wp_seq_k (fun K13 hK13 => ?_)
      refine wp_drawnM hM (by kernel_rfl) (fun _ => False) [(0, true), (1, true), (2, true), (3, true), (4, true), (6, true), (7, true), (8, true), (9, true), (10, true), (13, true), (14, true), (15, true), (16, true), (17, true), (5, false), (11, false), (12, true), (18, false), (19, true), (20, true)] [(5, [(11, 5), (12, 5), (18, 11), (19, 18), (20, 5)]), (11, [(12, 11), (18, 11), (19, 18), (20, 11)]), (18, [(19, 18), (20, 18)])] (by kernel_rfl) rfl ?_
      intro w7 hM' hww7; clear hM; have hM := hM'; clear hM'
      refine s_move hE rfl rfl ?_; clear hE a; intro a hE
      refine s_move hE rfl rfl ?_; clear hE a; intro a hE
      refine s_bin hE rfl rfl (bin_sub (wrap_i64 (by omega) (by omega))) rfl ?_; clear hE a; intro a hE
      obtain ⟨cx77, hx77⟩ := own_rd (hM.get 0 rfl)
      refine s_indexRd (j := (i - 2)) hE rfl hx77 rfl slt110 (by first | rfl | omega) (by first | omega | (simp; omega) | decide) rfl ?_; clear hE a; intro a p77 hE hc77 hp77
      rw [wd_elem (by simp; omega)] at hc77
      refine s_loadAt1 hE rfl hc77 one102 (by intro X h; cases h; simp) rfl ?_; clear hE a; intro a hE
      refine s_move hE rfl rfl ?_; clear hE a; intro a hE
      refine s_move hE rfl rfl ?_; clear hE a; intro a hE
      refine s_bin hE rfl rfl (bin_sub (wrap_i64 (by omega) (by omega))) rfl ?_; clear hE a; intro a hE
      obtain ⟨cx83, hx83⟩ := own_rd (hM.get 0 rfl)
      refine s_indexRd (j := (i - 2)) hE rfl hx83 rfl slt110 (by first | rfl | omega) (by first | omega | (simp; omega) | decide) rfl ?_; clear hE a; intro a p83 hE hc83 hp83
      rw [wd_elem (by simp; omega)] at hc83
      refine s_loadAt1 hE rfl hc83 one102 (by intro X h; cases h; simp) rfl ?_; clear hE a; intro a hE
      refine s_move hE rfl rfl ?_; clear hE a; intro a hE
      refine s_move hE rfl rfl ?_; clear hE a; intro a hE
      refine s_bin hE rfl rfl (bin_sub (wrap_i64 (by omega) (by omega))) rfl ?_; clear hE a; intro a hE
      obtain ⟨cx90, hx90⟩ := own_rd (hM.get 0 rfl)
      refine s_indexRd (j := (i - 2)) hE rfl hx90 rfl slt110 (by first | rfl | omega) (by first | omega | (simp; omega) | decide) rfl ?_; clear hE a; intro a p90 hE hc90 hp90
      rw [wd_elem (by simp; omega)] at hc90
      refine s_loadAt1 hE rfl hc90 one102 (by intro X h; cases h; simp) rfl ?_; clear hE a; intro a hE
      refine s_call hE rfl Tryd.call68 (rrot_c _ 17 _ (by decide) (by decide)) rfl ?_
      rintro e w8 ⟨rfl, hN⟩
      refine ⟨_, rfl, hN.sta0 _, ?_⟩; clear hE a; intro a hE
      replace hM : Mem _ _ w8 [_, _] := hM.call0 hN trivial; clear hN
      refine s_call hE rfl Tryd.call68 (rrot_c _ 19 _ (by decide) (by decide)) rfl ?_
      rintro e w9 ⟨rfl, hN⟩
      refine ⟨_, rfl, hN.sta0 _, ?_⟩; clear hE a; intro a hE
      replace hM : Mem _ _ w9 [_, _] := hM.call0 hN trivial; clear hN
      refine s_bin hE rfl rfl bin_xor32 rfl ?_; clear hE a; intro a hE
      refine s_call hE rfl Tryd.call73 (rcut_c _ 10 _ (by decide)) rfl ?_
      rintro e w10 ⟨rfl, hN⟩
      refine ⟨_, rfl, hN.sta0 _, ?_⟩; clear hE a; intro a hE
      replace hM : Mem _ _ w10 [_, _] := hM.call0 hN trivial; clear hN
      refine s_bin hE rfl rfl bin_xor32 rfl ?_; clear hE a; intro a hE
      refine s_assign hE rfl rfl ?_; clear hE a; intro a hE
      refine q_nil ?_
      replace hE : Env a 113 [(0, _), (3, _), (6, _), (7, _), (8, _), (51, _)] := hE.sel [0, 3, 6, 7, 8, 51] rfl
      refine hK13 _ _ ?_
      refine wp_drawnM2 hM (by kernel_rfl) (fun _ => False) (fun _ => True) [(0, true), (1, true), (2, true), (3, true), (4, true), (5, true), (6, true), (7, true), (8, true), (9, true), (10, true), (11, true), (12, true), (13, true), (14, true), (15, true), (16, false)] [(17, false), (18, true)] [(16, [(17, 16), (18, 16)]), (17, [(18, 17)]), (3, [(4, 3), (5, 4), (7, 5), (13, 7), (15, 13), (16, 15), (17, 16), (18, 3)]), (4, [(5, 4), (7, 5), (13, 7), (15, 13), (16, 15), (17, 16), (18, 4)]), (5, [(7, 5), (13, 7), (15, 13), (16, 15), (17, 16), (18, 5)]), (7, [(13, 7), (15, 13), (16, 15), (17, 16), (18, 7)]), (10, [(11, 10), (12, 11), (13, 12), (15, 13), (16, 15), (17, 16), (18, 10)]), (11, [(12, 11), (13, 12), (15, 13), (16, 15), (17, 16), (18, 11)]), (12, [(13, 12), (15, 13), (16, 15), (17, 16), (18, 12)]), (13, [(15, 13), (16, 15), (17, 16), (18, 13)]), (15, [(16, 15), (17, 16), (18, 15)])] (by kernel_rfl) (by kernel_rfl) rfl rfl ?_
      intro w11 hM' hww11; clear hM; have hM := hM'; clear hM'
      refine s_move hE rfl rfl ?_; clear hE a; intro a hE
      refine s_move hE rfl rfl ?_; clear hE a; intro a hE
      refine s_move hE rfl rfl ?_; clear hE a; intro a hE
      refine s_bin hE rfl rfl (bin_sub (wrap_i64 (by omega) (by omega))) rfl ?_; clear hE a; intro a hE
      obtain ⟨cx98, hx98⟩ := own_rd (hM.get 0 rfl)
      refine s_indexRd (j := (i - 16)) hE rfl hx98 rfl slt110 (by first | rfl | omega) (by first | omega | (simp; omega) | decide) rfl ?_; clear hE a; intro a p98 hE hc98 hp98
      rw [wd_elem (by simp; omega)] at hc98
      refine s_loadAt1 hE rfl hc98 one102 (by intro X h; cases h; simp) rfl ?_; clear hE a; intro a hE
      refine s_move hE rfl rfl ?_; clear hE a; intro a hE
      refine s_bin hE rfl rfl bin_add32 rfl ?_; clear hE a; intro a hE
      refine s_move hE rfl rfl ?_; clear hE a; intro a hE
      refine s_move hE rfl rfl ?_; clear hE a; intro a hE
      refine s_bin hE rfl rfl (bin_sub (wrap_i64 (by omega) (by omega))) rfl ?_; clear hE a; intro a hE
      obtain ⟨cx105, hx105⟩ := own_rd (hM.get 0 rfl)
      refine s_indexRd (j := (i - 7)) hE rfl hx105 rfl slt110 (by first | rfl | omega) (by first | omega | (simp; omega) | decide) rfl ?_; clear hE a; intro a p105 hE hc105 hp105
      rw [wd_elem (by simp; omega)] at hc105
      refine s_loadAt1 hE rfl hc105 one102 (by intro X h; cases h; simp) rfl ?_; clear hE a; intro a hE
      refine s_bin hE rfl rfl bin_add32 rfl ?_; clear hE a; intro a hE
      refine s_move hE rfl rfl ?_; clear hE a; intro a hE
      refine s_bin hE rfl rfl bin_add32 rfl ?_; clear hE a; intro a hE
      replace hE := hE.cast 109 rfl (show _ = wV (wordW bs (msgW bs i) i) from congrArg wV (by rw [wordW, if_neg (by omega)]; rfl))
      refine s_buildSlice (xs := [.tmp 109]) (wd [wordW bs (msgW bs i) i]) hE hM sl110 rfl rfl rfl (by intro v hv; simp at hv; subst hv; rfl) rfl rfl rfl rfl ?_; clear hE a; intro a v110 w12 hE hM'
      clear hM; have hM := hM'; clear hM'
      refine q_nil (q_ph ?_)
      replace hM : Mem _ _ w12 [_, _, _] := hM.pick [1, 0, 2] rfl
      obtain ⟨cy, hy⟩ := own_rd (hM.get 1 rfl)
      refine s_append hE rfl rfl hM sl110 (Src.rd Tryd.underlying110 hy (wd_one _)) (len47 (by simp; omega)) (by simp; omega) (by intro X h; cases h; first | (simp; done) | simp [valBlocks]) rfl ?_; clear hE a hy; intro a v111 w13 hE hM'
      clear hM; have hM := hM'; clear hM'
      replace hM : Mem _ _ w13 [_, _] := hM.pick [0, 2] rfl
      replace hM := hM.ownEq (m' := (msgW bs (i + 1)).length) (cs' := wd (msgW bs (i + 1))) (by simp) (by rw [msgW, wd_append])
      refine s_assign hE rfl rfl ?_; clear hE a; intro a hE
      refine q_nil ?_
      replace hE : Env a 113 [(0, _), (3, _), (6, _), (7, _), (8, _), (51, _)] := hE.sel [0, 3, 6, 7, 8, 51] rfl
      refine q_block_n ?_
      refine hK11 _ _ ?_
      refine wp_plain [true, true, true] rfl rfl ?_
      refine s_move hE rfl rfl ?_; clear hE a; intro a hE
      refine s_bin hE rfl rfl (bin_add (wrap_i64 (by omega) (by omega))) rfl ?_; clear hE a; intro a hE
      refine s_assign hE rfl rfl ?_; clear hE a; intro a hE
      refine q_nil ?_
      replace hE : Env a 113 [(0, _), (3, _), (6, _), (7, _), (8, _), (51, _)] := hE.sel [0, 3, 6, 7, 8, 51] rfl
      replace hE := hE.cast 6 rfl (show _ = Value.int .i64 ((i + 1 : Nat) : Int) from congrArg _ (by omega))
      exact ⟨i + 1, ⟨by omega, by omega, _, hE.sel [0, 3, 6] rfl, hM⟩, by omega⟩
    · replace hE := hE'; clear hE'
      replace hb51 := of_decide_eq_false hb51
      replace hb51 : ¬ (i < 64) := by omega
      obtain rfl : i = 64 := by omega
      refine wp_cond_false (hE.eval rfl) ?_
      refine wp_exit ?_
      refine q_then_e ?_
      refine q_then_e ?_
      refine q_block_x ?_
      refine hK7 _ _ ?_
      refine wp_seq_k (fun K11 hK11 => ?_)
      refine wp_plain [true, true] rfl rfl ?_
      refine s_move hE rfl rfl ?_; clear hE a; intro a hE
      refine s_assign hE rfl rfl ?_; clear hE a; intro a hE
      refine q_nil ?_
      replace hE : Env a 113 [(0, _), (2, _), (3, _), (6, _), (51, _)] := hE.sel [0, 2, 3, 6, 51] rfl
      refine hK11 _ _ ?_
      refine wp_ret ?_
      refine f_ret1 hE rfl rfl ?_
      exact ⟨_, rfl, hM.pick [0] rfl⟩
theorem rpass_c (vn vb vs : Value) (was : List UInt32) (bs : List UInt8) (cn cb cs : Nat) (w : World) (hn : (rd vn 1 8 cn (wd was)).holds w) (hr : (rd vb 1 bs.length cb (bv bs)).holds w) (hs : (rd vs 1 64 cs (wd saltsW)).holds w) (hb : bs.length = 64) : Calls Tryd.prog 60 #[vn, vb, vs] w fun e w' => ∃ v', e = .returned v' ∧ Mem w [] w' [own v' 1 8 (wd (passW was bs))] := by
  have hM : Mem w [] w [rd vn 1 8 cn (wd was), rd vb 1 bs.length cb (bv bs), rd vs 1 64 cs (wd saltsW)] := Mem.startR w (fun g hg => by
    simp only [List.mem_cons, List.not_mem_nil, or_false] at hg
    rcases hg with rfl | rfl | rfl
    · exact ⟨hn, rfl⟩
    · exact ⟨hr, rfl⟩
    · exact ⟨hs, rfl⟩)
  have hw8 : was.length = 8 := by have := hn.1; simpa using this
  refine f_enter 125 Tryd.func60 rfl rfl rfl ?_
  intro a hE
  replace hE : Env a 125 [(0, _), (1, _), (2, _)] := hE
  refine wp_seq_k (fun K1 hK1 => ?_)
  refine wp_plain [true] rfl rfl ?_
  refine s_assign hE rfl rfl ?_; clear hE a; intro a hE
  refine q_nil ?_
  refine hK1 _ _ ?_
  refine wp_seq_k (fun K2 hK2 => ?_)
  refine wp_plain [true, false, true] rfl rfl ?_
  refine s_move hE rfl rfl ?_; clear hE a; intro a hE
  refine s_call hE rfl Tryd.call67 (rmsg_c vb bs cb _ (hM.get 1 rfl) hb) rfl ?_
  rintro e w1 ⟨v16, rfl, hN⟩
  refine ⟨_, rfl, trivial, ?_⟩; clear hE a; intro a hE
  replace hM : Mem _ _ w1 [_, _, _, _] := hM.call0 hN ⟨rfl, trivial⟩; clear hN
  refine s_assign hE rfl rfl ?_; clear hE a; intro a hE
  refine q_nil ?_
  replace hE : Env a 125 [(0, _), (2, _), (6, _), (7, _)] := hE.sel [0, 2, 6, 7] rfl
  refine hK2 _ _ ?_
  refine wp_seq_k (fun K3 hK3 => ?_)
  refine wp_plain [true, true] rfl rfl ?_
  refine s_move hE rfl rfl ?_; clear hE a; intro a hE
  refine s_assign hE rfl rfl ?_; clear hE a; intro a hE
  refine q_nil ?_
  replace hE : Env a 125 [(0, _), (2, _), (6, _), (7, _), (8, _)] := hE.sel [0, 2, 6, 7, 8] rfl
  refine hK3 _ _ ?_
  refine wp_seq_k (fun K4 hK4 => ?_)
  refine wp_seq_k (fun K5 hK5 => ?_)
  refine wp_plain [true] rfl rfl ?_
  refine s_assign hE rfl rfl ?_; clear hE a; intro a hE
  refine q_nil ?_
  refine hK5 _ _ ?_
  refine wp_block ?_
  replace hM := hM.addPart 1 rfl (hM.get 1 rfl) (fun x hx => hx)
  replace hM : Mem _ _ w1 [_, _, _, _, _] := hM.pick [0, 1, 2, 4, 3] rfl
  refine c_loop (fun (i : Nat) a w' => i ≤ 64 ∧ ∃ vn' c', Env a 125 [(0, vn), (2, vs), (7, v16), (8, vn'), (9, .int .i64 (i : Int))] ∧ Mem w [] w' [rd vn' 1 8 c' (wd (refW (runW (msgW bs 64) i was) i)), own v16 1 (msgW bs 64).length (wd (msgW bs 64)), rd vn 1 8 cn (wd was), rd vs 1 64 cs (wd saltsW), rd vb 1 bs.length cb (bv bs)]) (fun i => 64 - i) 0 ⟨Nat.zero_le _, _, _, hE.sel [0, 2, 7, 8, 9] rfl, by simpa [runW, ref_start hw8] using hM⟩ ?_
  clear hE hM a; rintro i a w2 ⟨hi, vn', c', hE, hM⟩
  refine wp_seq_k (fun K6 hK6 => ?_)
  refine wp_seq_k (fun K7 hK7 => ?_)
  refine wp_plain [true, true] rfl rfl ?_
  refine s_move hE rfl rfl ?_; clear hE a; intro a hE
  refine s_bin hE rfl rfl bin_lss rfl ?_; clear hE a; intro a hE
  refine q_nil ?_
  replace hE : Env a 125 [(0, _), (2, _), (7, _), (8, _), (9, _), (19, _)] := hE.sel [0, 2, 7, 8, 9, 19] rfl
  refine hK7 _ _ ?_
  refine hE.split 19 rfl (fun hb19 hE' => ?_) (fun hb19 hE' => ?_)
  · replace hE := hE'; clear hE'
    replace hb19 := of_decide_eq_true hb19
    replace hb19 : i < 64 := by omega
    refine wp_cond_true (hE.eval rfl) ?_
    refine wp_skip ?_
    refine hK6 _ _ ?_
    refine wp_seq_k (fun K8 hK8 => ?_)
    refine wp_block ?_
    refine wp_seq_k (fun K9 hK9 => ?_)
    refine wp_plain [true, true, true, true] rfl rfl ?_
    refine s_move hE rfl rfl ?_; clear hE a; intro a hE
    refine s_indexRd (j := 4) hE rfl (hM.get 0 rfl) rfl slt110 (by first | rfl | omega) (by first | omega | (simp; omega) | decide) rfl ?_; clear hE a; intro a p23 hE hc23 hp23
    rw [wd_elem (show _ < 8 by decide)] at hc23
    refine s_loadAt1 hE rfl hc23 one102 (by intro X h; cases h) rfl ?_; clear hE a; intro a hE
    refine s_assign hE rfl rfl ?_; clear hE a; intro a hE
    refine q_nil ?_
    replace hE : Env a 125 [(0, _), (2, _), (7, _), (8, _), (9, _), (10, _), (19, _)] := hE.sel [0, 2, 7, 8, 9, 10, 19] rfl
    refine hK9 _ _ ?_
    refine wp_seq_k (fun K10 hK10 => ?_)
    refine wp_drawnM hM (by kernel_rfl) (fun _ => False) [(0, true), (1, true), (2, true), (3, true), (5, true), (8, true), (12, true), (13, true), (14, true), (15, true), (16, true), (17, true), (18, true), (21, true), (22, true), (23, true), (24, true), (26, true), (27, true), (28, true), (29, true), (4, false), (6, false), (7, true), (9, false), (10, true), (11, true), (19, false), (20, true), (25, true), (30, true), (31, true)] [(4, [(6, 4), (7, 4), (9, 6), (10, 9), (11, 10), (19, 9), (20, 19), (25, 20), (30, 25), (31, 4)]), (6, [(7, 6), (9, 6), (10, 9), (11, 10), (19, 9), (20, 19), (25, 20), (30, 25), (31, 6)]), (9, [(10, 9), (11, 10), (19, 9), (20, 19), (25, 20), (30, 25), (31, 9)]), (19, [(20, 19), (25, 20), (30, 25), (31, 19)])] (by kernel_rfl) rfl ?_
    intro w3 hM' hww3; clear hM; have hM := hM'; clear hM'
    refine s_move hE rfl rfl ?_; clear hE a; intro a hE
    refine s_indexRd (j := 7) hE rfl (hM.get 0 rfl) rfl slt110 (by first | rfl | omega) (by first | omega | (simp; omega) | decide) rfl ?_; clear hE a; intro a p26 hE hc26 hp26
    rw [wd_elem (show _ < 8 by decide)] at hc26
    refine s_loadAt1 hE rfl hc26 one102 (by intro X h; cases h; simp) rfl ?_; clear hE a; intro a hE
    refine s_move hE rfl rfl ?_; clear hE a; intro a hE
    refine s_move hE rfl rfl ?_; clear hE a; intro a hE
    refine s_move hE rfl rfl ?_; clear hE a; intro a hE
    refine s_move hE rfl rfl ?_; clear hE a; intro a hE
    refine s_move hE rfl rfl ?_; clear hE a; intro a hE
    refine s_indexRd (j := 5) hE rfl (hM.get 0 rfl) rfl slt110 (by first | rfl | omega) (by first | omega | (simp; omega) | decide) rfl ?_; clear hE a; intro a p39 hE hc39 hp39
    rw [wd_elem (show _ < 8 by decide)] at hc39
    refine s_loadAt1 hE rfl hc39 one102 (by intro X h; cases h; simp) rfl ?_; clear hE a; intro a hE
    refine s_move hE rfl rfl ?_; clear hE a; intro a hE
    refine s_indexRd (j := 6) hE rfl (hM.get 0 rfl) rfl slt110 (by first | rfl | omega) (by first | omega | (simp; omega) | decide) rfl ?_; clear hE a; intro a p42 hE hc42 hp42
    rw [wd_elem (show _ < 8 by decide)] at hc42
    refine s_loadAt1 hE rfl hc42 one102 (by intro X h; cases h; simp) rfl ?_; clear hE a; intro a hE
    refine s_move hE rfl rfl ?_; clear hE a; intro a hE
    refine s_move hE rfl rfl ?_; clear hE a; intro a hE
    refine s_indexRd (j := i) hE rfl (hM.get 3 rfl) rfl slt110 (by first | rfl | omega) (by first | omega | (simp; omega) | decide) rfl ?_; clear hE a; intro a p48 hE hc48 hp48
    rw [wd_elem (show i < saltsW.length from hb19)] at hc48
    refine s_loadAt1 hE rfl hc48 one102 (by intro X h; cases h; simp) rfl ?_; clear hE a; intro a hE
    refine s_move hE rfl rfl ?_; clear hE a; intro a hE
    refine s_move hE rfl rfl ?_; clear hE a; intro a hE
    obtain ⟨cx53, hx53⟩ := own_rd (hM.get 1 rfl)
    refine s_indexRd (j := i) hE rfl hx53 rfl slt110 (by first | rfl | omega) (by first | omega | (simp; omega) | decide) rfl ?_; clear hE a; intro a p53 hE hc53 hp53
    rw [wd_elem (by rw [msgW_length]; exact hb19)] at hc53
    refine s_loadAt1 hE rfl hc53 one102 (by intro X h; cases h; simp) rfl ?_; clear hE a; intro a hE
    refine s_call hE rfl Tryd.call68 (rrot_c _ 6 _ (by decide) (by decide)) rfl ?_
    rintro e w4 ⟨rfl, hN⟩
    refine ⟨_, rfl, hN.sta0 _, ?_⟩; clear hE a; intro a hE
    replace hM : Mem _ _ w4 [_, _, _, _, _] := hM.call0 hN trivial; clear hN
    refine s_call hE rfl Tryd.call68 (rrot_c _ 11 _ (by decide) (by decide)) rfl ?_
    rintro e w5 ⟨rfl, hN⟩
    refine ⟨_, rfl, hN.sta0 _, ?_⟩; clear hE a; intro a hE
    replace hM : Mem _ _ w5 [_, _, _, _, _] := hM.call0 hN trivial; clear hN
    refine s_bin hE rfl rfl bin_xor32 rfl ?_; clear hE a; intro a hE
    refine s_call hE rfl Tryd.call68 (rrot_c _ 25 _ (by decide) (by decide)) rfl ?_
    rintro e w6 ⟨rfl, hN⟩
    refine ⟨_, rfl, hN.sta0 _, ?_⟩; clear hE a; intro a hE
    replace hM : Mem _ _ w6 [_, _, _, _, _] := hM.call0 hN trivial; clear hN
    refine s_bin hE rfl rfl bin_xor32 rfl ?_; clear hE a; intro a hE
    refine s_bin hE rfl rfl bin_add32 rfl ?_; clear hE a; intro a hE
    refine s_call hE rfl Tryd.call69 (rch_c _ _ _ _) rfl ?_
    rintro e w7 ⟨rfl, hN⟩
    refine ⟨_, rfl, hN.sta0 _, ?_⟩; clear hE a; intro a hE
    replace hM : Mem _ _ w7 [_, _, _, _, _] := hM.call0 hN trivial; clear hN
    refine s_bin hE rfl rfl bin_add32 rfl ?_; clear hE a; intro a hE
    refine s_bin hE rfl rfl bin_add32 rfl ?_; clear hE a; intro a hE
    refine s_bin hE rfl rfl bin_add32 rfl ?_; clear hE a; intro a hE
    refine s_assign hE rfl rfl ?_; clear hE a; intro a hE
    refine q_nil ?_
    replace hE : Env a 125 [(0, _), (2, _), (7, _), (8, _), (9, _), (10, _), (11, _), (19, _)] := hE.sel [0, 2, 7, 8, 9, 10, 11, 19] rfl
    refine hK10 _ _ ?_
    refine wp_seq_k (fun K11 hK11 => ?_)
    refine wp_drawnM hM (by kernel_rfl) (fun _ => False) [(0, true), (1, true), (2, true), (4, true), (5, true), (6, true), (9, true), (10, true), (11, true), (14, true), (15, true), (16, true), (17, true), (18, true), (19, true), (20, true), (21, true), (22, true), (3, false), (7, false), (8, true), (12, false), (13, true), (23, false), (24, true), (25, true)] [(3, [(7, 3), (8, 3), (12, 7), (13, 8), (23, 12), (24, 13), (25, 3)]), (7, [(8, 7), (12, 7), (13, 8), (23, 12), (24, 13), (25, 7)]), (12, [(13, 12), (23, 12), (24, 13), (25, 12)]), (23, [(24, 23), (25, 23)])] (by kernel_rfl) rfl ?_
    intro w8 hM' hww8; clear hM; have hM := hM'; clear hM'
    refine s_move hE rfl rfl ?_; clear hE a; intro a hE
    refine s_indexRd (j := 0) hE rfl (hM.get 0 rfl) rfl slt110 (by first | rfl | omega) (by first | omega | (simp; omega) | decide) rfl ?_; clear hE a; intro a p57 hE hc57 hp57
    rw [wd_elem (show _ < 8 by decide)] at hc57
    refine s_loadAt1 hE rfl hc57 one102 (by intro X h; cases h; simp) rfl ?_; clear hE a; intro a hE
    refine s_move hE rfl rfl ?_; clear hE a; intro a hE
    refine s_indexRd (j := 0) hE rfl (hM.get 0 rfl) rfl slt110 (by first | rfl | omega) (by first | omega | (simp; omega) | decide) rfl ?_; clear hE a; intro a p61 hE hc61 hp61
    rw [wd_elem (show _ < 8 by decide)] at hc61
    refine s_loadAt1 hE rfl hc61 one102 (by intro X h; cases h; simp) rfl ?_; clear hE a; intro a hE
    refine s_move hE rfl rfl ?_; clear hE a; intro a hE
    refine s_indexRd (j := 0) hE rfl (hM.get 0 rfl) rfl slt110 (by first | rfl | omega) (by first | omega | (simp; omega) | decide) rfl ?_; clear hE a; intro a p66 hE hc66 hp66
    rw [wd_elem (show _ < 8 by decide)] at hc66
    refine s_loadAt1 hE rfl hc66 one102 (by intro X h; cases h; simp) rfl ?_; clear hE a; intro a hE
    refine s_move hE rfl rfl ?_; clear hE a; intro a hE
    refine s_indexRd (j := 0) hE rfl (hM.get 0 rfl) rfl slt110 (by first | rfl | omega) (by first | omega | (simp; omega) | decide) rfl ?_; clear hE a; intro a p71 hE hc71 hp71
    rw [wd_elem (show _ < 8 by decide)] at hc71
    refine s_loadAt1 hE rfl hc71 one102 (by intro X h; cases h; simp) rfl ?_; clear hE a; intro a hE
    refine s_move hE rfl rfl ?_; clear hE a; intro a hE
    refine s_indexRd (j := 1) hE rfl (hM.get 0 rfl) rfl slt110 (by first | rfl | omega) (by first | omega | (simp; omega) | decide) rfl ?_; clear hE a; intro a p74 hE hc74 hp74
    rw [wd_elem (show _ < 8 by decide)] at hc74
    refine s_loadAt1 hE rfl hc74 one102 (by intro X h; cases h; simp) rfl ?_; clear hE a; intro a hE
    refine s_move hE rfl rfl ?_; clear hE a; intro a hE
    refine s_indexRd (j := 2) hE rfl (hM.get 0 rfl) rfl slt110 (by first | rfl | omega) (by first | omega | (simp; omega) | decide) rfl ?_; clear hE a; intro a p77 hE hc77 hp77
    rw [wd_elem (show _ < 8 by decide)] at hc77
    refine s_loadAt1 hE rfl hc77 one102 (by intro X h; cases h; simp) rfl ?_; clear hE a; intro a hE
    refine s_call hE rfl Tryd.call68 (rrot_c _ 2 _ (by decide) (by decide)) rfl ?_
    rintro e w9 ⟨rfl, hN⟩
    refine ⟨_, rfl, hN.sta0 _, ?_⟩; clear hE a; intro a hE
    replace hM : Mem _ _ w9 [_, _, _, _, _] := hM.call0 hN trivial; clear hN
    refine s_call hE rfl Tryd.call68 (rrot_c _ 13 _ (by decide) (by decide)) rfl ?_
    rintro e w10 ⟨rfl, hN⟩
    refine ⟨_, rfl, hN.sta0 _, ?_⟩; clear hE a; intro a hE
    replace hM : Mem _ _ w10 [_, _, _, _, _] := hM.call0 hN trivial; clear hN
    refine s_bin hE rfl rfl bin_xor32 rfl ?_; clear hE a; intro a hE
    refine s_call hE rfl Tryd.call68 (rrot_c _ 22 _ (by decide) (by decide)) rfl ?_
    rintro e w11 ⟨rfl, hN⟩
    refine ⟨_, rfl, hN.sta0 _, ?_⟩; clear hE a; intro a hE
    replace hM : Mem _ _ w11 [_, _, _, _, _] := hM.call0 hN trivial; clear hN
    refine s_bin hE rfl rfl bin_xor32 rfl ?_; clear hE a; intro a hE
    refine s_call hE rfl Tryd.call70 (rmaj_c _ _ _ _) rfl ?_
    rintro e w12 ⟨rfl, hN⟩
    refine ⟨_, rfl, hN.sta0 _, ?_⟩; clear hE a; intro a hE
    replace hM : Mem _ _ w12 [_, _, _, _, _] := hM.call0 hN trivial; clear hN
    refine s_bin hE rfl rfl bin_add32 rfl ?_; clear hE a; intro a hE
    refine s_assign hE rfl rfl ?_; clear hE a; intro a hE
    refine q_nil ?_
    replace hE : Env a 125 [(0, _), (2, _), (7, _), (8, _), (9, _), (10, _), (11, _), (12, _), (19, _)] := hE.sel [0, 2, 7, 8, 9, 10, 11, 12, 19] rfl
    refine hK11 _ _ ?_
    refine wp_drawnM hM (by kernel_rfl) (fun _ => False) [(0, true), (1, true), (2, true), (3, true), (4, true), (5, true), (6, true), (7, true), (8, true), (9, true), (10, true), (11, true), (12, true), (13, true), (14, true), (15, true), (16, true), (17, true), (18, true), (19, true), (20, true), (21, true), (22, true), (23, true), (24, true), (25, true), (26, false), (27, true)] [(26, [(27, 26)])] (by kernel_rfl) rfl ?_
    intro w13 hM' hww13; clear hM; have hM := hM'; clear hM'
    refine s_move hE rfl rfl ?_; clear hE a; intro a hE
    refine s_move hE rfl rfl ?_; clear hE a; intro a hE
    refine s_bin hE rfl rfl bin_add32 rfl ?_; clear hE a; intro a hE
    refine s_move hE rfl rfl ?_; clear hE a; intro a hE
    refine s_indexRd (j := 0) hE rfl (hM.get 0 rfl) rfl slt110 (by first | rfl | omega) (by first | omega | (simp; omega) | decide) rfl ?_; clear hE a; intro a p85 hE hc85 hp85
    rw [wd_elem (show _ < 8 by decide)] at hc85
    refine s_loadAt1 hE rfl hc85 one102 (by intro X h; cases h; simp) rfl ?_; clear hE a; intro a hE
    refine s_move hE rfl rfl ?_; clear hE a; intro a hE
    refine s_indexRd (j := 1) hE rfl (hM.get 0 rfl) rfl slt110 (by first | rfl | omega) (by first | omega | (simp; omega) | decide) rfl ?_; clear hE a; intro a p88 hE hc88 hp88
    rw [wd_elem (show _ < 8 by decide)] at hc88
    refine s_loadAt1 hE rfl hc88 one102 (by intro X h; cases h; simp) rfl ?_; clear hE a; intro a hE
    refine s_move hE rfl rfl ?_; clear hE a; intro a hE
    refine s_indexRd (j := 2) hE rfl (hM.get 0 rfl) rfl slt110 (by first | rfl | omega) (by first | omega | (simp; omega) | decide) rfl ?_; clear hE a; intro a p91 hE hc91 hp91
    rw [wd_elem (show _ < 8 by decide)] at hc91
    refine s_loadAt1 hE rfl hc91 one102 (by intro X h; cases h; simp) rfl ?_; clear hE a; intro a hE
    refine s_move hE rfl rfl ?_; clear hE a; intro a hE
    refine s_indexRd (j := 3) hE rfl (hM.get 0 rfl) rfl slt110 (by first | rfl | omega) (by first | omega | (simp; omega) | decide) rfl ?_; clear hE a; intro a p94 hE hc94 hp94
    rw [wd_elem (show _ < 8 by decide)] at hc94
    refine s_loadAt1 hE rfl hc94 one102 (by intro X h; cases h; simp) rfl ?_; clear hE a; intro a hE
    refine s_move hE rfl rfl ?_; clear hE a; intro a hE
    refine s_bin hE rfl rfl bin_add32 rfl ?_; clear hE a; intro a hE
    refine s_move hE rfl rfl ?_; clear hE a; intro a hE
    refine s_indexRd (j := 4) hE rfl (hM.get 0 rfl) rfl slt110 (by first | rfl | omega) (by first | omega | (simp; omega) | decide) rfl ?_; clear hE a; intro a p99 hE hc99 hp99
    rw [wd_elem (show _ < 8 by decide)] at hc99
    refine s_loadAt1 hE rfl hc99 one102 (by intro X h; cases h; simp) rfl ?_; clear hE a; intro a hE
    refine s_move hE rfl rfl ?_; clear hE a; intro a hE
    refine s_indexRd (j := 5) hE rfl (hM.get 0 rfl) rfl slt110 (by first | rfl | omega) (by first | omega | (simp; omega) | decide) rfl ?_; clear hE a; intro a p102 hE hc102 hp102
    rw [wd_elem (show _ < 8 by decide)] at hc102
    refine s_loadAt1 hE rfl hc102 one102 (by intro X h; cases h; simp) rfl ?_; clear hE a; intro a hE
    refine s_move hE rfl rfl ?_; clear hE a; intro a hE
    refine s_indexRd (j := 6) hE rfl (hM.get 0 rfl) rfl slt110 (by first | rfl | omega) (by first | omega | (simp; omega) | decide) rfl ?_; clear hE a; intro a p105 hE hc105 hp105
    rw [wd_elem (show _ < 8 by decide)] at hc105
    refine s_loadAt1 hE rfl hc105 one102 (by intro X h; cases h; simp) rfl ?_; clear hE a; intro a hE
    refine s_buildSlice (xs := [.tmp 83, .tmp 86, .tmp 89, .tmp 92, .tmp 97, .tmp 100, .tmp 103, .tmp 106]) (wd (refW (runW (msgW bs 64) (i + 1) was) (i + 1))) hE hM sl110 rfl rfl rfl (by intro v hv; simp only [List.mem_cons, List.not_mem_nil, or_false] at hv; rcases hv with rfl | rfl | rfl | rfl | rfl | rfl | rfl | rfl <;> rfl) (by rw [runW, ref_step hb19 (by simp [hw8])]; rfl) rfl rfl rfl ?_; clear hE a; intro a v107 w14 hE hM'
    clear hM; have hM := hM'; clear hM'
    obtain ⟨cn, hM'⟩ := hM.freeze
    clear hM; have hM := hM'; clear hM'
    refine s_assign hE rfl rfl ?_; clear hE a; intro a hE
    refine q_nil ?_
    replace hE : Env a 125 [(0, _), (2, _), (7, _), (8, _), (9, _), (10, _), (11, _), (12, _), (19, _)] := hE.sel [0, 2, 7, 8, 9, 10, 11, 12, 19] rfl
    refine q_block_n ?_
    refine hK8 _ _ ?_
    refine wp_plain [true, true, true] rfl rfl ?_
    refine s_move hE rfl rfl ?_; clear hE a; intro a hE
    refine s_bin hE rfl rfl (bin_add (wrap_i64 (by omega) (by omega))) rfl ?_; clear hE a; intro a hE
    refine s_assign hE rfl rfl ?_; clear hE a; intro a hE
    refine q_nil ?_
    replace hE : Env a 125 [(0, _), (2, _), (7, _), (8, _), (9, _), (10, _), (11, _), (12, _), (19, _)] := hE.sel [0, 2, 7, 8, 9, 10, 11, 12, 19] rfl
    replace hE := hE.cast 9 rfl (show _ = Value.int .i64 ((i + 1 : Nat) : Int) from congrArg _ (by omega))
    replace hM : Mem _ _ w14 [_, _, _, _, _, _] := hM.pick [0, 2, 3, 4, 5, 1] rfl
    replace hM : Mem _ _ w14 [_, _, _, _, _] := hM.pick [0, 1, 2, 3, 4] rfl
    exact ⟨i + 1, ⟨by omega, _, _, hE.sel [0, 2, 7, 8, 9] rfl, hM⟩, by omega⟩
  · replace hE := hE'; clear hE'
    replace hb19 := of_decide_eq_false hb19
    replace hb19 : ¬ (i < 64) := by omega
    obtain rfl : i = 64 := by omega
    rw [ref_end (by simp [hw8])] at hM
    refine wp_cond_false (hE.eval rfl) ?_
    refine wp_exit ?_
    refine q_then_e ?_
    refine q_then_e ?_
    refine q_block_x ?_
    refine hK4 _ _ ?_
    refine wp_seq_k (fun K8 hK8 => ?_)
    refine wp_plain [true] rfl rfl ?_
    refine s_assign hE rfl rfl ?_; clear hE a; intro a hE
    replace hM := hM.addNil 1
    refine q_nil ?_
    refine hK8 _ _ ?_
    refine wp_seq_k (fun K9 hK9 => ?_)
    refine wp_seq_k (fun K10 hK10 => ?_)
    refine wp_plain [true] rfl rfl ?_
    refine s_assign hE rfl rfl ?_; clear hE a; intro a hE
    refine q_nil ?_
    refine hK10 _ _ ?_
    refine wp_block ?_
    replace hM : Mem _ _ w2 [_, _, _, _, _, _] := hM.pick [0, 1, 3, 2, 4, 5] rfl
    replace hM : Mem _ _ w2 [_, _, _] := hM.pick [0, 1, 2] rfl
    refine c_loop (fun (k : Nat) a w' => k ≤ 8 ∧ ∃ vo, Env a 125 [(0, vn), (8, vn'), (13, vo), (14, .int .i64 (k : Int))] ∧ Mem w [] w' [own vo 1 (sumT was (runW (msgW bs 64) 64 was) k).length (wd (sumT was (runW (msgW bs 64) 64 was) k)), rd vn' 1 8 c' (wd (runW (msgW bs 64) 64 was)), rd vn 1 8 cn (wd was)]) (fun k => 8 - k) 0 ⟨Nat.zero_le _, _, hE.sel [0, 8, 13, 14] rfl, hM⟩ ?_
    clear hE hM a; rintro k a w3 ⟨hk, vo, hE, hM⟩
    refine wp_seq_k (fun K11 hK11 => ?_)
    refine wp_seq_k (fun K12 hK12 => ?_)
    refine wp_plain [true, true] rfl rfl ?_
    refine s_move hE rfl rfl ?_; clear hE a; intro a hE
    refine s_bin hE rfl rfl bin_lss rfl ?_; clear hE a; intro a hE
    refine q_nil ?_
    replace hE : Env a 125 [(0, _), (8, _), (13, _), (14, _), (109, _)] := hE.sel [0, 8, 13, 14, 109] rfl
    refine hK12 _ _ ?_
    refine hE.split 109 rfl (fun hb109 hE' => ?_) (fun hb109 hE' => ?_)
    · replace hE := hE'; clear hE'
      replace hb109 := of_decide_eq_true hb109
      replace hb109 : k < 8 := by omega
      refine wp_cond_true (hE.eval rfl) ?_
      refine wp_skip ?_
      refine hK11 _ _ ?_
      refine wp_seq_k (fun K13 hK13 => ?_)
      refine wp_block ?_
      refine wp_drawnM2 hM (by kernel_rfl) (fun _ => False) (fun _ => True) [(0, true), (1, true), (2, true), (3, true), (4, true), (5, true), (6, true), (7, true), (8, true), (9, true), (10, false)] [(11, false), (12, true)] [(10, [(11, 10), (12, 10)]), (11, [(12, 11)]), (3, [(4, 3), (9, 4), (10, 9), (11, 10), (12, 3)]), (4, [(9, 4), (10, 9), (11, 10), (12, 4)]), (7, [(8, 7), (9, 8), (10, 9), (11, 10), (12, 7)]), (8, [(9, 8), (10, 9), (11, 10), (12, 8)]), (9, [(10, 9), (11, 10), (12, 9)])] (by kernel_rfl) (by kernel_rfl) rfl rfl ?_
      intro w4 hM' hww4; clear hM; have hM := hM'; clear hM'
      refine s_move hE rfl rfl ?_; clear hE a; intro a hE
      refine s_move hE rfl rfl ?_; clear hE a; intro a hE
      refine s_move hE rfl rfl ?_; clear hE a; intro a hE
      refine s_indexRd (j := k) hE rfl (hM.get 1 rfl) rfl slt110 (by first | rfl | omega) (by first | omega | (simp; omega) | decide) rfl ?_; clear hE a; intro a p115 hE hc115 hp115
      rw [wd_elem (by rw [runW_length, hw8]; exact hb109)] at hc115
      refine s_loadAt1 hE rfl hc115 one102 (by intro X h; cases h; simp) rfl ?_; clear hE a; intro a hE
      refine s_move hE rfl rfl ?_; clear hE a; intro a hE
      refine s_move hE rfl rfl ?_; clear hE a; intro a hE
      refine s_indexRd (j := k) hE rfl (hM.get 2 rfl) rfl slt110 (by first | rfl | omega) (by first | omega | (simp; omega) | decide) rfl ?_; clear hE a; intro a p119 hE hc119 hp119
      rw [wd_elem (by rw [hw8]; exact hb109)] at hc119
      refine s_loadAt1 hE rfl hc119 one102 (by intro X h; cases h; simp) rfl ?_; clear hE a; intro a hE
      refine s_bin hE rfl rfl bin_add32 rfl ?_; clear hE a; intro a hE
      refine s_buildSlice (xs := [.tmp 121]) (wd [(runW (msgW bs 64) 64 was).getD k 0 + was.getD k 0]) hE hM sl110 rfl rfl rfl (by intro v hv; simp at hv; subst hv; rfl) rfl rfl rfl rfl ?_; clear hE a; intro a v122 w5 hE hM'
      clear hM; have hM := hM'; clear hM'
      refine q_nil (q_ph ?_)
      replace hM : Mem _ _ w5 [_, _, _, _] := hM.pick [1, 0, 2, 3] rfl
      obtain ⟨cy, hy⟩ := own_rd (hM.get 1 rfl)
      refine s_append hE rfl rfl hM sl110 (Src.rd Tryd.underlying110 hy (wd_one _)) (len47 (by simp; omega)) (by simp; omega) (by intro X h; cases h; first | (simp; done) | simp [valBlocks]) rfl ?_; clear hE a hy; intro a v123 w6 hE hM'
      clear hM; have hM := hM'; clear hM'
      replace hM : Mem _ _ w6 [_, _, _] := hM.pick [0, 2, 3] rfl
      replace hM := hM.ownEq (m' := (sumT was (runW (msgW bs 64) 64 was) (k + 1)).length) (cs' := wd (sumT was (runW (msgW bs 64) 64 was) (k + 1))) (by simp) (by rw [sumT, wd_append])
      refine s_assign hE rfl rfl ?_; clear hE a; intro a hE
      refine q_nil ?_
      replace hE : Env a 125 [(0, _), (8, _), (13, _), (14, _), (109, _)] := hE.sel [0, 8, 13, 14, 109] rfl
      refine q_block_n ?_
      refine hK13 _ _ ?_
      refine wp_plain [true, true, true] rfl rfl ?_
      refine s_move hE rfl rfl ?_; clear hE a; intro a hE
      refine s_bin hE rfl rfl (bin_add (wrap_i64 (by omega) (by omega))) rfl ?_; clear hE a; intro a hE
      refine s_assign hE rfl rfl ?_; clear hE a; intro a hE
      refine q_nil ?_
      replace hE : Env a 125 [(0, _), (8, _), (13, _), (14, _), (109, _)] := hE.sel [0, 8, 13, 14, 109] rfl
      replace hE := hE.cast 14 rfl (show _ = Value.int .i64 ((k + 1 : Nat) : Int) from congrArg _ (by omega))
      exact ⟨k + 1, ⟨by omega, _, hE.sel [0, 8, 13, 14] rfl, hM⟩, by omega⟩
    · replace hE := hE'; clear hE'
      replace hb109 := of_decide_eq_false hb109
      replace hb109 : ¬ (k < 8) := by omega
      obtain rfl : k = 8 := by omega
      refine wp_cond_false (hE.eval rfl) ?_
      refine wp_exit ?_
      refine q_then_e ?_
      refine q_then_e ?_
      refine q_block_x ?_
      refine hK9 _ _ ?_
      refine wp_seq_k (fun K13 hK13 => ?_)
      refine wp_plain [true, true] rfl rfl ?_
      refine s_move hE rfl rfl ?_; clear hE a; intro a hE
      refine s_assign hE rfl rfl ?_; clear hE a; intro a hE
      refine q_nil ?_
      replace hE : Env a 125 [(0, _), (6, _), (8, _), (13, _), (14, _), (109, _)] := hE.sel [0, 6, 8, 13, 14, 109] rfl
      refine hK13 _ _ ?_
      refine wp_ret ?_
      refine f_ret1 hE rfl rfl ?_
      refine ⟨_, rfl, ?_⟩
      replace hM := (hM.pick [0] rfl).ownEq (m' := 8) (cs' := wd (passW was bs)) (by simp) (by rw [sumT_all (by simp [hw8]), passW])
      exact hM
theorem rtail_c (n : Nat) (w : World) (hn : n ≤ 1099511627776) : Calls Tryd.prog 58 #[.int .i64 (n : Int)] w fun e w' => ∃ v', e = .returned v' ∧ Mem w [] w' [own v' 1 (tailW n).length (bv (tailW n))] := by
  have hM := Mem.start0 w
  have hz : zerosW n < 64 := Nat.mod_lt _ (by decide)
  refine f_enter 35 Tryd.func58 rfl rfl rfl ?_
  intro a hE
  replace hE : Env a 35 [(0, _)] := hE
  refine wp_seq_k (fun K1 hK1 => ?_)
  refine wp_plain [true] rfl rfl ?_
  refine s_assign hE rfl rfl ?_; clear hE a; intro a hE
  refine q_nil ?_
  refine hK1 _ _ ?_
  refine wp_seq_k (fun K2 hK2 => ?_)
  refine wp_plain [true, true, true, true, true] rfl rfl ?_
  refine s_move hE rfl rfl ?_; clear hE a; intro a hE
  refine s_bin hE rfl rfl (show Bin _ _ _ _ _ (.int .i64 ((n + 9 : Nat) : Int)) from bin_add (by rw [wrap_i64 (by omega) (by omega)]; omega)) rfl ?_; clear hE a; intro a hE
  refine s_bin hE rfl rfl (bin_rem_nat (s := 64) (by decide)) rfl ?_; clear hE a; intro a hE
  refine s_bin hE rfl rfl (show Bin _ _ _ _ _ (.int .i64 ((64 - (n + 9) % 64 : Nat) : Int)) from bin_sub (by rw [wrap_i64 (by omega) (by omega)]; omega)) rfl ?_; clear hE a; intro a hE
  refine s_assign hE rfl rfl ?_; clear hE a; intro a hE
  refine q_nil ?_
  replace hE : Env a 35 [(0, _), (2, _), (3, _)] := hE.sel [0, 2, 3] rfl
  refine hK2 _ _ ?_
  refine wp_seq_k (fun K3 hK3 => ?_)
  refine wp_seq_k (fun K4 hK4 => ?_)
  refine wp_plain [true, true] rfl rfl ?_
  refine s_move hE rfl rfl ?_; clear hE a; intro a hE
  refine s_bin hE rfl rfl bin_eql rfl ?_; clear hE a; intro a hE
  refine q_nil ?_
  replace hE : Env a 35 [(0, _), (2, _), (3, _), (13, _)] := hE.sel [0, 2, 3, 13] rfl
  refine hK4 _ _ ?_
  refine hE.split 13 rfl (fun hb13 hE' => ?_) (fun hb13 hE' => ?_)
  · replace hE := hE'; clear hE'
    replace hb13 : 64 - (n + 9) % 64 = 64 := by first | (have := of_decide_eq_true hb13; omega)
    refine wp_cond_true (hE.eval rfl) ?_
    refine wp_plain [true] rfl rfl ?_
    refine s_assign hE rfl rfl ?_; clear hE a; intro a hE
    replace hE := hE.cast 3 rfl (show _ = Value.int .i64 ((zerosW n : Nat) : Int) from congrArg _ (by have := zeros_eq n; rw [if_pos hb13] at this; omega))
    refine q_nil ?_
    refine hK3 _ _ ?_
    refine wp_seq_k (fun K5 hK5 => ?_)
    refine wp_plain [false, true, false, true] rfl rfl ?_
    refine s_buildSlice (xs := [.const (.int .u8 128)]) (bv [128]) hE hM sl82 rfl rfl rfl (by intro v hv; simp at hv; subst hv; rfl) rfl rfl rfl rfl ?_; clear hE a; intro a v14 w1 hE hM'
    clear hM; have hM := hM'; clear hM'
    refine s_move hE rfl rfl ?_; clear hE a; intro a hE
    refine s_appendZ (ts := 9) (m' := zerosW n) hE rfl rfl hM sl82 (by kernel_rfl) Tryd.underlying3 Tryd.underlying9 rfl (by omega) rfl ?_; clear hE a; intro a v16 w2 hE hM'; clear hM; have hM := hM'; clear hM'
    refine s_assign hE rfl rfl ?_; clear hE a; intro a hE
    refine q_nil ?_
    replace hE : Env a 35 [(0, _), (2, _), (3, _), (4, _), (13, _)] := hE.sel [0, 2, 3, 4, 13] rfl
    refine hK5 _ _ ?_
    refine wp_seq_k (fun K6 hK6 => ?_)
    refine wp_plain [true, true, true, true] rfl rfl ?_
    refine s_move hE rfl rfl ?_; clear hE a; intro a hE
    refine s_conv hE rfl (cnv_int Tryd.underlying3 Tryd.underlying94 (wrap_u64 (by omega) (by omega))) rfl ?_; clear hE a; intro a hE
    refine s_bin hE rfl rfl (show Bin _ _ _ _ _ (.int .u64 ((n * 8 : Nat) : Int)) from bin_mul (by rw [wrap_u64 (by omega) (by omega)]; omega)) rfl ?_; clear hE a; intro a hE
    refine s_assign hE rfl rfl ?_; clear hE a; intro a hE
    refine q_nil ?_
    replace hE : Env a 35 [(0, _), (2, _), (3, _), (4, _), (5, _), (13, _)] := hE.sel [0, 2, 3, 4, 5, 13] rfl
    refine hK6 _ _ ?_
    refine wp_seq_k (fun K7 hK7 => ?_)
    refine wp_plain [true] rfl rfl ?_
    refine s_assign hE rfl rfl ?_; clear hE a; intro a hE
    replace hM := hM.addNil 1
    refine q_nil ?_
    refine hK7 _ _ ?_
    refine wp_seq_k (fun K8 hK8 => ?_)
    refine wp_seq_k (fun K9 hK9 => ?_)
    refine wp_plain [true] rfl rfl ?_
    refine s_assign hE rfl rfl ?_; clear hE a; intro a hE
    refine q_nil ?_
    refine hK9 _ _ ?_
    refine wp_block ?_
    replace hE := hE.cast 5 rfl (show _ = Value.int .u64 ((n * 8 / 256 ^ 0 : Nat) : Int) from congrArg _ (by simp))
    refine c_loop (fun (j : Nat) a w' => j ≤ 8 ∧ ∃ vz, Env a 35 [(4, v16), (5, .int .u64 ((n * 8 / 256 ^ j : Nat) : Int)), (6, vz), (7, .int .i64 (j : Int))] ∧ Mem w [] w' [own vz 1 (laid j (n * 8)).length (bv (laid j (n * 8))), own v16 1 (1 + zerosW n) (bv ([128] ++ List.replicate (zerosW n) 0))]) (fun j => 8 - j) 0 ⟨Nat.zero_le _, _, hE.sel [4, 5, 6, 7] rfl, hM⟩ ?_
    clear hE hM a; rintro j a w3 ⟨hj, vz, hE, hM⟩
    refine wp_seq_k (fun K10 hK10 => ?_)
    refine wp_seq_k (fun K11 hK11 => ?_)
    refine wp_plain [true, true] rfl rfl ?_
    refine s_move hE rfl rfl ?_; clear hE a; intro a hE
    refine s_bin hE rfl rfl bin_lss rfl ?_; clear hE a; intro a hE
    refine q_nil ?_
    replace hE : Env a 35 [(4, _), (5, _), (6, _), (7, _), (21, _)] := hE.sel [4, 5, 6, 7, 21] rfl
    refine hK11 _ _ ?_
    refine hE.split 21 rfl (fun hb21 hE' => ?_) (fun hb21 hE' => ?_)
    · replace hE := hE'; clear hE'
      replace hb21 := of_decide_eq_true hb21
      replace hb21 : j < 8 := by omega
      refine wp_cond_true (hE.eval rfl) ?_
      refine wp_skip ?_
      refine hK10 _ _ ?_
      refine wp_seq_k (fun K12 hK12 => ?_)
      refine wp_block ?_
      refine wp_seq_k (fun K13 hK13 => ?_)
      refine wp_plain [true, true, true, false, true, false, true] rfl rfl ?_
      refine s_move hE rfl rfl ?_; clear hE a; intro a hE
      refine s_bin hE rfl rfl (bin_rem_nat (s := 256) (by decide)) rfl ?_; clear hE a; intro a hE
      refine s_conv hE rfl (cnv_int Tryd.underlying94 Tryd.underlying5 (wrap_u8_ofNat _)) rfl ?_; clear hE a; intro a hE
      refine s_buildSlice (xs := [.tmp 26]) (bv [UInt8.ofNat (n * 8 / 256 ^ j % 256)]) hE hM sl82 rfl rfl rfl (by intro v hv; simp at hv; subst hv; rfl) rfl rfl rfl rfl ?_; clear hE a; intro a v27 w4 hE hM'
      clear hM; have hM := hM'; clear hM'
      refine s_move hE rfl rfl ?_; clear hE a; intro a hE
      obtain ⟨cy, hy⟩ := own_rd (hM.get 1 rfl)
      refine s_append hE rfl rfl hM sl82 (Src.rd Tryd.underlying82 hy (bv_one _)) (len47 (by simp; omega)) (by simp; omega) (by intro X h; cases h) rfl ?_; clear hE a hy; intro a v29 w5 hE hM'
      clear hM; have hM := hM'; clear hM'
      replace hM : Mem _ _ w5 [_, _] := hM.pick [0, 2] rfl
      replace hM := hM.ownEq (m' := (laid (j + 1) (n * 8)).length) (cs' := bv (laid (j + 1) (n * 8))) (by simp; omega) (by rw [laid_cons, ← bv_append, ofNat_mod]; rfl)
      refine s_assign hE rfl rfl ?_; clear hE a; intro a hE
      refine q_nil ?_
      replace hE : Env a 35 [(4, _), (5, _), (6, _), (7, _), (21, _)] := hE.sel [4, 5, 6, 7, 21] rfl
      refine hK13 _ _ ?_
      refine wp_plain [true, true, true] rfl rfl ?_
      refine s_move hE rfl rfl ?_; clear hE a; intro a hE
      refine s_bin hE rfl rfl (bin_quo_nat (s := 256) (by decide) (wrap_u64 (Int.natCast_nonneg _) (by have h1 := Nat.div_le_self (n * 8) (256 ^ j); generalize n * 8 / 256 ^ j = q at h1 ⊢; omega))) rfl ?_; clear hE a; intro a hE
      refine s_assign hE rfl rfl ?_; clear hE a; intro a hE
      refine q_nil ?_
      replace hE : Env a 35 [(4, _), (5, _), (6, _), (7, _), (21, _)] := hE.sel [4, 5, 6, 7, 21] rfl
      refine q_block_n ?_
      refine hK12 _ _ ?_
      refine wp_plain [true, true, true] rfl rfl ?_
      refine s_move hE rfl rfl ?_; clear hE a; intro a hE
      refine s_bin hE rfl rfl (bin_add (wrap_i64 (by omega) (by omega))) rfl ?_; clear hE a; intro a hE
      refine s_assign hE rfl rfl ?_; clear hE a; intro a hE
      refine q_nil ?_
      replace hE : Env a 35 [(4, _), (5, _), (6, _), (7, _), (21, _)] := hE.sel [4, 5, 6, 7, 21] rfl
      replace hE := hE.cast 7 rfl (show _ = Value.int .i64 ((j + 1 : Nat) : Int) from congrArg _ (by omega))
      replace hE := hE.cast 5 rfl (show _ = Value.int .u64 ((n * 8 / 256 ^ (j + 1) : Nat) : Int) from congrArg _ (by rw [Nat.pow_succ, ← Nat.div_div_eq_div_mul]))
      exact ⟨j + 1, ⟨by omega, _, hE.sel [4, 5, 6, 7] rfl, hM⟩, by omega⟩
    · replace hE := hE'; clear hE'
      replace hb21 := of_decide_eq_false hb21
      replace hb21 : ¬ (j < 8) := by omega
      obtain rfl : j = 8 := by omega
      refine wp_cond_false (hE.eval rfl) ?_
      refine wp_exit ?_
      refine q_then_e ?_
      refine q_then_e ?_
      refine q_block_x ?_
      refine hK8 _ _ ?_
      refine wp_seq_k (fun K12 hK12 => ?_)
      refine wp_plain [true, true, false, true] rfl rfl ?_
      refine s_move hE rfl rfl ?_; clear hE a; intro a hE
      refine s_move hE rfl rfl ?_; clear hE a; intro a hE
      replace hM : Mem _ _ w3 [_, _] := hM.pick [1, 0] rfl
      obtain ⟨cy, hy⟩ := own_rd (hM.get 1 rfl)
      refine s_append hE rfl rfl hM sl82 (Src.rd Tryd.underlying82 hy (bv_one _)) (len47 (by simp; omega)) (by simp; omega) (by intro X h; cases h) rfl ?_; clear hE a hy; intro a v34 w4 hE hM'
      clear hM; have hM := hM'; clear hM'
      refine s_assign hE rfl rfl ?_; clear hE a; intro a hE
      refine q_nil ?_
      replace hE : Env a 35 [(2, _), (5, _), (6, _), (7, _), (21, _)] := hE.sel [2, 5, 6, 7, 21] rfl
      refine hK12 _ _ ?_
      refine wp_ret ?_
      refine f_ret1 hE rfl rfl ?_
      refine ⟨_, rfl, ?_⟩
      replace hM := (hM.pick [0] rfl).ownEq (m' := (tailW n).length) (cs' := bv (tailW n)) (by rw [tailW_len]; simp) (by rw [← bv_append]; rfl)
      exact hM
  · replace hE := hE'; clear hE'
    replace hb13 : ¬ 64 - (n + 9) % 64 = 64 := by first | (have := of_decide_eq_false hb13; omega)
    replace hE := hE.cast 3 rfl (show _ = Value.int .i64 ((zerosW n : Nat) : Int) from congrArg _ (by have := zeros_eq n; rw [if_neg hb13] at this; omega))
    refine wp_cond_false (hE.eval rfl) ?_
    refine wp_skip ?_
    refine hK3 _ _ ?_
    refine wp_seq_k (fun K5 hK5 => ?_)
    refine wp_plain [false, true, false, true] rfl rfl ?_
    refine s_buildSlice (xs := [.const (.int .u8 128)]) (bv [128]) hE hM sl82 rfl rfl rfl (by intro v hv; simp at hv; subst hv; rfl) rfl rfl rfl rfl ?_; clear hE a; intro a v14 w1 hE hM'
    clear hM; have hM := hM'; clear hM'
    refine s_move hE rfl rfl ?_; clear hE a; intro a hE
    refine s_appendZ (ts := 9) (m' := zerosW n) hE rfl rfl hM sl82 (by kernel_rfl) Tryd.underlying3 Tryd.underlying9 rfl (by omega) rfl ?_; clear hE a; intro a v16 w2 hE hM'; clear hM; have hM := hM'; clear hM'
    refine s_assign hE rfl rfl ?_; clear hE a; intro a hE
    refine q_nil ?_
    replace hE : Env a 35 [(0, _), (2, _), (3, _), (4, _), (13, _)] := hE.sel [0, 2, 3, 4, 13] rfl
    refine hK5 _ _ ?_
    refine wp_seq_k (fun K6 hK6 => ?_)
    refine wp_plain [true, true, true, true] rfl rfl ?_
    refine s_move hE rfl rfl ?_; clear hE a; intro a hE
    refine s_conv hE rfl (cnv_int Tryd.underlying3 Tryd.underlying94 (wrap_u64 (by omega) (by omega))) rfl ?_; clear hE a; intro a hE
    refine s_bin hE rfl rfl (show Bin _ _ _ _ _ (.int .u64 ((n * 8 : Nat) : Int)) from bin_mul (by rw [wrap_u64 (by omega) (by omega)]; omega)) rfl ?_; clear hE a; intro a hE
    refine s_assign hE rfl rfl ?_; clear hE a; intro a hE
    refine q_nil ?_
    replace hE : Env a 35 [(0, _), (2, _), (3, _), (4, _), (5, _), (13, _)] := hE.sel [0, 2, 3, 4, 5, 13] rfl
    refine hK6 _ _ ?_
    refine wp_seq_k (fun K7 hK7 => ?_)
    refine wp_plain [true] rfl rfl ?_
    refine s_assign hE rfl rfl ?_; clear hE a; intro a hE
    replace hM := hM.addNil 1
    refine q_nil ?_
    refine hK7 _ _ ?_
    refine wp_seq_k (fun K8 hK8 => ?_)
    refine wp_seq_k (fun K9 hK9 => ?_)
    refine wp_plain [true] rfl rfl ?_
    refine s_assign hE rfl rfl ?_; clear hE a; intro a hE
    refine q_nil ?_
    refine hK9 _ _ ?_
    refine wp_block ?_
    replace hE := hE.cast 5 rfl (show _ = Value.int .u64 ((n * 8 / 256 ^ 0 : Nat) : Int) from congrArg _ (by simp))
    refine c_loop (fun (j : Nat) a w' => j ≤ 8 ∧ ∃ vz, Env a 35 [(4, v16), (5, .int .u64 ((n * 8 / 256 ^ j : Nat) : Int)), (6, vz), (7, .int .i64 (j : Int))] ∧ Mem w [] w' [own vz 1 (laid j (n * 8)).length (bv (laid j (n * 8))), own v16 1 (1 + zerosW n) (bv ([128] ++ List.replicate (zerosW n) 0))]) (fun j => 8 - j) 0 ⟨Nat.zero_le _, _, hE.sel [4, 5, 6, 7] rfl, hM⟩ ?_
    clear hE hM a; rintro j a w3 ⟨hj, vz, hE, hM⟩
    refine wp_seq_k (fun K10 hK10 => ?_)
    refine wp_seq_k (fun K11 hK11 => ?_)
    refine wp_plain [true, true] rfl rfl ?_
    refine s_move hE rfl rfl ?_; clear hE a; intro a hE
    refine s_bin hE rfl rfl bin_lss rfl ?_; clear hE a; intro a hE
    refine q_nil ?_
    replace hE : Env a 35 [(4, _), (5, _), (6, _), (7, _), (21, _)] := hE.sel [4, 5, 6, 7, 21] rfl
    refine hK11 _ _ ?_
    refine hE.split 21 rfl (fun hb21 hE' => ?_) (fun hb21 hE' => ?_)
    · replace hE := hE'; clear hE'
      replace hb21 := of_decide_eq_true hb21
      replace hb21 : j < 8 := by omega
      refine wp_cond_true (hE.eval rfl) ?_
      refine wp_skip ?_
      refine hK10 _ _ ?_
      refine wp_seq_k (fun K12 hK12 => ?_)
      refine wp_block ?_
      refine wp_seq_k (fun K13 hK13 => ?_)
      refine wp_plain [true, true, true, false, true, false, true] rfl rfl ?_
      refine s_move hE rfl rfl ?_; clear hE a; intro a hE
      refine s_bin hE rfl rfl (bin_rem_nat (s := 256) (by decide)) rfl ?_; clear hE a; intro a hE
      refine s_conv hE rfl (cnv_int Tryd.underlying94 Tryd.underlying5 (wrap_u8_ofNat _)) rfl ?_; clear hE a; intro a hE
      refine s_buildSlice (xs := [.tmp 26]) (bv [UInt8.ofNat (n * 8 / 256 ^ j % 256)]) hE hM sl82 rfl rfl rfl (by intro v hv; simp at hv; subst hv; rfl) rfl rfl rfl rfl ?_; clear hE a; intro a v27 w4 hE hM'
      clear hM; have hM := hM'; clear hM'
      refine s_move hE rfl rfl ?_; clear hE a; intro a hE
      obtain ⟨cy, hy⟩ := own_rd (hM.get 1 rfl)
      refine s_append hE rfl rfl hM sl82 (Src.rd Tryd.underlying82 hy (bv_one _)) (len47 (by simp; omega)) (by simp; omega) (by intro X h; cases h) rfl ?_; clear hE a hy; intro a v29 w5 hE hM'
      clear hM; have hM := hM'; clear hM'
      replace hM : Mem _ _ w5 [_, _] := hM.pick [0, 2] rfl
      replace hM := hM.ownEq (m' := (laid (j + 1) (n * 8)).length) (cs' := bv (laid (j + 1) (n * 8))) (by simp; omega) (by rw [laid_cons, ← bv_append, ofNat_mod]; rfl)
      refine s_assign hE rfl rfl ?_; clear hE a; intro a hE
      refine q_nil ?_
      replace hE : Env a 35 [(4, _), (5, _), (6, _), (7, _), (21, _)] := hE.sel [4, 5, 6, 7, 21] rfl
      refine hK13 _ _ ?_
      refine wp_plain [true, true, true] rfl rfl ?_
      refine s_move hE rfl rfl ?_; clear hE a; intro a hE
      refine s_bin hE rfl rfl (bin_quo_nat (s := 256) (by decide) (wrap_u64 (Int.natCast_nonneg _) (by have h1 := Nat.div_le_self (n * 8) (256 ^ j); generalize n * 8 / 256 ^ j = q at h1 ⊢; omega))) rfl ?_; clear hE a; intro a hE
      refine s_assign hE rfl rfl ?_; clear hE a; intro a hE
      refine q_nil ?_
      replace hE : Env a 35 [(4, _), (5, _), (6, _), (7, _), (21, _)] := hE.sel [4, 5, 6, 7, 21] rfl
      refine q_block_n ?_
      refine hK12 _ _ ?_
      refine wp_plain [true, true, true] rfl rfl ?_
      refine s_move hE rfl rfl ?_; clear hE a; intro a hE
      refine s_bin hE rfl rfl (bin_add (wrap_i64 (by omega) (by omega))) rfl ?_; clear hE a; intro a hE
      refine s_assign hE rfl rfl ?_; clear hE a; intro a hE
      refine q_nil ?_
      replace hE : Env a 35 [(4, _), (5, _), (6, _), (7, _), (21, _)] := hE.sel [4, 5, 6, 7, 21] rfl
      replace hE := hE.cast 7 rfl (show _ = Value.int .i64 ((j + 1 : Nat) : Int) from congrArg _ (by omega))
      replace hE := hE.cast 5 rfl (show _ = Value.int .u64 ((n * 8 / 256 ^ (j + 1) : Nat) : Int) from congrArg _ (by rw [Nat.pow_succ, ← Nat.div_div_eq_div_mul]))
      exact ⟨j + 1, ⟨by omega, _, hE.sel [4, 5, 6, 7] rfl, hM⟩, by omega⟩
    · replace hE := hE'; clear hE'
      replace hb21 := of_decide_eq_false hb21
      replace hb21 : ¬ (j < 8) := by omega
      obtain rfl : j = 8 := by omega
      refine wp_cond_false (hE.eval rfl) ?_
      refine wp_exit ?_
      refine q_then_e ?_
      refine q_then_e ?_
      refine q_block_x ?_
      refine hK8 _ _ ?_
      refine wp_seq_k (fun K12 hK12 => ?_)
      refine wp_plain [true, true, false, true] rfl rfl ?_
      refine s_move hE rfl rfl ?_; clear hE a; intro a hE
      refine s_move hE rfl rfl ?_; clear hE a; intro a hE
      replace hM : Mem _ _ w3 [_, _] := hM.pick [1, 0] rfl
      obtain ⟨cy, hy⟩ := own_rd (hM.get 1 rfl)
      refine s_append hE rfl rfl hM sl82 (Src.rd Tryd.underlying82 hy (bv_one _)) (len47 (by simp; omega)) (by simp; omega) (by intro X h; cases h) rfl ?_; clear hE a hy; intro a v34 w4 hE hM'
      clear hM; have hM := hM'; clear hM'
      refine s_assign hE rfl rfl ?_; clear hE a; intro a hE
      refine q_nil ?_
      replace hE : Env a 35 [(2, _), (5, _), (6, _), (7, _), (21, _)] := hE.sel [2, 5, 6, 7, 21] rfl
      refine hK12 _ _ ?_
      refine wp_ret ?_
      refine f_ret1 hE rfl rfl ?_
      refine ⟨_, rfl, ?_⟩
      replace hM := (hM.pick [0] rfl).ownEq (m' := (tailW n).length) (cs' := bv (tailW n)) (by rw [tailW_len]; simp) (by rw [← bv_append]; rfl)
      exact hM
theorem rmul_c (x y : UInt64) (w : World) : Calls Tryd.prog 78 #[vV x, vV y] w fun e w' => e = .returned (.tuple #[vV (mulHi x y), vV (x * y)]) ∧ Mem w [] w' [] := by
  have hM := Mem.start0 w
  refine f_enter 51 Tryd.func78 rfl rfl rfl ?_
  intro a hE
  replace hE : Env a 51 [(0, _), (1, _)] := hE
  refine wp_seq_k (fun K1 hK1 => ?_)
  refine wp_plain [true, true] rfl rfl ?_
  refine s_assign hE rfl rfl ?_; clear hE a; intro a hE
  refine s_assign hE rfl rfl ?_; clear hE a; intro a hE
  refine q_nil ?_
  refine hK1 _ _ ?_
  refine wp_seq_k (fun K2 hK2 => ?_)
  refine wp_plain [true, true, true] rfl rfl ?_
  refine s_move hE rfl rfl ?_; clear hE a; intro a hE
  refine s_bin hE rfl rfl (bin_and64 (y := 4294967295)) rfl ?_; clear hE a; intro a hE
  refine s_assign hE rfl rfl ?_; clear hE a; intro a hE
  refine q_nil ?_
  replace hE : Env a 51 [(0, _), (1, _), (4, _), (5, _), (6, _)] := hE.sel [0, 1, 4, 5, 6] rfl
  refine hK2 _ _ ?_
  refine wp_seq_k (fun K3 hK3 => ?_)
  refine wp_plain [true, true, true] rfl rfl ?_
  refine s_move hE rfl rfl ?_; clear hE a; intro a hE
  refine s_bin hE rfl rfl (bin_shr64 (s := 32) rfl (by decide)) rfl ?_; clear hE a; intro a hE
  refine s_assign hE rfl rfl ?_; clear hE a; intro a hE
  refine q_nil ?_
  replace hE : Env a 51 [(0, _), (1, _), (4, _), (5, _), (6, _), (7, _)] := hE.sel [0, 1, 4, 5, 6, 7] rfl
  refine hK3 _ _ ?_
  refine wp_seq_k (fun K4 hK4 => ?_)
  refine wp_plain [true, true, true] rfl rfl ?_
  refine s_move hE rfl rfl ?_; clear hE a; intro a hE
  refine s_bin hE rfl rfl (bin_and64 (y := 4294967295)) rfl ?_; clear hE a; intro a hE
  refine s_assign hE rfl rfl ?_; clear hE a; intro a hE
  refine q_nil ?_
  replace hE : Env a 51 [(0, _), (1, _), (4, _), (5, _), (6, _), (7, _), (8, _)] := hE.sel [0, 1, 4, 5, 6, 7, 8] rfl
  refine hK4 _ _ ?_
  refine wp_seq_k (fun K5 hK5 => ?_)
  refine wp_plain [true, true, true] rfl rfl ?_
  refine s_move hE rfl rfl ?_; clear hE a; intro a hE
  refine s_bin hE rfl rfl (bin_shr64 (s := 32) rfl (by decide)) rfl ?_; clear hE a; intro a hE
  refine s_assign hE rfl rfl ?_; clear hE a; intro a hE
  refine q_nil ?_
  replace hE : Env a 51 [(0, _), (1, _), (4, _), (5, _), (6, _), (7, _), (8, _), (9, _)] := hE.sel [0, 1, 4, 5, 6, 7, 8, 9] rfl
  refine hK5 _ _ ?_
  refine wp_seq_k (fun K6 hK6 => ?_)
  refine wp_plain [true, true, true, true] rfl rfl ?_
  refine s_move hE rfl rfl ?_; clear hE a; intro a hE
  refine s_move hE rfl rfl ?_; clear hE a; intro a hE
  refine s_bin hE rfl rfl bin_mul64 rfl ?_; clear hE a; intro a hE
  refine s_assign hE rfl rfl ?_; clear hE a; intro a hE
  refine q_nil ?_
  replace hE : Env a 51 [(0, _), (1, _), (4, _), (5, _), (6, _), (7, _), (8, _), (9, _), (10, _)] := hE.sel [0, 1, 4, 5, 6, 7, 8, 9, 10] rfl
  refine hK6 _ _ ?_
  refine wp_seq_k (fun K7 hK7 => ?_)
  refine wp_plain [true, true, true, true, true, true, true] rfl rfl ?_
  refine s_move hE rfl rfl ?_; clear hE a; intro a hE
  refine s_move hE rfl rfl ?_; clear hE a; intro a hE
  refine s_bin hE rfl rfl bin_mul64 rfl ?_; clear hE a; intro a hE
  refine s_move hE rfl rfl ?_; clear hE a; intro a hE
  refine s_bin hE rfl rfl (bin_shr64 (s := 32) rfl (by decide)) rfl ?_; clear hE a; intro a hE
  refine s_bin hE rfl rfl bin_add64 rfl ?_; clear hE a; intro a hE
  refine s_assign hE rfl rfl ?_; clear hE a; intro a hE
  refine q_nil ?_
  replace hE : Env a 51 [(0, _), (1, _), (4, _), (5, _), (6, _), (7, _), (8, _), (9, _), (11, _)] := hE.sel [0, 1, 4, 5, 6, 7, 8, 9, 11] rfl
  refine hK7 _ _ ?_
  refine wp_seq_k (fun K8 hK8 => ?_)
  refine wp_plain [true, true, true] rfl rfl ?_
  refine s_move hE rfl rfl ?_; clear hE a; intro a hE
  refine s_bin hE rfl rfl (bin_and64 (y := 4294967295)) rfl ?_; clear hE a; intro a hE
  refine s_assign hE rfl rfl ?_; clear hE a; intro a hE
  refine q_nil ?_
  replace hE : Env a 51 [(0, _), (1, _), (4, _), (5, _), (6, _), (7, _), (8, _), (9, _), (11, _), (12, _)] := hE.sel [0, 1, 4, 5, 6, 7, 8, 9, 11, 12] rfl
  refine hK8 _ _ ?_
  refine wp_seq_k (fun K9 hK9 => ?_)
  refine wp_plain [true, true, true] rfl rfl ?_
  refine s_move hE rfl rfl ?_; clear hE a; intro a hE
  refine s_bin hE rfl rfl (bin_shr64 (s := 32) rfl (by decide)) rfl ?_; clear hE a; intro a hE
  refine s_assign hE rfl rfl ?_; clear hE a; intro a hE
  refine q_nil ?_
  replace hE : Env a 51 [(0, _), (1, _), (4, _), (5, _), (6, _), (7, _), (8, _), (9, _), (11, _), (12, _), (13, _)] := hE.sel [0, 1, 4, 5, 6, 7, 8, 9, 11, 12, 13] rfl
  refine hK9 _ _ ?_
  refine wp_seq_k (fun K10 hK10 => ?_)
  refine wp_plain [true, true, true, true, true, true] rfl rfl ?_
  refine s_move hE rfl rfl ?_; clear hE a; intro a hE
  refine s_move hE rfl rfl ?_; clear hE a; intro a hE
  refine s_move hE rfl rfl ?_; clear hE a; intro a hE
  refine s_bin hE rfl rfl bin_mul64 rfl ?_; clear hE a; intro a hE
  refine s_bin hE rfl rfl bin_add64 rfl ?_; clear hE a; intro a hE
  refine s_assign hE rfl rfl ?_; clear hE a; intro a hE
  refine q_nil ?_
  replace hE : Env a 51 [(0, _), (1, _), (4, _), (5, _), (6, _), (7, _), (8, _), (9, _), (11, _), (12, _), (13, _)] := hE.sel [0, 1, 4, 5, 6, 7, 8, 9, 11, 12, 13] rfl
  refine hK10 _ _ ?_
  refine wp_seq_k (fun K11 hK11 => ?_)
  refine wp_plain [true, true, true, true, true, true, true, true, true] rfl rfl ?_
  refine s_move hE rfl rfl ?_; clear hE a; intro a hE
  refine s_move hE rfl rfl ?_; clear hE a; intro a hE
  refine s_bin hE rfl rfl bin_mul64 rfl ?_; clear hE a; intro a hE
  refine s_move hE rfl rfl ?_; clear hE a; intro a hE
  refine s_bin hE rfl rfl bin_add64 rfl ?_; clear hE a; intro a hE
  refine s_move hE rfl rfl ?_; clear hE a; intro a hE
  refine s_bin hE rfl rfl (bin_shr64 (s := 32) rfl (by decide)) rfl ?_; clear hE a; intro a hE
  refine s_bin hE rfl rfl bin_add64 rfl ?_; clear hE a; intro a hE
  refine s_assign hE rfl rfl ?_; clear hE a; intro a hE
  refine q_nil ?_
  replace hE : Env a 51 [(0, _), (1, _), (4, _), (5, _), (6, _), (7, _), (8, _), (9, _), (11, _), (12, _)] := hE.sel [0, 1, 4, 5, 6, 7, 8, 9, 11, 12] rfl
  refine hK11 _ _ ?_
  refine wp_seq_k (fun K12 hK12 => ?_)
  refine wp_plain [true, true, true, true] rfl rfl ?_
  refine s_move hE rfl rfl ?_; clear hE a; intro a hE
  refine s_move hE rfl rfl ?_; clear hE a; intro a hE
  refine s_bin hE rfl rfl bin_mul64 rfl ?_; clear hE a; intro a hE
  refine s_assign hE rfl rfl ?_; clear hE a; intro a hE
  refine q_nil ?_
  replace hE : Env a 51 [(0, _), (1, _), (4, _), (5, _), (6, _), (7, _), (8, _), (9, _), (11, _), (12, _)] := hE.sel [0, 1, 4, 5, 6, 7, 8, 9, 11, 12] rfl
  refine hK12 _ _ ?_
  refine wp_ret ?_
  refine f_ret2 hE rfl rfl rfl ?_
  exact ⟨rfl, hM⟩
theorem rwithin_true (x p : UInt64) (w : World) : Calls Tryd.prog 72 #[vV x, vV p, .bool true] w fun e w' => e = .returned (.bool (withinB x p true)) ∧ Mem w [] w' [] := by
  have hM := Mem.start0 w
  refine f_enter 46 Tryd.func72 rfl rfl rfl ?_
  intro a hE
  replace hE : Env a 46 [(0, _), (1, _), (2, _)] := hE
  refine wp_seq_k (fun K1 hK1 => ?_)
  refine wp_plain [true] rfl rfl ?_
  refine s_assign hE rfl rfl ?_; clear hE a; intro a hE
  refine q_nil ?_
  refine hK1 _ _ ?_
  refine wp_seq_k (fun K2 hK2 => ?_)
  refine wp_plain [true, true, false, true, true, true, true, true] rfl rfl ?_
  refine s_move hE rfl rfl ?_; clear hE a; intro a hE
  refine s_move hE rfl rfl ?_; clear hE a; intro a hE
  refine s_call hE rfl Tryd.call78 (rmul_c _ _ _) rfl ?_
  rintro e w1 ⟨rfl, hN⟩
  refine ⟨_, rfl, trivial, ?_⟩; clear hE a; intro a hE
  replace hM : Mem _ _ w1 [] := hM.call0 hN trivial; clear hN
  refine s_move hE rfl rfl ?_; clear hE a; intro a hE
  refine s_extract hE rfl rfl rfl ?_; clear hE a; intro a hE
  refine s_extract hE rfl rfl rfl ?_; clear hE a; intro a hE
  refine s_assign hE rfl rfl ?_; clear hE a; intro a hE
  refine s_assign hE rfl rfl ?_; clear hE a; intro a hE
  refine q_nil ?_
  replace hE : Env a 46 [(0, _), (1, _), (2, _), (6, _), (7, _), (8, _)] := hE.sel [0, 1, 2, 6, 7, 8] rfl
  refine hK2 _ _ ?_
  refine wp_seq_k (fun K3 hK3 => ?_)
  refine wp_plain [true, true] rfl rfl ?_
  refine s_move hE rfl rfl ?_; clear hE a; intro a hE
  refine s_assign hE rfl rfl ?_; clear hE a; intro a hE
  refine q_nil ?_
  replace hE : Env a 46 [(0, _), (1, _), (2, _), (6, _), (7, _), (8, _), (9, _)] := hE.sel [0, 1, 2, 6, 7, 8, 9] rfl
  refine hK3 _ _ ?_
  refine wp_seq_k (fun K4 hK4 => ?_)
  refine wp_seq_k (fun K5 hK5 => ?_)
  refine wp_plain [true] rfl rfl ?_
  refine s_move hE rfl rfl ?_; clear hE a; intro a hE
  refine q_nil ?_
  replace hE : Env a 46 [(0, _), (1, _), (6, _), (7, _), (8, _), (9, _), (19, _)] := hE.sel [0, 1, 6, 7, 8, 9, 19] rfl
  refine hK5 _ _ ?_
  replace hE := hE.cast 19 rfl (show _ = Value.bool true from rfl)
  refine wp_cond_true (hE.eval rfl) ?_
  refine wp_seq_k (fun K6 hK6 => ?_)
  refine wp_plain [true, true, false, true, true, true, true, true] rfl rfl ?_
  refine s_move hE rfl rfl ?_; clear hE a; intro a hE
  refine s_move hE rfl rfl ?_; clear hE a; intro a hE
  refine s_call hE rfl Tryd.call78 (rmul_c _ _ _) rfl ?_
  rintro e w2 ⟨rfl, hN⟩
  refine ⟨_, rfl, trivial, ?_⟩; clear hE a; intro a hE
  replace hM : Mem _ _ w2 [] := hM.call0 hN trivial; clear hN
  refine s_move hE rfl rfl ?_; clear hE a; intro a hE
  refine s_extract hE rfl rfl rfl ?_; clear hE a; intro a hE
  refine s_extract hE rfl rfl rfl ?_; clear hE a; intro a hE
  refine s_assign hE rfl rfl ?_; clear hE a; intro a hE
  refine s_assign hE rfl rfl ?_; clear hE a; intro a hE
  refine q_nil ?_
  replace hE : Env a 46 [(0, _), (1, _), (6, _), (7, _), (8, _), (9, _), (10, _), (11, _), (19, _)] := hE.sel [0, 1, 6, 7, 8, 9, 10, 11, 19] rfl
  refine hK6 _ _ ?_
  refine wp_seq_k (fun K7 hK7 => ?_)
  refine wp_plain [true, true, true, true, true, true, true, true] rfl rfl ?_
  refine s_move hE rfl rfl ?_; clear hE a; intro a hE
  refine s_move hE rfl rfl ?_; clear hE a; intro a hE
  refine s_bin hE rfl rfl bin_mul64 rfl ?_; clear hE a; intro a hE
  refine s_move hE rfl rfl ?_; clear hE a; intro a hE
  refine s_bin hE rfl rfl bin_add64 rfl ?_; clear hE a; intro a hE
  refine s_move hE rfl rfl ?_; clear hE a; intro a hE
  refine s_assign hE rfl rfl ?_; clear hE a; intro a hE
  refine s_assign hE rfl rfl ?_; clear hE a; intro a hE
  refine q_nil ?_
  replace hE : Env a 46 [(0, _), (1, _), (6, _), (7, _), (8, _), (9, _), (19, _)] := hE.sel [0, 1, 6, 7, 8, 9, 19] rfl
  refine hK7 _ _ ?_
  refine wp_plain [true, true, true] rfl rfl ?_
  refine s_move hE rfl rfl ?_; clear hE a; intro a hE
  refine s_bin hE rfl rfl (bin_mul64 (y := 4294967296)) rfl ?_; clear hE a; intro a hE
  refine s_assign hE rfl rfl ?_; clear hE a; intro a hE
  refine q_nil ?_
  replace hE : Env a 46 [(0, _), (1, _), (6, _), (7, _), (8, _), (9, _), (19, _)] := hE.sel [0, 1, 6, 7, 8, 9, 19] rfl
  refine hK4 _ _ ?_
  refine wp_seq_k (fun K8 hK8 => ?_)
  refine wp_plain [true, true, true, true, true, true, true, true, true, true, true, true, true] rfl rfl ?_
  refine s_move hE rfl rfl ?_; clear hE a; intro a hE
  refine s_move hE rfl rfl ?_; clear hE a; intro a hE
  refine s_bin hE rfl rfl bin_lss rfl ?_; clear hE a; intro a hE
  refine s_move hE rfl rfl ?_; clear hE a; intro a hE
  refine hE.split 37 rfl (fun hb37 hE' => ?_) (fun hb37 hE' => ?_)
  · replace hE := hE'; clear hE'
    refine g_no (b := true) hE rfl rfl rfl ?_; clear hE a; intro a hE
    refine g_no (b := true) hE rfl rfl rfl ?_; clear hE a; intro a hE
    refine g_no (b := true) hE rfl rfl rfl ?_; clear hE a; intro a hE
    refine g_no (b := true) hE rfl rfl rfl ?_; clear hE a; intro a hE
    refine g_und hE rfl rfl rfl ?_; clear hE a; intro a hE
    refine g_und hE rfl rfl rfl ?_; clear hE a; intro a hE
    refine g_no (b := true) hE rfl rfl rfl ?_; clear hE a; intro a hE
    refine s_pickt hE rfl rfl rfl ?_; clear hE a; intro a hE
    refine s_assign hE rfl rfl ?_; clear hE a; intro a hE
    refine q_nil ?_
    replace hE : Env a 46 [(0, _), (1, _), (6, _), (7, _), (8, _), (19, _)] := hE.sel [0, 1, 6, 7, 8, 19] rfl
    refine hK8 _ _ ?_
    refine wp_ret ?_
    refine f_ret1 hE rfl rfl ?_
    exact ⟨by simp only [withinB, leB, hb37, Bool.true_or, Bool.false_or, Bool.true_and, Bool.false_and], hM⟩
  · replace hE := hE'; clear hE'
    refine g_yes hE rfl rfl ?_
    refine s_move hE rfl rfl ?_; clear hE a; intro a hE
    refine g_yes hE rfl rfl ?_
    refine s_move hE rfl rfl ?_; clear hE a; intro a hE
    refine g_yes hE rfl rfl ?_
    refine s_bin hE rfl rfl bin_eql rfl ?_; clear hE a; intro a hE
    refine g_yes hE rfl rfl ?_
    refine s_move hE rfl rfl ?_; clear hE a; intro a hE
    refine hE.split 41 rfl (fun hb41 hE' => ?_) (fun hb41 hE' => ?_)
    · replace hE := hE'; clear hE'
      refine g_yes hE rfl rfl ?_
      refine s_move hE rfl rfl ?_; clear hE a; intro a hE
      refine g_yes hE rfl rfl ?_
      refine s_bin hE rfl rfl bin_eql rfl ?_; clear hE a; intro a hE
      refine g_yes hE rfl rfl ?_
      refine s_pickt hE rfl rfl rfl ?_; clear hE a; intro a hE
      refine s_pickf hE rfl rfl rfl ?_; clear hE a; intro a hE
      refine s_assign hE rfl rfl ?_; clear hE a; intro a hE
      refine q_nil ?_
      replace hE : Env a 46 [(0, _), (1, _), (6, _), (7, _), (8, _), (19, _)] := hE.sel [0, 1, 6, 7, 8, 19] rfl
      refine hK8 _ _ ?_
      refine wp_ret ?_
      refine f_ret1 hE rfl rfl ?_
      exact ⟨by simp only [withinB, leB, hb37, hb41, Bool.true_or, Bool.false_or, Bool.true_and, Bool.false_and], hM⟩
    · replace hE := hE'; clear hE'
      refine g_no (b := false) hE rfl rfl rfl ?_; clear hE a; intro a hE
      refine g_no (b := false) hE rfl rfl rfl ?_; clear hE a; intro a hE
      refine g_yes hE rfl rfl ?_
      refine s_pickf hE rfl rfl rfl ?_; clear hE a; intro a hE
      refine s_pickf hE rfl rfl rfl ?_; clear hE a; intro a hE
      refine s_assign hE rfl rfl ?_; clear hE a; intro a hE
      refine q_nil ?_
      replace hE : Env a 46 [(0, _), (1, _), (6, _), (7, _), (8, _), (19, _)] := hE.sel [0, 1, 6, 7, 8, 19] rfl
      refine hK8 _ _ ?_
      refine wp_ret ?_
      refine f_ret1 hE rfl rfl ?_
      exact ⟨by simp only [withinB, leB, hb37, hb41, Bool.true_or, Bool.false_or, Bool.true_and, Bool.false_and], hM⟩
theorem rwithin_false (x p : UInt64) (w : World) : Calls Tryd.prog 72 #[vV x, vV p, .bool false] w fun e w' => e = .returned (.bool (withinB x p false)) ∧ Mem w [] w' [] := by
  have hM := Mem.start0 w
  refine f_enter 46 Tryd.func72 rfl rfl rfl ?_
  intro a hE
  replace hE : Env a 46 [(0, _), (1, _), (2, _)] := hE
  refine wp_seq_k (fun K1 hK1 => ?_)
  refine wp_plain [true] rfl rfl ?_
  refine s_assign hE rfl rfl ?_; clear hE a; intro a hE
  refine q_nil ?_
  refine hK1 _ _ ?_
  refine wp_seq_k (fun K2 hK2 => ?_)
  refine wp_plain [true, true, false, true, true, true, true, true] rfl rfl ?_
  refine s_move hE rfl rfl ?_; clear hE a; intro a hE
  refine s_move hE rfl rfl ?_; clear hE a; intro a hE
  refine s_call hE rfl Tryd.call78 (rmul_c _ _ _) rfl ?_
  rintro e w1 ⟨rfl, hN⟩
  refine ⟨_, rfl, trivial, ?_⟩; clear hE a; intro a hE
  replace hM : Mem _ _ w1 [] := hM.call0 hN trivial; clear hN
  refine s_move hE rfl rfl ?_; clear hE a; intro a hE
  refine s_extract hE rfl rfl rfl ?_; clear hE a; intro a hE
  refine s_extract hE rfl rfl rfl ?_; clear hE a; intro a hE
  refine s_assign hE rfl rfl ?_; clear hE a; intro a hE
  refine s_assign hE rfl rfl ?_; clear hE a; intro a hE
  refine q_nil ?_
  replace hE : Env a 46 [(0, _), (1, _), (2, _), (6, _), (7, _), (8, _)] := hE.sel [0, 1, 2, 6, 7, 8] rfl
  refine hK2 _ _ ?_
  refine wp_seq_k (fun K3 hK3 => ?_)
  refine wp_plain [true, true] rfl rfl ?_
  refine s_move hE rfl rfl ?_; clear hE a; intro a hE
  refine s_assign hE rfl rfl ?_; clear hE a; intro a hE
  refine q_nil ?_
  replace hE : Env a 46 [(0, _), (1, _), (2, _), (6, _), (7, _), (8, _), (9, _)] := hE.sel [0, 1, 2, 6, 7, 8, 9] rfl
  refine hK3 _ _ ?_
  refine wp_seq_k (fun K4 hK4 => ?_)
  refine wp_seq_k (fun K5 hK5 => ?_)
  refine wp_plain [true] rfl rfl ?_
  refine s_move hE rfl rfl ?_; clear hE a; intro a hE
  refine q_nil ?_
  replace hE : Env a 46 [(0, _), (1, _), (6, _), (7, _), (8, _), (9, _), (19, _)] := hE.sel [0, 1, 6, 7, 8, 9, 19] rfl
  refine hK5 _ _ ?_
  replace hE := hE.cast 19 rfl (show _ = Value.bool false from rfl)
  refine wp_cond_false (hE.eval rfl) ?_
  refine wp_skip ?_
  refine hK4 _ _ ?_
  refine wp_seq_k (fun K6 hK6 => ?_)
  refine wp_plain [true, true, true, true, true, true, true, true, true, true, true, true, true] rfl rfl ?_
  refine s_move hE rfl rfl ?_; clear hE a; intro a hE
  refine s_move hE rfl rfl ?_; clear hE a; intro a hE
  refine s_bin hE rfl rfl bin_lss rfl ?_; clear hE a; intro a hE
  refine s_move hE rfl rfl ?_; clear hE a; intro a hE
  refine hE.split 37 rfl (fun hb37 hE' => ?_) (fun hb37 hE' => ?_)
  · replace hE := hE'; clear hE'
    refine g_no (b := true) hE rfl rfl rfl ?_; clear hE a; intro a hE
    refine g_no (b := true) hE rfl rfl rfl ?_; clear hE a; intro a hE
    refine g_no (b := true) hE rfl rfl rfl ?_; clear hE a; intro a hE
    refine g_no (b := true) hE rfl rfl rfl ?_; clear hE a; intro a hE
    refine g_und hE rfl rfl rfl ?_; clear hE a; intro a hE
    refine g_und hE rfl rfl rfl ?_; clear hE a; intro a hE
    refine g_no (b := true) hE rfl rfl rfl ?_; clear hE a; intro a hE
    refine s_pickt hE rfl rfl rfl ?_; clear hE a; intro a hE
    refine s_assign hE rfl rfl ?_; clear hE a; intro a hE
    refine q_nil ?_
    replace hE : Env a 46 [(0, _), (1, _), (6, _), (7, _), (8, _), (19, _)] := hE.sel [0, 1, 6, 7, 8, 19] rfl
    refine hK6 _ _ ?_
    refine wp_ret ?_
    refine f_ret1 hE rfl rfl ?_
    exact ⟨by simp only [withinB, leB, hb37, Bool.true_or, Bool.false_or, Bool.true_and, Bool.false_and], hM⟩
  · replace hE := hE'; clear hE'
    refine g_yes hE rfl rfl ?_
    refine s_move hE rfl rfl ?_; clear hE a; intro a hE
    refine g_yes hE rfl rfl ?_
    refine s_move hE rfl rfl ?_; clear hE a; intro a hE
    refine g_yes hE rfl rfl ?_
    refine s_bin hE rfl rfl bin_eql rfl ?_; clear hE a; intro a hE
    refine g_yes hE rfl rfl ?_
    refine s_move hE rfl rfl ?_; clear hE a; intro a hE
    refine hE.split 41 rfl (fun hb41 hE' => ?_) (fun hb41 hE' => ?_)
    · replace hE := hE'; clear hE'
      refine g_yes hE rfl rfl ?_
      refine s_move hE rfl rfl ?_; clear hE a; intro a hE
      refine g_yes hE rfl rfl ?_
      refine s_bin hE rfl rfl bin_eql rfl ?_; clear hE a; intro a hE
      refine g_yes hE rfl rfl ?_
      refine s_pickt hE rfl rfl rfl ?_; clear hE a; intro a hE
      refine s_pickf hE rfl rfl rfl ?_; clear hE a; intro a hE
      refine s_assign hE rfl rfl ?_; clear hE a; intro a hE
      refine q_nil ?_
      replace hE : Env a 46 [(0, _), (1, _), (6, _), (7, _), (8, _), (19, _)] := hE.sel [0, 1, 6, 7, 8, 19] rfl
      refine hK6 _ _ ?_
      refine wp_ret ?_
      refine f_ret1 hE rfl rfl ?_
      exact ⟨by simp only [withinB, leB, hb37, hb41, Bool.true_or, Bool.false_or, Bool.true_and, Bool.false_and], hM⟩
    · replace hE := hE'; clear hE'
      refine g_no (b := false) hE rfl rfl rfl ?_; clear hE a; intro a hE
      refine g_no (b := false) hE rfl rfl rfl ?_; clear hE a; intro a hE
      refine g_yes hE rfl rfl ?_
      refine s_pickf hE rfl rfl rfl ?_; clear hE a; intro a hE
      refine s_pickf hE rfl rfl rfl ?_; clear hE a; intro a hE
      refine s_assign hE rfl rfl ?_; clear hE a; intro a hE
      refine q_nil ?_
      replace hE : Env a 46 [(0, _), (1, _), (6, _), (7, _), (8, _), (19, _)] := hE.sel [0, 1, 6, 7, 8, 19] rfl
      refine hK6 _ _ ?_
      refine wp_ret ?_
      refine f_ret1 hE rfl rfl ?_
      exact ⟨by simp only [withinB, leB, hb37, hb41, Bool.true_or, Bool.false_or, Bool.true_and, Bool.false_and], hM⟩
theorem rwithin_c (x p : UInt64) (cube : Bool) (w : World) : Calls Tryd.prog 72 #[vV x, vV p, .bool cube] w fun e w' => e = .returned (.bool (withinB x p cube)) ∧ Mem w [] w' [] := by
  cases cube
  · exact rwithin_false x p w
  · exact rwithin_true x p w
theorem rroot_c (p : UInt64) (cube : Bool) (w : World) : Calls Tryd.prog 66 #[vV p, .bool cube] w fun e w' => e = .returned (wV (rootW p cube)) ∧ Mem w [] w' [] := by
  have hM := Mem.start0 w
  refine f_enter 27 Tryd.func66 rfl rfl rfl ?_
  intro a hE
  replace hE : Env a 27 [(0, _), (1, _)] := hE
  refine wp_seq_k (fun K1 hK1 => ?_)
  refine wp_plain [true] rfl rfl ?_
  refine s_assign hE rfl rfl ?_; clear hE a; intro a hE
  refine q_nil ?_
  refine hK1 _ _ ?_
  refine wp_seq_k (fun K2 hK2 => ?_)
  refine wp_plain [true] rfl rfl ?_
  refine s_assign hE rfl rfl ?_; clear hE a; intro a hE
  refine q_nil ?_
  refine hK2 _ _ ?_
  refine wp_seq_k (fun K3 hK3 => ?_)
  refine wp_seq_k (fun K4 hK4 => ?_)
  refine wp_plain [true] rfl rfl ?_
  refine s_assign hE rfl rfl ?_; clear hE a; intro a hE
  refine q_nil ?_
  refine hK4 _ _ ?_
  refine wp_block ?_
  refine c_loop (fun (j : Nat) a w' => j ≤ 38 ∧ Env a 27 [(0, vV p), (1, .bool cube), (5, vV (rootX p cube j)), (6, .int .i64 (37 - (j : Int)))] ∧ Mem w [] w' []) (fun j => 38 - j) 0 ⟨Nat.zero_le _, hE.sel [0, 1, 5, 6] rfl, hM⟩ ?_
  clear hE hM a; rintro j a w1 ⟨hj, hE, hM⟩
  refine wp_seq_k (fun K5 hK5 => ?_)
  refine wp_seq_k (fun K6 hK6 => ?_)
  refine wp_plain [true, true] rfl rfl ?_
  refine s_move hE rfl rfl ?_; clear hE a; intro a hE
  refine s_bin hE rfl rfl bin_geq rfl ?_; clear hE a; intro a hE
  refine q_nil ?_
  replace hE : Env a 27 [(0, _), (1, _), (5, _), (6, _), (8, _)] := hE.sel [0, 1, 5, 6, 8] rfl
  refine hK6 _ _ ?_
  refine hE.split 8 rfl (fun hb8 hE' => ?_) (fun hb8 hE' => ?_)
  · replace hE := hE'; clear hE'
    replace hb8 := of_decide_eq_true hb8
    have hj2 : j < 38 := by omega
    replace hE := hE.cast 6 rfl (show _ = Value.int .i64 ((37 - j : Nat) : Int) from congrArg _ (by omega))
    refine wp_cond_true (hE.eval rfl) ?_
    refine wp_skip ?_
    refine hK5 _ _ ?_
    refine wp_seq_k (fun K7 hK7 => ?_)
    refine wp_block ?_
    refine wp_seq_k (fun K8 hK8 => ?_)
    refine wp_plain [true, true, true, true, true, true, true, false] rfl rfl ?_
    refine s_move hE rfl rfl ?_; clear hE a; intro a hE
    refine s_move hE rfl rfl ?_; clear hE a; intro a hE
    refine s_conv hE rfl (cnv_int Tryd.underlying3 Tryd.underlying33 (wrap_u64 (by omega) (by omega))) rfl ?_; clear hE a; intro a hE
    refine s_bin hE rfl rfl (bin_shl64 (x := 1) (s := 37 - j) rfl (by omega)) rfl ?_; clear hE a; intro a hE
    refine s_bin hE rfl rfl bin_add64 rfl ?_; clear hE a; intro a hE
    refine s_move hE rfl rfl ?_; clear hE a; intro a hE
    refine s_move hE rfl rfl ?_; clear hE a; intro a hE
    refine s_call hE rfl Tryd.call72 (rwithin_c _ _ _ _) rfl ?_
    rintro e w2 ⟨rfl, hN⟩
    refine ⟨_, rfl, trivial, ?_⟩; clear hE a; intro a hE
    replace hM : Mem _ _ w2 [] := hM.call0 hN trivial; clear hN
    refine q_nil ?_
    replace hE : Env a 27 [(0, _), (1, _), (5, _), (6, _), (8, _), (18, _)] := hE.sel [0, 1, 5, 6, 8, 18] rfl
    refine hK8 _ _ ?_
    refine hE.split 18 rfl (fun hb18 hE' => ?_) (fun hb18 hE' => ?_)
    · replace hE := hE'; clear hE'
      refine wp_cond_true (hE.eval rfl) ?_
      refine wp_plain [true, true, true, true, true, true] rfl rfl ?_
      refine s_move hE rfl rfl ?_; clear hE a; intro a hE
      refine s_move hE rfl rfl ?_; clear hE a; intro a hE
      refine s_conv hE rfl (cnv_int Tryd.underlying3 Tryd.underlying33 (wrap_u64 (by omega) (by omega))) rfl ?_; clear hE a; intro a hE
      refine s_bin hE rfl rfl (bin_shl64 (x := 1) (s := 37 - j) rfl (by omega)) rfl ?_; clear hE a; intro a hE
      refine s_bin hE rfl rfl bin_add64 rfl ?_; clear hE a; intro a hE
      refine s_assign hE rfl rfl ?_; clear hE a; intro a hE
      refine q_nil ?_
      replace hE : Env a 27 [(0, _), (1, _), (5, _), (6, _), (8, _), (18, _)] := hE.sel [0, 1, 5, 6, 8, 18] rfl
      refine q_block_n ?_
      refine hK7 _ _ ?_
      refine wp_plain [true, true, true] rfl rfl ?_
      refine s_move hE rfl rfl ?_; clear hE a; intro a hE
      refine s_bin hE rfl rfl (bin_sub (wrap_i64 (by omega) (by omega))) rfl ?_; clear hE a; intro a hE
      refine s_assign hE rfl rfl ?_; clear hE a; intro a hE
      refine q_nil ?_
      replace hE : Env a 27 [(0, _), (1, _), (5, _), (6, _), (8, _), (18, _)] := hE.sel [0, 1, 5, 6, 8, 18] rfl
      replace hE := hE.cast 6 rfl (show _ = Value.int .i64 (37 - ((j + 1 : Nat) : Int)) from congrArg _ (by omega))
      replace hE := hE.cast 5 rfl (show _ = vV (rootX p cube (j + 1)) from congrArg vV (by rw [rootX, hb18]))
      exact ⟨j + 1, ⟨by omega, hE.sel [0, 1, 5, 6] rfl, hM⟩, by omega⟩
    · replace hE := hE'; clear hE'
      refine wp_cond_false (hE.eval rfl) ?_
      refine wp_skip ?_
      refine q_block_n ?_
      refine hK7 _ _ ?_
      refine wp_plain [true, true, true] rfl rfl ?_
      refine s_move hE rfl rfl ?_; clear hE a; intro a hE
      refine s_bin hE rfl rfl (bin_sub (wrap_i64 (by omega) (by omega))) rfl ?_; clear hE a; intro a hE
      refine s_assign hE rfl rfl ?_; clear hE a; intro a hE
      refine q_nil ?_
      replace hE : Env a 27 [(0, _), (1, _), (5, _), (6, _), (8, _), (18, _)] := hE.sel [0, 1, 5, 6, 8, 18] rfl
      replace hE := hE.cast 6 rfl (show _ = Value.int .i64 (37 - ((j + 1 : Nat) : Int)) from congrArg _ (by omega))
      replace hE := hE.cast 5 rfl (show _ = vV (rootX p cube (j + 1)) from congrArg vV (by rw [rootX, hb18]))
      exact ⟨j + 1, ⟨by omega, hE.sel [0, 1, 5, 6] rfl, hM⟩, by omega⟩
  · replace hE := hE'; clear hE'
    replace hb8 := of_decide_eq_false hb8
    obtain rfl : j = 38 := by omega
    refine wp_cond_false (hE.eval rfl) ?_
    refine wp_exit ?_
    refine q_then_e ?_
    refine q_then_e ?_
    refine q_block_x ?_
    refine hK3 _ _ ?_
    refine wp_seq_k (fun K7 hK7 => ?_)
    refine wp_plain [true, true, true, true] rfl rfl ?_
    refine s_move hE rfl rfl ?_; clear hE a; intro a hE
    refine s_bin hE rfl rfl (bin_rem64 (y := 4294967296) (by decide)) rfl ?_; clear hE a; intro a hE
    refine s_conv hE rfl (cnv_int Tryd.underlying94 Tryd.underlying102 (wrap_u32_ofNat _)) rfl ?_; clear hE a; intro a hE
    refine s_assign hE rfl rfl ?_; clear hE a; intro a hE
    refine q_nil ?_
    replace hE : Env a 27 [(0, _), (1, _), (4, _), (5, _), (6, _), (8, _)] := hE.sel [0, 1, 4, 5, 6, 8] rfl
    refine hK7 _ _ ?_
    refine wp_ret ?_
    refine f_ret1 hE rfl rfl ?_
    exact ⟨rfl, hM⟩
theorem rprimes_c (many : Nat) (w : World) (hm : many ≤ 1000) : Calls Tryd.prog 65 #[.int .i64 (many : Int)] w fun e w' => ∃ v', e = .returned v' ∧ Mem w [] w' [own v' 1 (primesW many).length (vd (primesW many))] := by
  have hM := Mem.start0 w
  refine f_enter 37 Tryd.func65 rfl rfl rfl ?_
  intro a hE
  replace hE : Env a 37 [(0, _)] := hE
  refine wp_seq_k (fun K1 hK1 => ?_)
  refine wp_plain [true] rfl rfl ?_
  refine s_assign hE rfl rfl ?_; clear hE a; intro a hE
  refine q_nil ?_
  refine hK1 _ _ ?_
  refine wp_seq_k (fun K2 hK2 => ?_)
  refine wp_plain [false, true] rfl rfl ?_
  refine s_makeSlice (m := 400) (zc := [.bool false]) hE rfl rfl hM sl121 ⟨.bool false, by kernel_rfl, rfl⟩ rfl rfl (by decide) (by decide) (by decide) rfl ?_; clear hE a; intro a v7 w1 hE hM'; clear hM; have hM := hM'; clear hM'
  replace hM := hM.ownEq (m' := 400) (cs' := bl (primS 0).1) rfl (by kernel_rfl)
  refine s_assign hE rfl rfl ?_; clear hE a; intro a hE
  refine q_nil ?_
  replace hE : Env a 37 [(0, _), (2, _), (3, _)] := hE.sel [0, 2, 3] rfl
  refine hK2 _ _ ?_
  refine wp_seq_k (fun K3 hK3 => ?_)
  refine wp_plain [true] rfl rfl ?_
  refine s_assign hE rfl rfl ?_; clear hE a; intro a hE
  replace hM := hM.addNil 1
  refine q_nil ?_
  refine hK3 _ _ ?_
  refine wp_seq_k (fun K4 hK4 => ?_)
  refine wp_seq_k (fun K5 hK5 => ?_)
  refine wp_plain [true] rfl rfl ?_
  refine s_assign hE rfl rfl ?_; clear hE a; intro a hE
  refine q_nil ?_
  refine hK5 _ _ ?_
  refine wp_block ?_
  replace hM : Mem _ _ w1 [_, _] := hM.pick [1, 0] rfl
  refine c_loop (fun (j : Nat) a w' => j ≤ 398 ∧ (primS j).2.length ≤ many ∧ ∃ vo, Env a 37 [(0, .int .i64 (many : Int)), (3, v7), (4, vo), (5, .int .i64 ((2 + j : Nat) : Int))] ∧ Mem w [] w' [own v7 1 400 (bl (primS j).1), own vo 1 (primS j).2.length (vd (primS j).2)]) (fun j => 398 - j) 0 ⟨Nat.zero_le _, Nat.zero_le _, _, hE.sel [0, 3, 4, 5] rfl, hM⟩ ?_
  clear hE hM a; rintro j a w2 ⟨hj, hlen, vo, hE, hM⟩
  have hpl := primS_length j
  refine wp_seq_k (fun K6 hK6 => ?_)
  refine wp_seq_k (fun K7 hK7 => ?_)
  refine wp_plain [true, true, true, true, true, true, true, true] rfl rfl ?_
  refine s_move hE rfl rfl ?_; clear hE a; intro a hE
  refine s_bin hE rfl rfl bin_lss rfl ?_; clear hE a; intro a hE
  refine s_move hE rfl rfl ?_; clear hE a; intro a hE
  refine hE.split 10 rfl (fun hb10 hE' => ?_) (fun hb10 hE' => ?_)
  · replace hE := hE'; clear hE'
    replace hb10 := of_decide_eq_true hb10
    replace hb10 : j < 398 := by omega
    refine g_yes hE rfl rfl ?_
    refine s_move hE rfl rfl ?_; clear hE a; intro a hE
    refine g_yes hE rfl rfl ?_
    refine s_len hE rfl Tryd.underlying115 (own_slice (hM.get 1 rfl)) rfl ?_; clear hE a; intro a hE
    refine g_yes hE rfl rfl ?_
    refine s_move hE rfl rfl ?_; clear hE a; intro a hE
    refine g_yes hE rfl rfl ?_
    refine s_bin hE rfl rfl bin_lss rfl ?_; clear hE a; intro a hE
    refine s_pickt hE rfl rfl rfl ?_; clear hE a; intro a hE
    refine q_nil ?_
    replace hE : Env a 37 [(0, _), (3, _), (4, _), (5, _), (15, _)] := hE.sel [0, 3, 4, 5, 15] rfl
    refine hK7 _ _ ?_
    refine hE.split 15 rfl (fun hb15 hE' => ?_) (fun hb15 hE' => ?_)
    · replace hE := hE'; clear hE'
      replace hb15 := of_decide_eq_true hb15
      replace hb15 : (primS j).2.length < many := by omega
      refine wp_cond_true (hE.eval rfl) ?_
      refine wp_skip ?_
      refine hK6 _ _ ?_
      refine wp_seq_k (fun K8 hK8 => ?_)
      refine wp_block ?_
      refine wp_seq_k (fun K9 hK9 => ?_)
      refine wp_seq_k (fun K10 hK10 => ?_)
      refine wp_plain [true, true, true, true] rfl rfl ?_
      refine s_move hE rfl rfl ?_; clear hE a; intro a hE
      refine s_move hE rfl rfl ?_; clear hE a; intro a hE
      refine s_indexOwn (j := (2 + j)) hE rfl (hM.get 0 rfl) rfl slt121 (by first | rfl | omega) (by first | omega | decide) rfl ?_; clear hE a; intro a hE hc20
      rw [bl_elem (by omega)] at hc20
      refine s_loadAt1 hE rfl hc20 one4 (by intro X h; cases h) rfl ?_; clear hE a; intro a hE
      refine q_nil ?_
      replace hE : Env a 37 [(0, _), (3, _), (4, _), (5, _), (15, _), (21, _)] := hE.sel [0, 3, 4, 5, 15, 21] rfl
      refine hK10 _ _ ?_
      refine hE.split 21 rfl (fun hb21 hE' => ?_) (fun hb21 hE' => ?_)
      · replace hE := hE'; clear hE'
        have hstep : primS (j + 1) = primS j := by rw [primS, hb21]
        refine wp_cond_true (hE.eval rfl) ?_
        refine wp_exit ?_
        refine q_then_e ?_
        refine q_block_x ?_
        refine hK8 _ _ ?_
        refine wp_plain [true, true, true] rfl rfl ?_
        refine s_move hE rfl rfl ?_; clear hE a; intro a hE
        refine s_bin hE rfl rfl (bin_add (wrap_i64 (by omega) (by omega))) rfl ?_; clear hE a; intro a hE
        refine s_assign hE rfl rfl ?_; clear hE a; intro a hE
        refine q_nil ?_
        replace hE : Env a 37 [(0, _), (3, _), (4, _), (5, _), (15, _), (21, _)] := hE.sel [0, 3, 4, 5, 15, 21] rfl
        replace hE := hE.cast 5 rfl (show _ = Value.int .i64 ((2 + (j + 1) : Nat) : Int) from congrArg _ (by omega))
        have e := hstep
        refine ⟨j + 1, ⟨by omega, by rw [hstep]; exact hlen, _, hE.sel [0, 3, 4, 5] rfl, by rw [hstep]; exact hM⟩, by omega⟩
      · replace hE := hE'; clear hE'
        have hstep : primS (j + 1) = (markB (2 + j) (399 / (2 + j)) (primS j).1, (primS j).2 ++ [UInt64.ofNat (2 + j)]) := by rw [primS, hb21]
        refine wp_cond_false (hE.eval rfl) ?_
        refine wp_skip ?_
        refine hK9 _ _ ?_
        refine wp_seq_k (fun K11 hK11 => ?_)
        refine wp_plain [true, true, true, false, false, true] rfl rfl ?_
        refine s_move hE rfl rfl ?_; clear hE a; intro a hE
        refine s_move hE rfl rfl ?_; clear hE a; intro a hE
        refine s_conv hE rfl (cnv_int Tryd.underlying3 Tryd.underlying94 (wrap_u64_ofNat _)) rfl ?_; clear hE a; intro a hE
        refine s_buildSlice (xs := [.tmp 24]) (vd [UInt64.ofNat (2 + j)]) hE hM sl115 rfl rfl rfl (by intro v hv; simp at hv; subst hv; rfl) rfl rfl rfl rfl ?_; clear hE a; intro a v25 w3 hE hM'
        clear hM; have hM := hM'; clear hM'
        replace hM : Mem _ _ w3 [_, _, _] := hM.pick [2, 0, 1] rfl
        obtain ⟨cy, hy⟩ := own_rd (hM.get 1 rfl)
        refine s_append hE rfl rfl hM sl115 (Src.rd Tryd.underlying115 hy (vd_one _)) (len47 (by omega)) (by omega) (by intro X h; cases h) rfl ?_; clear hE a hy; intro a v26 w4 hE hM'
        clear hM; have hM := hM'; clear hM'
        replace hM : Mem _ _ w4 [_, _] := hM.pick [0, 2] rfl
        replace hM := hM.ownEq (m' := ((primS j).2 ++ [UInt64.ofNat (2 + j)]).length) (cs' := vd ((primS j).2 ++ [UInt64.ofNat (2 + j)])) (by simp) (by rw [vd_append])
        refine s_assign hE rfl rfl ?_; clear hE a; intro a hE
        refine q_nil ?_
        replace hE : Env a 37 [(0, _), (3, _), (4, _), (5, _), (15, _), (21, _)] := hE.sel [0, 3, 4, 5, 15, 21] rfl
        refine hK11 _ _ ?_
        refine wp_seq_k (fun K12 hK12 => ?_)
        refine wp_plain [true, true] rfl rfl ?_
        refine s_move hE rfl rfl ?_; clear hE a; intro a hE
        refine s_assign hE rfl rfl ?_; clear hE a; intro a hE
        refine q_nil ?_
        replace hE : Env a 37 [(0, _), (3, _), (4, _), (5, _), (6, _), (15, _), (21, _)] := hE.sel [0, 3, 4, 5, 6, 15, 21] rfl
        refine hK12 _ _ ?_
        refine wp_block ?_
        replace hM : Mem _ _ w4 [_, _] := hM.pick [1, 0] rfl
        replace hE := hE.cast 6 rfl (show _ = Value.int .i64 (((2 + j) + 0 * (2 + j) : Nat) : Int) from congrArg _ (by omega))
        refine c_loop (fun (k : Nat) a w' => k ≤ 399 / (2 + j) ∧ Env a 37 [(0, .int .i64 (many : Int)), (3, v7), (4, v26), (5, .int .i64 ((2 + j : Nat) : Int)), (6, .int .i64 (((2 + j) + k * (2 + j) : Nat) : Int))] ∧ Mem w [] w' [own v7 1 400 (bl (markB (2 + j) k (primS j).1)), own v26 1 ((primS j).2 ++ [UInt64.ofNat (2 + j)]).length (vd ((primS j).2 ++ [UInt64.ofNat (2 + j)]))]) (fun k => 399 / (2 + j) - k) 0 ⟨Nat.zero_le _, hE.sel [0, 3, 4, 5, 6] rfl, hM⟩ ?_
        clear hE hM a; rintro k a w5 ⟨hk, hE, hM⟩
        refine wp_seq_k (fun K13 hK13 => ?_)
        refine wp_seq_k (fun K14 hK14 => ?_)
        refine wp_plain [true, true] rfl rfl ?_
        refine s_move hE rfl rfl ?_; clear hE a; intro a hE
        refine s_bin hE rfl rfl bin_lss rfl ?_; clear hE a; intro a hE
        refine q_nil ?_
        replace hE : Env a 37 [(0, _), (3, _), (4, _), (5, _), (6, _), (29, _)] := hE.sel [0, 3, 4, 5, 6, 29] rfl
        refine hK14 _ _ ?_
        refine hE.split 29 rfl (fun hb29 hE' => ?_) (fun hb29 hE' => ?_)
        · replace hE := hE'; clear hE'
          replace hb29 := of_decide_eq_true hb29
          replace hb29 : (2 + j) + k * (2 + j) < 400 := by omega
          have hk2 : k < 399 / (2 + j) := (mark_more (by omega)).1 hb29
          refine wp_cond_true (hE.eval rfl) ?_
          refine wp_skip ?_
          refine hK13 _ _ ?_
          refine wp_seq_k (fun K15 hK15 => ?_)
          refine wp_block ?_
          refine wp_plain [true, true, true, false] rfl rfl ?_
          refine s_move hE rfl rfl ?_; clear hE a; intro a hE
          refine s_move hE rfl rfl ?_; clear hE a; intro a hE
          refine s_indexOwn (j := ((2 + j) + k * (2 + j))) hE rfl (hM.get 0 rfl) rfl slt121 (by first | rfl | omega) (by first | omega | decide) rfl ?_; clear hE a; intro a hE hc35
          refine s_storeOwn (vs := [.bool true]) hE rfl rfl hM rfl sz4 rfl (by intro u hu; rw [List.mem_singleton.1 hu]; rfl) (by simp; omega) (by omega) (by intro X h; cases h) ?_; intro w6 hM'; clear hM; have hM := hM'; clear hM'
          rw [bl_set (by rw [markB_length, primS_length]; exact hb29)] at hM
          refine q_nil ?_
          replace hE : Env a 37 [(0, _), (3, _), (4, _), (5, _), (6, _), (29, _)] := hE.sel [0, 3, 4, 5, 6, 29] rfl
          refine q_block_n ?_
          refine hK15 _ _ ?_
          refine wp_plain [true, true, true, true] rfl rfl ?_
          refine s_move hE rfl rfl ?_; clear hE a; intro a hE
          refine s_move hE rfl rfl ?_; clear hE a; intro a hE
          refine s_bin hE rfl rfl (bin_add (wrap_i64 (by omega) (by omega))) rfl ?_; clear hE a; intro a hE
          refine s_assign hE rfl rfl ?_; clear hE a; intro a hE
          refine q_nil ?_
          replace hE : Env a 37 [(0, _), (3, _), (4, _), (5, _), (6, _), (29, _)] := hE.sel [0, 3, 4, 5, 6, 29] rfl
          replace hE := hE.cast 6 rfl (show _ = Value.int .i64 (((2 + j) + (k + 1) * (2 + j) : Nat) : Int) from congrArg _ (by rw [Nat.add_mul]; omega))
          exact ⟨k + 1, ⟨by omega, hE.sel [0, 3, 4, 5, 6] rfl, hM⟩, by omega⟩
        · replace hE := hE'; clear hE'
          replace hb29 := of_decide_eq_false hb29
          replace hb29 : ¬ (2 + j) + k * (2 + j) < 400 := by omega
          obtain rfl : k = 399 / (2 + j) := by have h1 := mt (mark_more (n := 2 + j) (k := k) (by omega)).2 hb29; omega
          refine wp_cond_false (hE.eval rfl) ?_
          refine wp_exit ?_
          refine q_then_e ?_
          refine q_then_e ?_
          refine q_block_x ?_
          refine q_block_n ?_
          refine hK8 _ _ ?_
          refine wp_plain [true, true, true] rfl rfl ?_
          refine s_move hE rfl rfl ?_; clear hE a; intro a hE
          refine s_bin hE rfl rfl (bin_add (wrap_i64 (by omega) (by omega))) rfl ?_; clear hE a; intro a hE
          refine s_assign hE rfl rfl ?_; clear hE a; intro a hE
          refine q_nil ?_
          replace hE : Env a 37 [(0, _), (3, _), (4, _), (5, _), (6, _), (29, _)] := hE.sel [0, 3, 4, 5, 6, 29] rfl
          replace hE := hE.cast 5 rfl (show _ = Value.int .i64 ((2 + (j + 1) : Nat) : Int) from congrArg _ (by omega))
          have e := hstep
          refine ⟨j + 1, ⟨by omega, by rw [hstep]; simp; omega, _, hE.sel [0, 3, 4, 5] rfl, by rw [hstep]; exact hM⟩, by omega⟩
    · replace hE := hE'; clear hE'
      replace hb15 := of_decide_eq_false hb15
      replace hb15 : (primS j).2.length = many := by omega
      rw [primes_end hj hlen (.inr hb15)] at hM
      refine wp_cond_false (hE.eval rfl) ?_
      refine wp_exit ?_
      refine q_then_e ?_
      refine q_then_e ?_
      refine q_block_x ?_
      refine hK4 _ _ ?_
      refine wp_seq_k (fun K8 hK8 => ?_)
      refine wp_plain [true, true] rfl rfl ?_
      refine s_move hE rfl rfl ?_; clear hE a; intro a hE
      refine s_assign hE rfl rfl ?_; clear hE a; intro a hE
      refine q_nil ?_
      replace hE : Env a 37 [(0, _), (2, _), (3, _), (4, _), (5, _), (15, _)] := hE.sel [0, 2, 3, 4, 5, 15] rfl
      refine hK8 _ _ ?_
      refine wp_ret ?_
      refine f_ret1 hE rfl rfl ?_
      replace hM : Mem _ _ w2 [_, _] := hM.pick [1, 0] rfl
      exact ⟨_, rfl, hM.pick [0] rfl⟩
  · replace hE := hE'; clear hE'
    replace hb10 := of_decide_eq_false hb10
    replace hb10 : j = 398 := by omega
    rw [primes_end hj hlen (.inl hb10)] at hM
    refine g_no (b := false) hE rfl rfl rfl ?_; clear hE a; intro a hE
    refine g_no (b := false) hE rfl rfl rfl ?_; clear hE a; intro a hE
    refine g_no (b := false) hE rfl rfl rfl ?_; clear hE a; intro a hE
    refine g_no (b := false) hE rfl rfl rfl ?_; clear hE a; intro a hE
    refine s_pickf hE rfl rfl rfl ?_; clear hE a; intro a hE
    refine q_nil ?_
    replace hE : Env a 37 [(0, _), (3, _), (4, _), (5, _), (15, _)] := hE.sel [0, 3, 4, 5, 15] rfl
    refine hK7 _ _ ?_
    refine wp_cond_false (hE.eval rfl) ?_
    refine wp_exit ?_
    refine q_then_e ?_
    refine q_then_e ?_
    refine q_block_x ?_
    refine hK4 _ _ ?_
    refine wp_seq_k (fun K8 hK8 => ?_)
    refine wp_plain [true, true] rfl rfl ?_
    refine s_move hE rfl rfl ?_; clear hE a; intro a hE
    refine s_assign hE rfl rfl ?_; clear hE a; intro a hE
    refine q_nil ?_
    replace hE : Env a 37 [(0, _), (2, _), (3, _), (4, _), (5, _), (15, _)] := hE.sel [0, 2, 3, 4, 5, 15] rfl
    refine hK8 _ _ ?_
    refine wp_ret ?_
    refine f_ret1 hE rfl rfl ?_
    replace hM : Mem _ _ w2 [_, _] := hM.pick [1, 0] rfl
    exact ⟨_, rfl, hM.pick [0] rfl⟩
theorem snoc64 {l : List UInt64} {i : Nat} (h : i < l.length) : l.take (i + 1) = l.take i ++ [l.getD i 0] := by
  rw [List.take_succ_eq_append_getElem h]; simp [List.getD, h]
theorem rroots_c (many : Nat) (cube : Bool) (w : World) (hm : many ≤ 1000) : Calls Tryd.prog 59 #[.int .i64 (many : Int), .bool cube] w fun e w' => ∃ v', e = .returned v' ∧ Mem w [] w' [own v' 1 ((primesW many).map (fun p => rootW p cube)).length (wd ((primesW many).map (fun p => rootW p cube)))] := by
  have hM := Mem.start0 w
  refine f_enter 28 Tryd.func59 rfl rfl rfl ?_
  intro a hE
  replace hE : Env a 28 [(0, _), (1, _)] := hE
  refine wp_seq_k (fun K1 hK1 => ?_)
  refine wp_plain [true] rfl rfl ?_
  refine s_assign hE rfl rfl ?_; clear hE a; intro a hE
  refine q_nil ?_
  refine hK1 _ _ ?_
  refine wp_seq_k (fun K2 hK2 => ?_)
  refine wp_plain [true, false, true] rfl rfl ?_
  refine s_move hE rfl rfl ?_; clear hE a; intro a hE
  refine s_call hE rfl Tryd.call65 (rprimes_c many _ hm) rfl ?_
  rintro e w1 ⟨v10, rfl, hN⟩
  refine ⟨_, rfl, trivial, ?_⟩; clear hE a; intro a hE
  replace hM : Mem _ _ w1 [_] := hM.call0 hN ⟨rfl, trivial⟩; clear hN
  have hpl : (primesW many).length ≤ many := by simp [primesW]; omega
  refine s_assign hE rfl rfl ?_; clear hE a; intro a hE
  refine q_nil ?_
  replace hE : Env a 28 [(1, _), (4, _), (5, _)] := hE.sel [1, 4, 5] rfl
  refine hK2 _ _ ?_
  refine wp_seq_k (fun K3 hK3 => ?_)
  refine wp_plain [true] rfl rfl ?_
  refine s_assign hE rfl rfl ?_; clear hE a; intro a hE
  replace hM := hM.addNil 1
  refine q_nil ?_
  refine hK3 _ _ ?_
  refine wp_seq_k (fun K4 hK4 => ?_)
  refine wp_seq_k (fun K5 hK5 => ?_)
  refine wp_plain [true] rfl rfl ?_
  refine s_assign hE rfl rfl ?_; clear hE a; intro a hE
  refine q_nil ?_
  refine hK5 _ _ ?_
  refine wp_block ?_
  refine c_loop (fun (i : Nat) a w' => i ≤ (primesW many).length ∧ ∃ vo, Env a 28 [(1, .bool cube), (5, v10), (6, vo), (7, .int .i64 (i : Int))] ∧ Mem w [] w' [own vo 1 (((primesW many).take i).map (fun p => rootW p cube)).length (wd (((primesW many).take i).map (fun p => rootW p cube))), own v10 1 (primesW many).length (vd (primesW many))]) (fun i => (primesW many).length - i) 0 ⟨Nat.zero_le _, _, hE.sel [1, 5, 6, 7] rfl, hM⟩ ?_
  clear hE hM a; rintro i a w2 ⟨hi, vo, hE, hM⟩
  refine wp_seq_k (fun K6 hK6 => ?_)
  refine wp_seq_k (fun K7 hK7 => ?_)
  refine wp_plain [true, true, true, true] rfl rfl ?_
  refine s_move hE rfl rfl ?_; clear hE a; intro a hE
  refine s_move hE rfl rfl ?_; clear hE a; intro a hE
  refine s_len hE rfl Tryd.underlying115 (own_slice (hM.get 1 rfl)) rfl ?_; clear hE a; intro a hE
  refine s_bin hE rfl rfl bin_lss rfl ?_; clear hE a; intro a hE
  refine q_nil ?_
  replace hE : Env a 28 [(1, _), (5, _), (6, _), (7, _), (14, _)] := hE.sel [1, 5, 6, 7, 14] rfl
  refine hK7 _ _ ?_
  refine hE.split 14 rfl (fun hb14 hE' => ?_) (fun hb14 hE' => ?_)
  · replace hE := hE'; clear hE'
    replace hb14 := of_decide_eq_true hb14
    replace hb14 : i < (primesW many).length := by omega
    refine wp_cond_true (hE.eval rfl) ?_
    refine wp_skip ?_
    refine hK6 _ _ ?_
    refine wp_seq_k (fun K8 hK8 => ?_)
    refine wp_block ?_
    refine wp_seq_k (fun K9 hK9 => ?_)
    refine wp_plain [true, true, true, true, true, false, true] rfl rfl ?_
    refine s_move hE rfl rfl ?_; clear hE a; intro a hE
    refine s_move hE rfl rfl ?_; clear hE a; intro a hE
    obtain ⟨cx19, hx19⟩ := own_rd (hM.get 1 rfl)
    refine s_indexRd (j := i) hE rfl hx19 rfl slt115 (by first | rfl | omega) (by first | omega | (simp; omega) | decide) rfl ?_; clear hE a; intro a p19 hE hc19 hp19
    rw [vd_elem hb14] at hc19
    refine s_loadAt1 hE rfl hc19 one94 (by intro X h; cases h) rfl ?_; clear hE a; intro a hE
    refine s_move hE rfl rfl ?_; clear hE a; intro a hE
    refine s_call hE rfl Tryd.call66 (rroot_c _ cube _) rfl ?_
    rintro e w3 ⟨rfl, hN⟩
    refine ⟨_, rfl, trivial, ?_⟩; clear hE a; intro a hE
    replace hM : Mem _ _ w3 [_, _] := hM.call0 hN trivial; clear hN
    refine s_assign hE rfl rfl ?_; clear hE a; intro a hE
    refine q_nil ?_
    replace hE : Env a 28 [(1, _), (5, _), (6, _), (7, _), (8, _), (14, _)] := hE.sel [1, 5, 6, 7, 8, 14] rfl
    refine hK9 _ _ ?_
    refine wp_plain [true, true, false, false, true] rfl rfl ?_
    refine s_move hE rfl rfl ?_; clear hE a; intro a hE
    refine s_move hE rfl rfl ?_; clear hE a; intro a hE
    refine s_buildSlice (xs := [.tmp 24]) (wd [rootW ((primesW many).getD i 0) cube]) hE hM sl110 rfl rfl rfl (by intro v hv; simp at hv; subst hv; rfl) rfl rfl rfl rfl ?_; clear hE a; intro a v25 w4 hE hM'
    clear hM; have hM := hM'; clear hM'
    replace hM : Mem _ _ w4 [_, _, _] := hM.pick [1, 0, 2] rfl
    obtain ⟨cy, hy⟩ := own_rd (hM.get 1 rfl)
    refine s_append hE rfl rfl hM sl110 (Src.rd Tryd.underlying110 hy (wd_one _)) (len47 (by simp; omega)) (by simp; omega) (by intro X h; cases h) rfl ?_; clear hE a hy; intro a v26 w5 hE hM'
    clear hM; have hM := hM'; clear hM'
    replace hM : Mem _ _ w5 [_, _] := hM.pick [0, 2] rfl
    replace hM := hM.ownEq (m' := (((primesW many).take (i + 1)).map (fun p => rootW p cube)).length) (cs' := wd (((primesW many).take (i + 1)).map (fun p => rootW p cube))) (by simp; omega) (by rw [snoc64 hb14, List.map_append, wd_append]; rfl)
    refine s_assign hE rfl rfl ?_; clear hE a; intro a hE
    refine q_nil ?_
    replace hE : Env a 28 [(1, _), (5, _), (6, _), (7, _), (8, _), (14, _)] := hE.sel [1, 5, 6, 7, 8, 14] rfl
    refine q_block_n ?_
    refine hK8 _ _ ?_
    refine wp_plain [true, true, true] rfl rfl ?_
    refine s_move hE rfl rfl ?_; clear hE a; intro a hE
    refine s_bin hE rfl rfl (bin_add (wrap_i64 (by omega) (by omega))) rfl ?_; clear hE a; intro a hE
    refine s_assign hE rfl rfl ?_; clear hE a; intro a hE
    refine q_nil ?_
    replace hE : Env a 28 [(1, _), (5, _), (6, _), (7, _), (8, _), (14, _)] := hE.sel [1, 5, 6, 7, 8, 14] rfl
    replace hE := hE.cast 7 rfl (show _ = Value.int .i64 ((i + 1 : Nat) : Int) from congrArg _ (by omega))
    exact ⟨i + 1, ⟨by omega, _, hE.sel [1, 5, 6, 7] rfl, hM⟩, by omega⟩
  · replace hE := hE'; clear hE'
    replace hb14 := of_decide_eq_false hb14
    replace hb14 : ¬ (i < (primesW many).length) := by omega
    obtain rfl : i = (primesW many).length := by omega
    rw [List.take_length] at hM
    refine wp_cond_false (hE.eval rfl) ?_
    refine wp_exit ?_
    refine q_then_e ?_
    refine q_then_e ?_
    refine q_block_x ?_
    refine hK4 _ _ ?_
    refine wp_seq_k (fun K8 hK8 => ?_)
    refine wp_plain [true, true] rfl rfl ?_
    refine s_move hE rfl rfl ?_; clear hE a; intro a hE
    refine s_assign hE rfl rfl ?_; clear hE a; intro a hE
    refine q_nil ?_
    replace hE : Env a 28 [(1, _), (4, _), (5, _), (6, _), (7, _), (14, _)] := hE.sel [1, 4, 5, 6, 7, 14] rfl
    refine hK8 _ _ ?_
    refine wp_ret ?_
    refine f_ret1 hE rfl rfl ?_
    exact ⟨_, rfl, hM.pick [0] rfl⟩
theorem rsha_c (v : Value) (bs : List UInt8) (c : Nat) (w : World) (hr : (rd v 1 bs.length c (bv bs)).holds w) (hb : bs.length ≤ 1099511627776) : Calls Tryd.prog 55 #[v] w fun e w' => e = .returned (.agg (bv (shaW bs)).toArray) ∧ Mem w [] w' [] := by
  have hM := Mem.startR1 hr rfl
  have hz : zerosW bs.length < 64 := Nat.mod_lt _ (by decide)
  refine f_enter 76 Tryd.func55 rfl rfl rfl ?_
  intro a hE
  replace hE : Env a 76 [(0, _)] := hE
  refine wp_seq_k (fun K1 hK1 => ?_)
  refine wp_plain [false] rfl rfl ?_
  refine s_alloc [32] hE hM zero34 rfl rfl ?_; clear hE a; intro a b2 w1 hE hM'
  clear hM; have hM := hM'; clear hM'
  refine q_nil ?_
  refine hK1 _ _ ?_
  refine wp_seq_k (fun K2 hK2 => ?_)
  refine wp_plain [true] rfl rfl ?_
  refine s_assign hE rfl rfl ?_; clear hE a; intro a hE
  replace hM := hM.addNil 1
  refine q_nil ?_
  refine hK2 _ _ ?_
  refine wp_seq_k (fun K3 hK3 => ?_)
  refine wp_plain [true, true, false, true] rfl rfl ?_
  refine s_move hE rfl rfl ?_; clear hE a; intro a hE
  refine s_move hE rfl rfl ?_; clear hE a; intro a hE
  have hy := hM.get 2 rfl
  refine s_append hE rfl rfl hM sl82 (Src.rd Tryd.underlying82 hy (bv_one _)) (len47 (by omega)) (by omega) (by intro X h; cases h) rfl ?_; clear hE a hy; intro a v11 w2 hE hM'
  clear hM; have hM := hM'; clear hM'
  replace hM := hM.ownEq (m' := bs.length) (cs' := bv bs) (by omega) rfl
  refine s_assign hE rfl rfl ?_; clear hE a; intro a hE
  refine q_nil ?_
  replace hE : Env a 76 [(0, _), (2, _), (3, _)] := hE.sel [0, 2, 3] rfl
  refine hK3 _ _ ?_
  refine wp_seq_k (fun K4 hK4 => ?_)
  refine wp_plain [true, true, true, false, false, true] rfl rfl ?_
  refine s_move hE rfl rfl ?_; clear hE a; intro a hE
  refine s_move hE rfl rfl ?_; clear hE a; intro a hE
  refine s_len hE rfl Tryd.underlying82 (rd_slice (hM.get 2 rfl)) rfl ?_; clear hE a; intro a hE
  refine s_call hE rfl Tryd.call58 (rtail_c bs.length _ hb) rfl ?_
  rintro e w3 ⟨v15, rfl, hN⟩
  refine ⟨_, rfl, trivial, ?_⟩; clear hE a; intro a hE
  replace hM : Mem _ _ w3 [_, _, _, _] := hM.call0 hN ⟨rfl, trivial⟩; clear hN
  replace hM : Mem _ _ w3 [_, _, _, _] := hM.pick [1, 0, 2, 3] rfl
  obtain ⟨cy, hy⟩ := own_rd (hM.get 1 rfl)
  refine s_append hE rfl rfl hM sl82 (Src.rd Tryd.underlying82 hy (bv_one _)) (len47 (by simp only [tailW_len]; omega)) (by simp only [tailW_len]; omega) (by intro X h; cases h) rfl ?_; clear hE a hy; intro a v16 w4 hE hM'
  clear hM; have hM := hM'; clear hM'
  replace hM := hM.ownEq (m' := (bs ++ tailW bs.length).length) (cs' := bv (bs ++ tailW bs.length)) (by simp) (by rw [bv_append])
  refine s_assign hE rfl rfl ?_; clear hE a; intro a hE
  refine q_nil ?_
  replace hE : Env a 76 [(0, _), (2, _), (3, _)] := hE.sel [0, 2, 3] rfl
  refine hK4 _ _ ?_
  refine wp_seq_k (fun K5 hK5 => ?_)
  refine wp_plain [false, true] rfl rfl ?_
  refine s_call hE rfl Tryd.call59 ((by have h := rroots_c 64 true w4 (by decide); rw [salts_are] at h; exact h)) rfl ?_
  rintro e w5 ⟨v17, rfl, hN⟩
  refine ⟨_, rfl, trivial, ?_⟩; clear hE a; intro a hE
  replace hM : Mem _ _ w5 [_, _, _, _, _] := hM.call0 hN ⟨rfl, trivial⟩; clear hN
  obtain ⟨c17, hM'⟩ := hM.freeze
  clear hM; have hM := hM'; clear hM'
  refine s_assign hE rfl rfl ?_; clear hE a; intro a hE
  refine q_nil ?_
  replace hE : Env a 76 [(0, _), (2, _), (3, _), (4, _)] := hE.sel [0, 2, 3, 4] rfl
  refine hK5 _ _ ?_
  refine wp_seq_k (fun K6 hK6 => ?_)
  refine wp_plain [false, true] rfl rfl ?_
  refine s_call hE rfl Tryd.call59 ((by have h := rroots_c 8 false w5 (by decide); rw [seeds_are] at h; exact h)) rfl ?_
  rintro e w6 ⟨v18, rfl, hN⟩
  refine ⟨_, rfl, trivial, ?_⟩; clear hE a; intro a hE
  replace hM : Mem _ _ w6 [_, _, _, _, _, _] := hM.call0 hN ⟨rfl, trivial⟩; clear hN
  obtain ⟨c18, hM'⟩ := hM.freeze
  clear hM; have hM := hM'; clear hM'
  refine s_assign hE rfl rfl ?_; clear hE a; intro a hE
  refine q_nil ?_
  replace hE : Env a 76 [(0, _), (2, _), (3, _), (4, _), (5, _)] := hE.sel [0, 2, 3, 4, 5] rfl
  refine hK6 _ _ ?_
  refine wp_seq_k (fun K7 hK7 => ?_)
  refine wp_seq_k (fun K8 hK8 => ?_)
  refine wp_plain [true] rfl rfl ?_
  refine s_assign hE rfl rfl ?_; clear hE a; intro a hE
  refine q_nil ?_
  refine hK8 _ _ ?_
  refine wp_block ?_
  replace hM : Mem _ _ w6 [_, _, _, _, _, _] := hM.pick [2, 0, 1, 3, 4, 5] rfl
  obtain ⟨ca, hM'⟩ := hM.freeze
  clear hM; have hM := hM'; clear hM'
  have hca := rd_len (hM.get 0 rfl)
  have hL : (bs ++ tailW bs.length).length % 64 = 0 := by have := tailW_length bs.length; simpa using this
  have hAL : (bs ++ tailW bs.length).length ≤ 1099511627900 := by simp only [List.length_append, tailW_len]; omega
  replace hM : Mem _ _ w6 [_, _, _, _, _, _] := hM.pick [1, 2, 0, 4, 3, 5] rfl
  replace hM : Mem _ _ w6 [_, _, _, _] := hM.pick [0, 1, 2, 3] rfl
  refine c_loop (fun (j : Nat) a w' => j ≤ (bs ++ tailW bs.length).length / 64 ∧ ∃ vn cn, Env a 76 [(2, .pointer (some ⟨b2, 0, none⟩)), (3, v16), (4, v17), (5, vn), (6, .int .i64 ((64 * j : Nat) : Int))] ∧ Mem w [] w' [rd vn 1 8 cn (wd (overW j seedsW (bs ++ tailW bs.length))), rd v17 1 64 c17 (wd saltsW), rd v16 1 (bs ++ tailW bs.length).length ca (bv (bs ++ tailW bs.length)), blk b2 [bv (List.replicate 32 0)] [32] 34]) (fun j => (bs ++ tailW bs.length).length / 64 - j) 0 ⟨Nat.zero_le _, _, _, hE.sel [2, 3, 4, 5, 6] rfl, hM⟩ ?_
  clear hE hM a; rintro j a w7 ⟨hj, vn, cn, hE, hM⟩
  refine wp_seq_k (fun K9 hK9 => ?_)
  refine wp_seq_k (fun K10 hK10 => ?_)
  refine wp_plain [true, true, true, true] rfl rfl ?_
  refine s_move hE rfl rfl ?_; clear hE a; intro a hE
  refine s_move hE rfl rfl ?_; clear hE a; intro a hE
  refine s_len hE rfl Tryd.underlying82 (rd_slice (hM.get 2 rfl)) rfl ?_; clear hE a; intro a hE
  refine s_bin hE rfl rfl bin_lss rfl ?_; clear hE a; intro a hE
  refine q_nil ?_
  replace hE : Env a 76 [(2, _), (3, _), (4, _), (5, _), (6, _), (22, _)] := hE.sel [2, 3, 4, 5, 6, 22] rfl
  refine hK10 _ _ ?_
  refine hE.split 22 rfl (fun hb22 hE' => ?_) (fun hb22 hE' => ?_)
  · replace hE := hE'; clear hE'
    replace hb22 := of_decide_eq_true hb22
    replace hb22 : 64 * j < (bs ++ tailW bs.length).length := by omega
    refine wp_cond_true (hE.eval rfl) ?_
    refine wp_skip ?_
    refine hK9 _ _ ?_
    refine wp_seq_k (fun K11 hK11 => ?_)
    refine wp_block ?_
    refine wp_plain [true, true, true, true, true, true, true, false, true] rfl rfl ?_
    refine s_move hE rfl rfl ?_; clear hE a; intro a hE
    refine s_move hE rfl rfl ?_; clear hE a; intro a hE
    refine s_move hE rfl rfl ?_; clear hE a; intro a hE
    refine s_move hE rfl rfl ?_; clear hE a; intro a hE
    refine s_bin hE rfl rfl (show Bin _ _ _ _ _ (.int .i64 ((64 * j + 64 : Nat) : Int)) from bin_add (by rw [wrap_i64 (by omega) (by omega)]; omega)) rfl ?_; clear hE a; intro a hE
    refine s_slice (l := (64 * j)) (h := (64 * j + 64)) (mx' := ca) hE rfl (hM.get 2 rfl) slt82 ⟨_, rfl⟩ ⟨_, rfl⟩ rfl (by simp) (by omega) (by omega) (by omega) (by omega) rfl ?_; clear hE a; intro a v30 hE hr30 hvb30
    replace hr30 := (fun h => by have h := rd_mid (l := 64 * j) (h := 64 * j + 64) (by omega) h; rw [show 64 * j + 64 - 64 * j = 64 by omega] at h; exact h) hr30
    replace hM := hM.addPart 2 rfl hr30 hvb30; clear hr30
    refine s_move hE rfl rfl ?_; clear hE a; intro a hE
    refine s_call hE rfl Tryd.call60 (rpass_c _ v30 v17 _ _ _ _ c17 _ (hM.get 1 rfl) (hM.get 0 rfl) (hM.get 2 rfl) (by rw [List.length_take, List.length_drop]; omega)) rfl ?_
    rintro e w8 ⟨v32, rfl, hN⟩
    refine ⟨_, rfl, trivial, ?_⟩; clear hE a; intro a hE
    replace hM : Mem _ _ w8 [_, _, _, _, _, _] := hM.call0 hN ⟨rfl, trivial⟩; clear hN
    obtain ⟨cn, hM'⟩ := hM.freeze
    clear hM; have hM := hM'; clear hM'
    refine s_assign hE rfl rfl ?_; clear hE a; intro a hE
    refine q_nil ?_
    replace hE : Env a 76 [(2, _), (3, _), (4, _), (5, _), (6, _), (22, _)] := hE.sel [2, 3, 4, 5, 6, 22] rfl
    refine q_block_n ?_
    refine hK11 _ _ ?_
    refine wp_plain [true, true, true] rfl rfl ?_
    refine s_move hE rfl rfl ?_; clear hE a; intro a hE
    refine s_bin hE rfl rfl (bin_add (wrap_i64 (by omega) (by omega))) rfl ?_; clear hE a; intro a hE
    refine s_assign hE rfl rfl ?_; clear hE a; intro a hE
    refine q_nil ?_
    replace hE : Env a 76 [(2, _), (3, _), (4, _), (5, _), (6, _), (22, _)] := hE.sel [2, 3, 4, 5, 6, 22] rfl
    replace hE := hE.cast 6 rfl (show _ = Value.int .i64 ((64 * (j + 1) : Nat) : Int) from congrArg _ (by omega))
    replace hM : Mem _ _ w8 [_, _, _, _, _, _] := hM.pick [0, 3, 4, 5, 1, 2] rfl
    replace hM : Mem _ _ w8 [_, _, _, _] := hM.pick [0, 1, 2, 3] rfl
    exact ⟨j + 1, ⟨by omega, _, _, hE.sel [2, 3, 4, 5, 6] rfl, by rw [overW_succ]; exact hM⟩, by omega⟩
  · replace hE := hE'; clear hE'
    replace hb22 := of_decide_eq_false hb22
    replace hb22 : ¬ (64 * j < (bs ++ tailW bs.length).length) := by omega
    obtain rfl : j = (bs ++ tailW bs.length).length / 64 := by omega
    refine wp_cond_false (hE.eval rfl) ?_
    refine wp_exit ?_
    refine q_then_e ?_
    refine q_then_e ?_
    refine q_block_x ?_
    refine hK7 _ _ ?_
    refine wp_seq_k (fun K11 hK11 => ?_)
    refine wp_plain [false] rfl rfl ?_
    refine s_alloc [32] hE hM zero34 rfl rfl ?_; clear hE a; intro a b7 w8 hE hM'
    clear hM; have hM := hM'; clear hM'
    refine q_nil ?_
    refine hK11 _ _ ?_
    refine wp_seq_k (fun K12 hK12 => ?_)
    refine wp_seq_k (fun K13 hK13 => ?_)
    refine wp_plain [true] rfl rfl ?_
    refine s_assign hE rfl rfl ?_; clear hE a; intro a hE
    refine q_nil ?_
    refine hK13 _ _ ?_
    refine wp_block ?_
    replace hM : Mem _ _ w8 [_, _, _, _, _] := hM.pick [0, 1, 4, 2, 3] rfl
    replace hM : Mem _ _ w8 [_, _, _] := hM.pick [0, 1, 2] rfl
    refine c_loop (fun (i : Nat) a w' => i ≤ 8 ∧ Env a 76 [(2, .pointer (some ⟨b2, 0, none⟩)), (5, vn), (7, .pointer (some ⟨b7, 0, none⟩)), (8, .int .i64 (i : Int))] ∧ Mem w [] w' [blk b7 [bv (bytesW (overW ((bs ++ tailW bs.length).length / 64) seedsW (bs ++ tailW bs.length)) (4 * i) ++ List.replicate (32 - 4 * i) 0)] [32] 34, rd vn 1 8 cn (wd (overW ((bs ++ tailW bs.length).length / 64) seedsW (bs ++ tailW bs.length))), blk b2 [bv (List.replicate 32 0)] [32] 34]) (fun i => 8 - i) 0 ⟨Nat.zero_le _, hE.sel [2, 5, 7, 8] rfl, by simpa [bytesW] using hM⟩ ?_
    clear hE hM a; rintro i a w9 ⟨hi, hE, hM⟩
    refine wp_seq_k (fun K14 hK14 => ?_)
    refine wp_seq_k (fun K15 hK15 => ?_)
    refine wp_plain [true, true] rfl rfl ?_
    refine s_move hE rfl rfl ?_; clear hE a; intro a hE
    refine s_bin hE rfl rfl bin_lss rfl ?_; clear hE a; intro a hE
    refine q_nil ?_
    replace hE : Env a 76 [(2, _), (5, _), (7, _), (8, _), (34, _)] := hE.sel [2, 5, 7, 8, 34] rfl
    refine hK15 _ _ ?_
    refine hE.split 34 rfl (fun hb34 hE' => ?_) (fun hb34 hE' => ?_)
    · replace hE := hE'; clear hE'
      replace hb34 := of_decide_eq_true hb34
      replace hb34 : i < 8 := by omega
      refine wp_cond_true (hE.eval rfl) ?_
      refine wp_skip ?_
      refine hK14 _ _ ?_
      refine wp_seq_k (fun K16 hK16 => ?_)
      refine wp_block ?_
      refine wp_drawnM2 hM (by kernel_rfl) (fun b => b = b7) (fun _ => True) [(0, true), (1, true), (2, true), (3, true), (4, true), (5, true), (6, true), (7, true), (8, true), (9, true), (10, true), (11, true), (12, true), (13, true), (14, true), (15, true), (16, true), (17, true), (18, true), (19, true), (20, true), (21, true), (22, true), (23, true), (24, true), (25, true), (26, true), (27, true), (28, true), (29, true), (30, true), (31, true), (32, true), (33, true), (34, true), (35, false), (36, true), (37, false), (38, true), (39, false), (40, true)] [(41, false)] [(35, [(36, 35), (37, 35), (38, 35), (39, 35), (40, 35), (41, 35)]), (37, [(38, 37), (39, 37), (40, 37), (41, 37)]), (39, [(40, 39), (41, 39)]), (41, []), (1, [(34, 1), (35, 1), (36, 1), (37, 1), (38, 1), (39, 1), (40, 1), (41, 1)]), (3, [(4, 3), (36, 3), (37, 3), (38, 3), (39, 3), (40, 3), (41, 3)]), (4, [(36, 4), (37, 4), (38, 4), (39, 4), (40, 4), (41, 4)]), (6, [(7, 6), (38, 6), (39, 6), (40, 6), (41, 6)]), (7, [(38, 7), (39, 7), (40, 7), (41, 7)]), (9, [(10, 9), (40, 9), (41, 9)]), (10, [(40, 10), (41, 10)]), (13, [(14, 13), (15, 14), (16, 15), (34, 13), (35, 13), (36, 13), (37, 13), (38, 13), (39, 13), (40, 13), (41, 13)]), (14, [(15, 14), (16, 15), (34, 14), (35, 14), (36, 14), (37, 14), (38, 14), (39, 14), (40, 14), (41, 14)]), (15, [(16, 15), (34, 15), (35, 15), (36, 15), (37, 15), (38, 15), (39, 15), (40, 15), (41, 15)]), (16, [(34, 16), (35, 16), (36, 16), (37, 16), (38, 16), (39, 16), (40, 16), (41, 16)]), (19, [(20, 19), (21, 20), (22, 21), (36, 19), (37, 19), (38, 19), (39, 19), (40, 19), (41, 19)]), (20, [(21, 20), (22, 21), (36, 20), (37, 20), (38, 20), (39, 20), (40, 20), (41, 20)]), (21, [(22, 21), (36, 21), (37, 21), (38, 21), (39, 21), (40, 21), (41, 21)]), (22, [(36, 22), (37, 22), (38, 22), (39, 22), (40, 22), (41, 22)]), (25, [(26, 25), (27, 26), (28, 27), (38, 25), (39, 25), (40, 25), (41, 25)]), (26, [(27, 26), (28, 27), (38, 26), (39, 26), (40, 26), (41, 26)]), (27, [(28, 27), (38, 27), (39, 27), (40, 27), (41, 27)]), (28, [(38, 28), (39, 28), (40, 28), (41, 28)]), (31, [(32, 31), (33, 32), (40, 31), (41, 31)]), (32, [(33, 32), (40, 32), (41, 32)]), (33, [(40, 33), (41, 33)]), (34, [(35, 34), (36, 34), (37, 34), (38, 34), (39, 34), (40, 34), (41, 34)]), (36, [(37, 36), (38, 36), (39, 36), (40, 36), (41, 36)]), (38, [(39, 38), (40, 38), (41, 38)]), (40, [(41, 40)])] (by kernel_rfl) (by kernel_rfl) rfl rfl ?_
      intro w10 hM' hww10; clear hM; have hM := hM'; clear hM'
      refine s_move hE rfl rfl ?_; clear hE a; intro a hE
      refine s_bin hE rfl rfl (show Bin _ _ _ _ _ (.int .i64 ((4 * i : Nat) : Int)) from bin_mul (by rw [wrap_i64 (by omega) (by omega)]; omega)) rfl ?_; clear hE a; intro a hE
      refine s_move hE rfl rfl ?_; clear hE a; intro a hE
      refine s_bin hE rfl rfl (show Bin _ _ _ _ _ (.int .i64 ((4 * i : Nat) : Int)) from bin_mul (by rw [wrap_i64 (by omega) (by omega)]; omega)) rfl ?_; clear hE a; intro a hE
      refine s_bin hE rfl rfl (show Bin _ _ _ _ _ (.int .i64 ((4 * i + 1 : Nat) : Int)) from bin_add (by rw [wrap_i64 (by omega) (by omega)]; omega)) rfl ?_; clear hE a; intro a hE
      refine s_move hE rfl rfl ?_; clear hE a; intro a hE
      refine s_bin hE rfl rfl (show Bin _ _ _ _ _ (.int .i64 ((4 * i : Nat) : Int)) from bin_mul (by rw [wrap_i64 (by omega) (by omega)]; omega)) rfl ?_; clear hE a; intro a hE
      refine s_bin hE rfl rfl (show Bin _ _ _ _ _ (.int .i64 ((4 * i + 2 : Nat) : Int)) from bin_add (by rw [wrap_i64 (by omega) (by omega)]; omega)) rfl ?_; clear hE a; intro a hE
      refine s_move hE rfl rfl ?_; clear hE a; intro a hE
      refine s_bin hE rfl rfl (show Bin _ _ _ _ _ (.int .i64 ((4 * i : Nat) : Int)) from bin_mul (by rw [wrap_i64 (by omega) (by omega)]; omega)) rfl ?_; clear hE a; intro a hE
      refine s_bin hE rfl rfl (show Bin _ _ _ _ _ (.int .i64 ((4 * i + 3 : Nat) : Int)) from bin_add (by rw [wrap_i64 (by omega) (by omega)]; omega)) rfl ?_; clear hE a; intro a hE
      refine s_move hE rfl rfl ?_; clear hE a; intro a hE
      refine s_move hE rfl rfl ?_; clear hE a; intro a hE
      refine s_indexRd (j := i) hE rfl (hM.get 1 rfl) rfl slt110 (by first | rfl | omega) (by first | omega | (simp; omega) | decide) rfl ?_; clear hE a; intro a p50 hE hc50 hp50
      rw [wd_elem (by simp; exact hb34)] at hc50
      refine s_loadAt1 hE rfl hc50 one102 (by intro X h; cases h; intro b hb hx; subst hx; exact hM.notX 0 1 rfl rfl (by decide) _ (.head _) (hp50 _ hb)) rfl ?_; clear hE a; intro a hE
      refine s_bin hE rfl rfl (bin_quo32 (y := 16777216) (by decide)) rfl ?_; clear hE a; intro a hE
      refine s_conv hE rfl (cnv_int Tryd.underlying102 Tryd.underlying5 (wrap_u8_ofNat _)) rfl ?_; clear hE a; intro a hE
      refine s_move hE rfl rfl ?_; clear hE a; intro a hE
      refine s_move hE rfl rfl ?_; clear hE a; intro a hE
      refine s_indexRd (j := i) hE rfl (hM.get 1 rfl) rfl slt110 (by first | rfl | omega) (by first | omega | (simp; omega) | decide) rfl ?_; clear hE a; intro a p56 hE hc56 hp56
      rw [wd_elem (by simp; exact hb34)] at hc56
      refine s_loadAt1 hE rfl hc56 one102 (by intro X h; cases h; intro b hb hx; subst hx; exact hM.notX 0 1 rfl rfl (by decide) _ (.head _) (hp56 _ hb)) rfl ?_; clear hE a; intro a hE
      refine s_bin hE rfl rfl (bin_quo32 (y := 65536) (by decide)) rfl ?_; clear hE a; intro a hE
      refine s_conv hE rfl (cnv_int Tryd.underlying102 Tryd.underlying5 (wrap_u8_ofNat _)) rfl ?_; clear hE a; intro a hE
      refine s_move hE rfl rfl ?_; clear hE a; intro a hE
      refine s_move hE rfl rfl ?_; clear hE a; intro a hE
      refine s_indexRd (j := i) hE rfl (hM.get 1 rfl) rfl slt110 (by first | rfl | omega) (by first | omega | (simp; omega) | decide) rfl ?_; clear hE a; intro a p62 hE hc62 hp62
      rw [wd_elem (by simp; exact hb34)] at hc62
      refine s_loadAt1 hE rfl hc62 one102 (by intro X h; cases h; intro b hb hx; subst hx; exact hM.notX 0 1 rfl rfl (by decide) _ (.head _) (hp62 _ hb)) rfl ?_; clear hE a; intro a hE
      refine s_bin hE rfl rfl (bin_quo32 (y := 256) (by decide)) rfl ?_; clear hE a; intro a hE
      refine s_conv hE rfl (cnv_int Tryd.underlying102 Tryd.underlying5 (wrap_u8_ofNat _)) rfl ?_; clear hE a; intro a hE
      refine s_move hE rfl rfl ?_; clear hE a; intro a hE
      refine s_move hE rfl rfl ?_; clear hE a; intro a hE
      refine s_indexRd (j := i) hE rfl (hM.get 1 rfl) rfl slt110 (by first | rfl | omega) (by first | omega | (simp; omega) | decide) rfl ?_; clear hE a; intro a p68 hE hc68 hp68
      rw [wd_elem (by simp; exact hb34)] at hc68
      refine s_loadAt1 hE rfl hc68 one102 (by intro X h; cases h; intro b hb hx; subst hx; exact hM.notX 0 1 rfl rfl (by decide) _ (.head _) (hp68 _ hb)) rfl ?_; clear hE a; intro a hE
      refine s_conv hE rfl (cnv_int Tryd.underlying102 Tryd.underlying5 (wrap_u8_ofNat _)) rfl ?_; clear hE a; intro a hE
      refine s_indexArr (j := (4 * i)) hE rfl rfl arr34 (by first | rfl | omega) (by first | omega | decide) rfl ?_; clear hE a; intro a hE
      refine s_storeIdx (j := (4 * i)) hE rfl (by omega) rfl hM rfl rfl sz5 (by simp; omega) (by intro X h; cases h; first | (simp; done) | simp [valBlocks]) ?_; intro w11 hM'; clear hM; have hM := hM'; clear hM'
      first | rw [bv_set'] at hM | rw [bv_setI] at hM
      refine s_indexArr (j := (4 * i + 1)) hE rfl rfl arr34 (by first | rfl | omega) (by first | omega | decide) rfl ?_; clear hE a; intro a hE
      refine s_storeIdx (j := (4 * i + 1)) hE rfl (by omega) rfl hM rfl rfl sz5 (by simp; omega) (by intro X h; cases h; first | (simp; done) | simp [valBlocks]) ?_; intro w12 hM'; clear hM; have hM := hM'; clear hM'
      first | rw [bv_set'] at hM | rw [bv_setI] at hM
      refine s_indexArr (j := (4 * i + 2)) hE rfl rfl arr34 (by first | rfl | omega) (by first | omega | decide) rfl ?_; clear hE a; intro a hE
      refine s_storeIdx (j := (4 * i + 2)) hE rfl (by omega) rfl hM rfl rfl sz5 (by simp; omega) (by intro X h; cases h; first | (simp; done) | simp [valBlocks]) ?_; intro w13 hM'; clear hM; have hM := hM'; clear hM'
      first | rw [bv_set'] at hM | rw [bv_setI] at hM
      refine s_indexArr (j := (4 * i + 3)) hE rfl rfl arr34 (by first | rfl | omega) (by first | omega | decide) rfl ?_; clear hE a; intro a hE
      refine q_nil (q_ph ?_)
      refine s_storeIdx (j := (4 * i + 3)) hE rfl (by omega) rfl hM rfl rfl sz5 (by simp; omega) (by intro X h; cases h; first | (simp; done) | simp [valBlocks]) ?_; intro w14 hM'; clear hM; have hM := hM'; clear hM'
      first | rw [bv_set'] at hM | rw [bv_setI] at hM
      refine q_nil ?_
      replace hE : Env a 76 [(2, _), (5, _), (7, _), (8, _), (34, _)] := hE.sel [2, 5, 7, 8, 34] rfl
      refine q_block_n ?_
      refine hK16 _ _ ?_
      refine wp_plain [true, true, true] rfl rfl ?_
      refine s_move hE rfl rfl ?_; clear hE a; intro a hE
      refine s_bin hE rfl rfl (bin_add (wrap_i64 (by omega) (by omega))) rfl ?_; clear hE a; intro a hE
      refine s_assign hE rfl rfl ?_; clear hE a; intro a hE
      refine q_nil ?_
      replace hE : Env a 76 [(2, _), (5, _), (7, _), (8, _), (34, _)] := hE.sel [2, 5, 7, 8, 34] rfl
      replace hE := hE.cast 8 rfl (show _ = Value.int .i64 ((i + 1 : Nat) : Int) from congrArg _ (by omega))
      rw [set4 (by simp) hb34, ← bytes4] at hM
      exact ⟨i + 1, ⟨by omega, hE.sel [2, 5, 7, 8] rfl, hM⟩, by omega⟩
    · replace hE := hE'; clear hE'
      replace hb34 := of_decide_eq_false hb34
      replace hb34 : ¬ (i < 8) := by omega
      obtain rfl : i = 8 := by omega
      refine wp_cond_false (hE.eval rfl) ?_
      refine wp_exit ?_
      refine q_then_e ?_
      refine q_then_e ?_
      refine q_block_x ?_
      refine hK12 _ _ ?_
      refine wp_seq_k (fun K16 hK16 => ?_)
      refine wp_plain [true, false] rfl rfl ?_
      refine s_loadN hE rfl (hM.get 0 rfl) row34 rfl (by intro X h; cases h) rfl ?_; clear hE a; intro a hE
      replace hM : Mem _ _ w9 [_, _, _] := hM.pick [2, 0, 1] rfl
      refine s_storeSeg 0 hE rfl rfl hM rfl sz34 (by simp) (bv_one _) rfl (by simp) rfl (by intro X h; cases h) ?_; intro w10 hM'; clear hM; have hM := hM'; clear hM'
      simp only [List.set_cons_zero, List.set_cons_succ] at hM
      refine q_nil ?_
      replace hE : Env a 76 [(2, _), (5, _), (7, _), (8, _), (34, _)] := hE.sel [2, 5, 7, 8, 34] rfl
      refine hK16 _ _ ?_
      refine wp_ret ?_
      refine f_ret1 hE rfl (res_cellN rfl (hM.get 0 rfl) row34 rfl) ?_
      exact ⟨by rw [sha_whole, show List.replicate (32 - 4 * 8) (0 : UInt8) = [] from rfl, List.append_nil], hM.nil⟩
theorem rblock_c (v : Value) (key : List UInt8) (c : Nat) (w : World) (hr : (rd v 1 key.length c (bv key)).holds w) (hk : key.length ≤ 1099511627776) : Calls Tryd.prog 54 #[v] w fun e w' => ∃ v', e = .returned v' ∧ Mem w [] w' [own v' 1 64 (bv (blockW key))] := by
  have hM := Mem.startR1 hr rfl
  refine f_enter 31 Tryd.func54 rfl rfl rfl ?_
  intro a hE
  replace hE : Env a 31 [(0, _)] := hE
  refine wp_seq_k (fun K1 hK1 => ?_)
  refine wp_plain [true] rfl rfl ?_
  refine s_assign hE rfl rfl ?_; clear hE a; intro a hE
  refine q_nil ?_
  refine hK1 _ _ ?_
  refine wp_seq_k (fun K2 hK2 => ?_)
  refine wp_plain [true] rfl rfl ?_
  refine s_assign hE rfl rfl ?_; clear hE a; intro a hE
  replace hM := hM.addNil 1
  refine q_nil ?_
  refine hK2 _ _ ?_
  refine wp_seq_k (fun K3 hK3 => ?_)
  refine wp_seq_k (fun K4 hK4 => ?_)
  refine wp_plain [true, true, true] rfl rfl ?_
  refine s_move hE rfl rfl ?_; clear hE a; intro a hE
  refine s_len hE rfl Tryd.underlying82 (rd_slice (hM.get 1 rfl)) rfl ?_; clear hE a; intro a hE
  refine s_bin hE rfl rfl bin_gtr rfl ?_; clear hE a; intro a hE
  refine q_nil ?_
  replace hE : Env a 31 [(0, _), (2, _), (3, _), (8, _)] := hE.sel [0, 2, 3, 8] rfl
  refine hK4 _ _ ?_
  refine hE.split 8 rfl (fun hb8 hE' => ?_) (fun hb8 hE' => ?_)
  · replace hE := hE'; clear hE'
    replace hb8 := of_decide_eq_true hb8
    replace hb8 : 64 < key.length := by omega
    refine wp_cond_true (hE.eval rfl) ?_
    refine wp_seq_k (fun K5 hK5 => ?_)
    refine wp_plain [true, false, false, false] rfl rfl ?_
    refine s_move hE rfl rfl ?_; clear hE a; intro a hE
    refine s_call hE rfl Tryd.call55 (rsha_c v key c _ (hM.get 1 rfl) hk) rfl ?_
    rintro e w1 ⟨rfl, hN⟩
    refine ⟨_, rfl, trivial, ?_⟩; clear hE a; intro a hE
    replace hM : Mem _ _ w1 [_, _] := hM.call0 hN trivial; clear hN
    refine s_alloc [32] hE hM zero34 rfl rfl ?_; clear hE a; intro a b4 w2 hE hM'
    clear hM; have hM := hM'; clear hM'
    refine s_storeSeg 0 hE rfl rfl hM rfl sz34 (by simp) (bv_one _) rfl (by simp) rfl (by intro X h; cases h) ?_; intro w3 hM'; clear hM; have hM := hM'; clear hM'
    simp only [List.set_cons_zero, List.set_cons_succ] at hM
    refine q_nil ?_
    replace hE : Env a 31 [(0, _), (2, _), (3, _), (4, _), (8, _)] := hE.sel [0, 2, 3, 4, 8] rfl
    refine hK5 _ _ ?_
    refine wp_seq_k (fun K6 hK6 => ?_)
    refine wp_plain [true] rfl rfl ?_
    refine s_assign hE rfl rfl ?_; clear hE a; intro a hE
    refine q_nil ?_
    refine hK6 _ _ ?_
    refine wp_block ?_
    replace hM : Mem _ _ w3 [_, _, _] := hM.pick [1, 0, 2] rfl
    replace hM : Mem _ _ w3 [_, _] := hM.pick [0, 1] rfl
    refine c_loop (fun (i : Nat) a w' => i ≤ 32 ∧ ∃ vb, Env a 31 [(3, vb), (4, .pointer (some ⟨b4, 0, none⟩)), (5, .int .i64 (i : Int))] ∧ Mem w [] w' [own vb 1 ((shaW key).take i).length (bv ((shaW key).take i)), blk b4 [bv (shaW key)] [32] 34]) (fun i => 32 - i) 0 ⟨Nat.zero_le _, _, hE.sel [3, 4, 5] rfl, hM⟩ ?_
    clear hE hM a; rintro i a w4 ⟨hi, vb, hE, hM⟩
    refine wp_seq_k (fun K7 hK7 => ?_)
    refine wp_seq_k (fun K8 hK8 => ?_)
    refine wp_plain [true, true] rfl rfl ?_
    refine s_move hE rfl rfl ?_; clear hE a; intro a hE
    refine s_bin hE rfl rfl bin_lss rfl ?_; clear hE a; intro a hE
    refine q_nil ?_
    replace hE : Env a 31 [(3, _), (4, _), (5, _), (12, _)] := hE.sel [3, 4, 5, 12] rfl
    refine hK8 _ _ ?_
    refine hE.split 12 rfl (fun hb12 hE' => ?_) (fun hb12 hE' => ?_)
    · replace hE := hE'; clear hE'
      replace hb12 := of_decide_eq_true hb12
      replace hb12 : i < 32 := by omega
      refine wp_cond_true (hE.eval rfl) ?_
      refine wp_skip ?_
      refine hK7 _ _ ?_
      refine wp_seq_k (fun K9 hK9 => ?_)
      refine wp_block ?_
      refine wp_plain [true, true, true, true, false, false, true] rfl rfl ?_
      refine s_move hE rfl rfl ?_; clear hE a; intro a hE
      refine s_move hE rfl rfl ?_; clear hE a; intro a hE
      refine s_indexArr (j := i) hE rfl rfl arr34 (by first | rfl | omega) (by first | omega | decide) rfl ?_; clear hE a; intro a hE
      refine s_loadIdx (j := i) hE rfl (by omega) (hM.get 1 rfl) (bv_get (by simpa using hb12)) one5 (by intro X h; cases h) rfl ?_; clear hE a; intro a hE
      refine s_buildSlice (xs := [.tmp 18]) (bv [(shaW key).getD i 0]) hE hM sl82 rfl rfl rfl (by intro v hv; simp at hv; subst hv; rfl) rfl rfl rfl rfl ?_; clear hE a; intro a v19 w5 hE hM'
      clear hM; have hM := hM'; clear hM'
      replace hM : Mem _ _ w5 [_, _, _] := hM.pick [1, 0, 2] rfl
      obtain ⟨cy, hy⟩ := own_rd (hM.get 1 rfl)
      refine s_append hE rfl rfl hM sl82 (Src.rd Tryd.underlying82 hy (bv_one _)) (len47 (by simp; omega)) (by simp; omega) (by intro X h; cases h) rfl ?_; clear hE a hy; intro a v20 w6 hE hM'
      clear hM; have hM := hM'; clear hM'
      replace hM : Mem _ _ w6 [_, _] := hM.pick [0, 2] rfl
      replace hM := hM.ownEq (m' := ((shaW key).take (i + 1)).length) (cs' := bv ((shaW key).take (i + 1))) (by simp; omega) (by rw [take_snoc (by simpa using hb12), bv_append])
      refine s_assign hE rfl rfl ?_; clear hE a; intro a hE
      refine q_nil ?_
      replace hE : Env a 31 [(3, _), (4, _), (5, _), (12, _)] := hE.sel [3, 4, 5, 12] rfl
      refine q_block_n ?_
      refine hK9 _ _ ?_
      refine wp_plain [true, true, true] rfl rfl ?_
      refine s_move hE rfl rfl ?_; clear hE a; intro a hE
      refine s_bin hE rfl rfl (bin_add (wrap_i64 (by omega) (by omega))) rfl ?_; clear hE a; intro a hE
      refine s_assign hE rfl rfl ?_; clear hE a; intro a hE
      refine q_nil ?_
      replace hE : Env a 31 [(3, _), (4, _), (5, _), (12, _)] := hE.sel [3, 4, 5, 12] rfl
      replace hE := hE.cast 5 rfl (show _ = Value.int .i64 ((i + 1 : Nat) : Int) from congrArg _ (by omega))
      exact ⟨i + 1, ⟨by omega, _, hE.sel [3, 4, 5] rfl, hM⟩, by omega⟩
    · replace hE := hE'; clear hE'
      replace hb12 := of_decide_eq_false hb12
      replace hb12 : ¬ i < 32 := by omega
      obtain rfl : i = 32 := by omega
      rw [List.take_of_length_le (by simp)] at hM
      refine wp_cond_false (hE.eval rfl) ?_
      refine wp_exit ?_
      refine q_then_e ?_
      refine q_then_e ?_
      refine q_block_x ?_
      refine hK3 _ _ ?_
      refine wp_seq_k (fun K9 hK9 => ?_)
      refine wp_block ?_
      replace hM : Mem _ _ w4 [_] := hM.pick [0] rfl
      have hK : shaW key = if 64 < key.length then shaW key else key := by rw [if_pos hb8]
      have hKl : (shaW key).length ≤ 64 := by first | omega | (simp; done) | (simp; omega)
      refine c_loop (fun (j : Nat) a w' => (shaW key).length + j ≤ 64 ∧ ∃ vb, Env a 31 [(3, vb)] ∧ Mem w [] w' [own vb 1 (shaW key ++ List.replicate j 0).length (bv (shaW key ++ List.replicate j 0))]) (fun j => 64 - (shaW key).length - j) 0 ⟨by omega, _, hE.sel [3] rfl, by simpa using hM⟩ ?_
      clear hE hM a; rintro j a w5 ⟨hj, vb, hE, hM⟩
      refine wp_seq_k (fun K10 hK10 => ?_)
      refine wp_seq_k (fun K11 hK11 => ?_)
      refine wp_plain [true, true, true] rfl rfl ?_
      refine s_move hE rfl rfl ?_; clear hE a; intro a hE
      refine s_len hE rfl Tryd.underlying82 (own_slice (hM.get 0 rfl)) rfl ?_; clear hE a; intro a hE
      refine s_bin hE rfl rfl bin_lss rfl ?_; clear hE a; intro a hE
      refine q_nil ?_
      replace hE : Env a 31 [(3, _), (26, _)] := hE.sel [3, 26] rfl
      refine hK11 _ _ ?_
      refine hE.split 26 rfl (fun hb26 hE' => ?_) (fun hb26 hE' => ?_)
      · replace hE := hE'; clear hE'
        replace hb26 := of_decide_eq_true hb26
        simp only [List.length_append, List.length_replicate] at hb26
        replace hb26 : (shaW key).length + j < 64 := by omega
        refine wp_cond_true (hE.eval rfl) ?_
        refine wp_skip ?_
        refine hK10 _ _ ?_
        refine wp_block ?_
        refine wp_plain [true, false, false, true] rfl rfl ?_
        refine s_move hE rfl rfl ?_; clear hE a; intro a hE
        refine s_buildSlice (xs := [.const (.int .u8 0)]) (bv [0]) hE hM sl82 rfl rfl rfl (by intro v hv; simp at hv; subst hv; rfl) rfl rfl rfl rfl ?_; clear hE a; intro a v28 w6 hE hM'
        clear hM; have hM := hM'; clear hM'
        replace hM : Mem _ _ w6 [_, _] := hM.pick [1, 0] rfl
        obtain ⟨cy, hy⟩ := own_rd (hM.get 1 rfl)
        refine s_append hE rfl rfl hM sl82 (Src.rd Tryd.underlying82 hy (bv_one _)) (len47 (by simp; omega)) (by simp; omega) (by intro X h; cases h) rfl ?_; clear hE a hy; intro a v29 w7 hE hM'
        clear hM; have hM := hM'; clear hM'
        replace hM : Mem _ _ w7 [_] := hM.pick [0] rfl
        replace hM := hM.ownEq (m' := (shaW key ++ List.replicate (j + 1) 0).length) (cs' := bv (shaW key ++ List.replicate (j + 1) 0)) (by simp; omega) (by rw [rep_snoc]; exact (bv_append _ _).symm)
        refine s_assign hE rfl rfl ?_; clear hE a; intro a hE
        refine q_nil ?_
        replace hE : Env a 31 [(3, _), (26, _)] := hE.sel [3, 26] rfl
        refine q_block_n ?_
        exact ⟨j + 1, ⟨by omega, _, hE.sel [3] rfl, hM⟩, by omega⟩
      · replace hE := hE'; clear hE'
        replace hb26 := of_decide_eq_false hb26
        simp only [List.length_append, List.length_replicate] at hb26
        replace hb26 : (shaW key).length + j = 64 := by omega
        rw [blockW_end hK hb26] at hM
        replace hM := hM.ownEq (m' := 64) (cs' := bv (blockW key)) (blockW_length key) rfl
        refine wp_cond_false (hE.eval rfl) ?_
        refine wp_exit ?_
        refine q_then_e ?_
        refine q_then_e ?_
        refine q_block_x ?_
        refine hK9 _ _ ?_
        refine wp_seq_k (fun K12 hK12 => ?_)
        refine wp_plain [true, true] rfl rfl ?_
        refine s_move hE rfl rfl ?_; clear hE a; intro a hE
        refine s_assign hE rfl rfl ?_; clear hE a; intro a hE
        refine q_nil ?_
        replace hE : Env a 31 [(2, _), (3, _), (26, _)] := hE.sel [2, 3, 26] rfl
        refine hK12 _ _ ?_
        refine wp_ret ?_
        refine f_ret1 hE rfl rfl ?_
        exact ⟨_, rfl, hM⟩
  · replace hE := hE'; clear hE'
    replace hb8 := of_decide_eq_false hb8
    replace hb8 : ¬ 64 < key.length := by omega
    refine wp_cond_false (hE.eval rfl) ?_
    refine wp_plain [true, true, false, true] rfl rfl ?_
    refine s_move hE rfl rfl ?_; clear hE a; intro a hE
    refine s_move hE rfl rfl ?_; clear hE a; intro a hE
    have hy := hM.get 1 rfl
    refine s_append hE rfl rfl hM sl82 (Src.rd Tryd.underlying82 hy (bv_one _)) (len47 (by omega)) (by omega) (by intro X h; cases h) rfl ?_; clear hE a hy; intro a v23 w1 hE hM'
    clear hM; have hM := hM'; clear hM'
    replace hM := hM.ownEq (m' := key.length) (cs' := bv key) (by omega) rfl
    refine s_assign hE rfl rfl ?_; clear hE a; intro a hE
    refine q_nil ?_
    replace hE : Env a 31 [(0, _), (2, _), (3, _), (8, _)] := hE.sel [0, 2, 3, 8] rfl
    refine hK3 _ _ ?_
    refine wp_seq_k (fun K5 hK5 => ?_)
    refine wp_block ?_
    replace hM : Mem _ _ w1 [_] := hM.pick [0] rfl
    have hK : key = if 64 < key.length then shaW key else key := by rw [if_neg hb8]
    have hKl : (key).length ≤ 64 := by first | omega | (simp; done) | (simp; omega)
    refine c_loop (fun (j : Nat) a w' => (key).length + j ≤ 64 ∧ ∃ vb, Env a 31 [(3, vb)] ∧ Mem w [] w' [own vb 1 (key ++ List.replicate j 0).length (bv (key ++ List.replicate j 0))]) (fun j => 64 - (key).length - j) 0 ⟨by omega, _, hE.sel [3] rfl, by simpa using hM⟩ ?_
    clear hE hM a; rintro j a w2 ⟨hj, vb, hE, hM⟩
    refine wp_seq_k (fun K6 hK6 => ?_)
    refine wp_seq_k (fun K7 hK7 => ?_)
    refine wp_plain [true, true, true] rfl rfl ?_
    refine s_move hE rfl rfl ?_; clear hE a; intro a hE
    refine s_len hE rfl Tryd.underlying82 (own_slice (hM.get 0 rfl)) rfl ?_; clear hE a; intro a hE
    refine s_bin hE rfl rfl bin_lss rfl ?_; clear hE a; intro a hE
    refine q_nil ?_
    replace hE : Env a 31 [(3, _), (26, _)] := hE.sel [3, 26] rfl
    refine hK7 _ _ ?_
    refine hE.split 26 rfl (fun hb26 hE' => ?_) (fun hb26 hE' => ?_)
    · replace hE := hE'; clear hE'
      replace hb26 := of_decide_eq_true hb26
      simp only [List.length_append, List.length_replicate] at hb26
      replace hb26 : (key).length + j < 64 := by omega
      refine wp_cond_true (hE.eval rfl) ?_
      refine wp_skip ?_
      refine hK6 _ _ ?_
      refine wp_block ?_
      refine wp_plain [true, false, false, true] rfl rfl ?_
      refine s_move hE rfl rfl ?_; clear hE a; intro a hE
      refine s_buildSlice (xs := [.const (.int .u8 0)]) (bv [0]) hE hM sl82 rfl rfl rfl (by intro v hv; simp at hv; subst hv; rfl) rfl rfl rfl rfl ?_; clear hE a; intro a v28 w3 hE hM'
      clear hM; have hM := hM'; clear hM'
      replace hM : Mem _ _ w3 [_, _] := hM.pick [1, 0] rfl
      obtain ⟨cy, hy⟩ := own_rd (hM.get 1 rfl)
      refine s_append hE rfl rfl hM sl82 (Src.rd Tryd.underlying82 hy (bv_one _)) (len47 (by simp; omega)) (by simp; omega) (by intro X h; cases h) rfl ?_; clear hE a hy; intro a v29 w4 hE hM'
      clear hM; have hM := hM'; clear hM'
      replace hM : Mem _ _ w4 [_] := hM.pick [0] rfl
      replace hM := hM.ownEq (m' := (key ++ List.replicate (j + 1) 0).length) (cs' := bv (key ++ List.replicate (j + 1) 0)) (by simp; omega) (by rw [rep_snoc]; exact (bv_append _ _).symm)
      refine s_assign hE rfl rfl ?_; clear hE a; intro a hE
      refine q_nil ?_
      replace hE : Env a 31 [(3, _), (26, _)] := hE.sel [3, 26] rfl
      refine q_block_n ?_
      exact ⟨j + 1, ⟨by omega, _, hE.sel [3] rfl, hM⟩, by omega⟩
    · replace hE := hE'; clear hE'
      replace hb26 := of_decide_eq_false hb26
      simp only [List.length_append, List.length_replicate] at hb26
      replace hb26 : (key).length + j = 64 := by omega
      rw [blockW_end hK hb26] at hM
      replace hM := hM.ownEq (m' := 64) (cs' := bv (blockW key)) (blockW_length key) rfl
      refine wp_cond_false (hE.eval rfl) ?_
      refine wp_exit ?_
      refine q_then_e ?_
      refine q_then_e ?_
      refine q_block_x ?_
      refine hK5 _ _ ?_
      refine wp_seq_k (fun K8 hK8 => ?_)
      refine wp_plain [true, true] rfl rfl ?_
      refine s_move hE rfl rfl ?_; clear hE a; intro a hE
      refine s_assign hE rfl rfl ?_; clear hE a; intro a hE
      refine q_nil ?_
      replace hE : Env a 31 [(2, _), (3, _), (26, _)] := hE.sel [2, 3, 26] rfl
      refine hK8 _ _ ?_
      refine wp_ret ?_
      refine f_ret1 hE rfl rfl ?_
      exact ⟨_, rfl, hM⟩
theorem rof_c (v u : Value) (key m : List UInt8) (c cu : Nat) (w : World) (hr : (rd v 1 key.length c (bv key)).holds w) (hu : (rd u 1 m.length cu (bv m)).holds w) (hk : key.length ≤ 1099511627776) (hf : m.length ≤ 549755813888) : Calls Tryd.prog 49 #[v, u] w fun e w' => e = .returned (.agg (bv (hmacW key m)).toArray) ∧ Mem w [] w' [] := by
  have hM := Mem.startR2 hr hu rfl rfl
  refine f_enter 50 Tryd.func49 rfl rfl rfl ?_
  intro a hE
  replace hE : Env a 50 [(0, _), (1, _)] := hE
  refine wp_seq_k (fun K1 hK1 => ?_)
  refine wp_plain [false] rfl rfl ?_
  refine s_alloc [32] hE hM zero34 rfl rfl ?_; clear hE a; intro a b4 w1 hE hM'
  clear hM; have hM := hM'; clear hM'
  refine q_nil ?_
  refine hK1 _ _ ?_
  refine wp_seq_k (fun K2 hK2 => ?_)
  refine wp_plain [true, false, true] rfl rfl ?_
  refine s_move hE rfl rfl ?_; clear hE a; intro a hE
  refine s_call hE rfl Tryd.call54 (rblock_c v key c _ (hM.get 1 rfl) hk) rfl ?_
  rintro e w2 ⟨v12, rfl, hN⟩
  refine ⟨_, rfl, trivial, ?_⟩; clear hE a; intro a hE
  replace hM : Mem _ _ w2 [_, _, _, _] := hM.call0 hN ⟨rfl, trivial⟩; clear hN
  have hbl := blockW_length key
  refine s_assign hE rfl rfl ?_; clear hE a; intro a hE
  refine q_nil ?_
  replace hE : Env a 50 [(1, _), (4, _), (5, _)] := hE.sel [1, 4, 5] rfl
  refine hK2 _ _ ?_
  refine wp_seq_k (fun K3 hK3 => ?_)
  refine wp_plain [true] rfl rfl ?_
  refine s_assign hE rfl rfl ?_; clear hE a; intro a hE
  replace hM := hM.addNil 1
  refine q_nil ?_
  refine hK3 _ _ ?_
  refine wp_seq_k (fun K4 hK4 => ?_)
  refine wp_plain [true] rfl rfl ?_
  refine s_assign hE rfl rfl ?_; clear hE a; intro a hE
  replace hM := hM.addNil 1
  refine q_nil ?_
  refine hK4 _ _ ?_
  refine wp_seq_k (fun K5 hK5 => ?_)
  refine wp_seq_k (fun K6 hK6 => ?_)
  refine wp_plain [true] rfl rfl ?_
  refine s_assign hE rfl rfl ?_; clear hE a; intro a hE
  refine q_nil ?_
  refine hK6 _ _ ?_
  refine wp_block ?_
  replace hM : Mem _ _ w2 [_, _, _, _, _, _] := hM.pick [1, 0, 2, 3, 5, 4] rfl
  replace hM : Mem _ _ w2 [_, _, _, _, _] := hM.pick [0, 1, 2, 3, 4] rfl
  refine c_loop (fun (i : Nat) a w' => i ≤ 64 ∧ ∃ vi vo, Env a 50 [(1, u), (4, .pointer (some ⟨b4, 0, none⟩)), (5, v12), (6, vi), (7, vo), (8, .int .i64 (i : Int))] ∧ Mem w [] w' [own vi 1 (mapI (blockW key) 54 i).length (bv (mapI (blockW key) 54 i)), own vo 1 (mapI (blockW key) 92 i).length (bv (mapI (blockW key) 92 i)), own v12 1 64 (bv (blockW key)), blk b4 [bv (List.replicate 32 0)] [32] 34, rd u 1 m.length cu (bv m)]) (fun i => 64 - i) 0 ⟨Nat.zero_le _, _, _, hE.sel [1, 4, 5, 6, 7, 8] rfl, hM⟩ ?_
  clear hE hM a; rintro i a w3 ⟨hi, vi, vo, hE, hM⟩
  refine wp_seq_k (fun K7 hK7 => ?_)
  refine wp_seq_k (fun K8 hK8 => ?_)
  refine wp_plain [true, true] rfl rfl ?_
  refine s_move hE rfl rfl ?_; clear hE a; intro a hE
  refine s_bin hE rfl rfl bin_lss rfl ?_; clear hE a; intro a hE
  refine q_nil ?_
  replace hE : Env a 50 [(1, _), (4, _), (5, _), (6, _), (7, _), (8, _), (14, _)] := hE.sel [1, 4, 5, 6, 7, 8, 14] rfl
  refine hK8 _ _ ?_
  refine hE.split 14 rfl (fun hb14 hE' => ?_) (fun hb14 hE' => ?_)
  · replace hE := hE'; clear hE'
    replace hb14 := of_decide_eq_true hb14
    replace hb14 : i < 64 := by omega
    refine wp_cond_true (hE.eval rfl) ?_
    refine wp_skip ?_
    refine hK7 _ _ ?_
    refine wp_seq_k (fun K9 hK9 => ?_)
    refine wp_block ?_
    refine wp_seq_k (fun K10 hK10 => ?_)
    refine wp_plain [true, true, true, true, true, true, false, false, true] rfl rfl ?_
    refine s_move hE rfl rfl ?_; clear hE a; intro a hE
    refine s_move hE rfl rfl ?_; clear hE a; intro a hE
    refine s_move hE rfl rfl ?_; clear hE a; intro a hE
    obtain ⟨cx20, hx20⟩ := own_rd (hM.get 2 rfl)
    refine s_indexRd (j := i) hE rfl hx20 rfl slt82 (by first | rfl | omega) (by first | omega | (simp; omega) | decide) rfl ?_; clear hE a; intro a p20 hE hc20 hp20
    rw [bv_elem (by omega)] at hc20
    refine s_loadAt1 hE rfl hc20 one5 (by intro X h; cases h) rfl ?_; clear hE a; intro a hE
    refine s_bin hE rfl rfl (bin_xor8 (y := 54)) rfl ?_; clear hE a; intro a hE
    refine s_buildSlice (xs := [.tmp 22]) (bv [(blockW key).getD i 0 ^^^ 54]) hE hM sl82 rfl rfl rfl (by intro v hv; simp at hv; subst hv; rfl) rfl rfl rfl rfl ?_; clear hE a; intro a v23 w4 hE hM'
    clear hM; have hM := hM'; clear hM'
    have hml := mapI_length (B := blockW key) (x := 54) (i := i) (by omega)
    replace hM : Mem _ _ w4 [_, _, _, _, _, _] := hM.pick [1, 0, 2, 3, 4, 5] rfl
    obtain ⟨cy, hy⟩ := own_rd (hM.get 1 rfl)
    refine s_append hE rfl rfl hM sl82 (Src.rd Tryd.underlying82 hy (bv_one _)) (len47 (by omega)) (by omega) (by intro X h; cases h) rfl ?_; clear hE a hy; intro a v24 w5 hE hM'
    clear hM; have hM := hM'; clear hM'
    replace hM : Mem _ _ w5 [_, _, _, _, _] := hM.pick [0, 2, 3, 4, 5] rfl
    replace hM := hM.ownEq (m' := (mapI (blockW key) 54 (i + 1)).length) (cs' := bv (mapI (blockW key) 54 (i + 1))) (by rw [mapI_succ (by omega)]; simp) (by rw [mapI_succ (by omega), bv_append])
    refine s_assign hE rfl rfl ?_; clear hE a; intro a hE
    refine q_nil ?_
    replace hE : Env a 50 [(1, _), (4, _), (5, _), (6, _), (7, _), (8, _), (14, _)] := hE.sel [1, 4, 5, 6, 7, 8, 14] rfl
    refine hK10 _ _ ?_
    refine wp_plain [true, true, true, true, true, true, false, false, true] rfl rfl ?_
    refine s_move hE rfl rfl ?_; clear hE a; intro a hE
    refine s_move hE rfl rfl ?_; clear hE a; intro a hE
    refine s_move hE rfl rfl ?_; clear hE a; intro a hE
    obtain ⟨cx28, hx28⟩ := own_rd (hM.get 2 rfl)
    refine s_indexRd (j := i) hE rfl hx28 rfl slt82 (by first | rfl | omega) (by first | omega | (simp; omega) | decide) rfl ?_; clear hE a; intro a p28 hE hc28 hp28
    rw [bv_elem (by omega)] at hc28
    refine s_loadAt1 hE rfl hc28 one5 (by intro X h; cases h) rfl ?_; clear hE a; intro a hE
    refine s_bin hE rfl rfl (bin_xor8 (y := 92)) rfl ?_; clear hE a; intro a hE
    refine s_buildSlice (xs := [.tmp 30]) (bv [(blockW key).getD i 0 ^^^ 92]) hE hM sl82 rfl rfl rfl (by intro v hv; simp at hv; subst hv; rfl) rfl rfl rfl rfl ?_; clear hE a; intro a v31 w6 hE hM'
    clear hM; have hM := hM'; clear hM'
    have hml := mapI_length (B := blockW key) (x := 92) (i := i) (by omega)
    replace hM : Mem _ _ w6 [_, _, _, _, _, _] := hM.pick [2, 0, 1, 3, 4, 5] rfl
    obtain ⟨cy, hy⟩ := own_rd (hM.get 1 rfl)
    refine s_append hE rfl rfl hM sl82 (Src.rd Tryd.underlying82 hy (bv_one _)) (len47 (by omega)) (by omega) (by intro X h; cases h) rfl ?_; clear hE a hy; intro a v32 w7 hE hM'
    clear hM; have hM := hM'; clear hM'
    replace hM : Mem _ _ w7 [_, _, _, _, _] := hM.pick [0, 2, 3, 4, 5] rfl
    replace hM := hM.ownEq (m' := (mapI (blockW key) 92 (i + 1)).length) (cs' := bv (mapI (blockW key) 92 (i + 1))) (by rw [mapI_succ (by omega)]; simp) (by rw [mapI_succ (by omega), bv_append])
    refine s_assign hE rfl rfl ?_; clear hE a; intro a hE
    refine q_nil ?_
    replace hE : Env a 50 [(1, _), (4, _), (5, _), (6, _), (7, _), (8, _), (14, _)] := hE.sel [1, 4, 5, 6, 7, 8, 14] rfl
    refine q_block_n ?_
    refine hK9 _ _ ?_
    refine wp_plain [true, true, true] rfl rfl ?_
    refine s_move hE rfl rfl ?_; clear hE a; intro a hE
    refine s_bin hE rfl rfl (bin_add (wrap_i64 (by omega) (by omega))) rfl ?_; clear hE a; intro a hE
    refine s_assign hE rfl rfl ?_; clear hE a; intro a hE
    refine q_nil ?_
    replace hE : Env a 50 [(1, _), (4, _), (5, _), (6, _), (7, _), (8, _), (14, _)] := hE.sel [1, 4, 5, 6, 7, 8, 14] rfl
    replace hE := hE.cast 8 rfl (show _ = Value.int .i64 ((i + 1 : Nat) : Int) from congrArg _ (by omega))
    replace hM : Mem _ _ w7 [_, _, _, _, _] := hM.pick [1, 0, 2, 3, 4] rfl
    exact ⟨i + 1, ⟨by omega, _, _, hE.sel [1, 4, 5, 6, 7, 8] rfl, hM⟩, by omega⟩
  · replace hE := hE'; clear hE'
    replace hb14 := of_decide_eq_false hb14
    replace hb14 : ¬ (i < 64) := by omega
    obtain rfl : i = 64 := by omega
    simp only [mapI_all] at hM
    refine wp_cond_false (hE.eval rfl) ?_
    refine wp_exit ?_
    refine q_then_e ?_
    refine q_then_e ?_
    refine q_block_x ?_
    refine hK5 _ _ ?_
    refine wp_seq_k (fun K9 hK9 => ?_)
    refine wp_plain [true, true, false, true] rfl rfl ?_
    refine s_move hE rfl rfl ?_; clear hE a; intro a hE
    refine s_move hE rfl rfl ?_; clear hE a; intro a hE
    have hy := hM.get 4 rfl
    refine s_append hE rfl rfl hM sl82 (Src.rd Tryd.underlying82 hy (bv_one _)) (len47 (by simp; omega)) (by simp; omega) (by intro X h; cases h) rfl ?_; clear hE a hy; intro a v35 w4 hE hM'
    clear hM; have hM := hM'; clear hM'
    replace hM := hM.ownEq (m' := (padW key 54 ++ m).length) (cs' := bv (padW key 54 ++ m)) (by simp) (by rw [bv_append])
    refine s_assign hE rfl rfl ?_; clear hE a; intro a hE
    refine q_nil ?_
    replace hE : Env a 50 [(4, _), (5, _), (6, _), (7, _), (8, _), (14, _)] := hE.sel [4, 5, 6, 7, 8, 14] rfl
    refine hK9 _ _ ?_
    refine wp_seq_k (fun K10 hK10 => ?_)
    refine wp_plain [true, false, false, false] rfl rfl ?_
    refine s_move hE rfl rfl ?_; clear hE a; intro a hE
    obtain ⟨cl, hl⟩ := own_rd (hM.get 0 rfl)
    refine s_call hE rfl Tryd.call55 (rsha_c _ (padW key 54 ++ m) _ _ hl (by simp only [List.length_append, padW_length]; omega)) rfl ?_
    rintro e w5 ⟨rfl, hN⟩
    refine ⟨_, rfl, trivial, ?_⟩; clear hE a; intro a hE
    replace hM : Mem _ _ w5 [_, _, _, _, _] := hM.call0 hN trivial; clear hN
    refine s_alloc [32] hE hM zero34 rfl rfl ?_; clear hE a; intro a b9 w6 hE hM'
    clear hM; have hM := hM'; clear hM'
    refine s_storeSeg 0 hE rfl rfl hM rfl sz34 (by simp) (bv_one _) rfl (by simp) rfl (by intro X h; cases h) ?_; intro w7 hM'; clear hM; have hM := hM'; clear hM'
    simp only [List.set_cons_zero, List.set_cons_succ] at hM
    refine q_nil ?_
    replace hE : Env a 50 [(4, _), (5, _), (6, _), (7, _), (8, _), (9, _), (14, _)] := hE.sel [4, 5, 6, 7, 8, 9, 14] rfl
    refine hK10 _ _ ?_
    refine wp_seq_k (fun K11 hK11 => ?_)
    refine wp_seq_k (fun K12 hK12 => ?_)
    refine wp_plain [true] rfl rfl ?_
    refine s_assign hE rfl rfl ?_; clear hE a; intro a hE
    refine q_nil ?_
    refine hK12 _ _ ?_
    refine wp_block ?_
    replace hM : Mem _ _ w7 [_, _, _, _, _, _] := hM.pick [2, 0, 4, 1, 3, 5] rfl
    replace hM : Mem _ _ w7 [_, _, _] := hM.pick [0, 1, 2] rfl
    refine c_loop (fun (k : Nat) a w' => k ≤ 32 ∧ ∃ vo, Env a 50 [(4, .pointer (some ⟨b4, 0, none⟩)), (7, vo), (9, .pointer (some ⟨b9, 0, none⟩)), (10, .int .i64 (k : Int))] ∧ Mem w [] w' [own vo 1 (padW key 92 ++ (shaW (padW key 54 ++ m)).take k).length (bv (padW key 92 ++ (shaW (padW key 54 ++ m)).take k)), blk b9 [bv (shaW (padW key 54 ++ m))] [32] 34, blk b4 [bv (List.replicate 32 0)] [32] 34]) (fun k => 32 - k) 0 ⟨Nat.zero_le _, _, hE.sel [4, 7, 9, 10] rfl, by simpa using hM⟩ ?_
    clear hE hM a; rintro k a w8 ⟨hk2, vo, hE, hM⟩
    refine wp_seq_k (fun K13 hK13 => ?_)
    refine wp_seq_k (fun K14 hK14 => ?_)
    refine wp_plain [true, true] rfl rfl ?_
    refine s_move hE rfl rfl ?_; clear hE a; intro a hE
    refine s_bin hE rfl rfl bin_lss rfl ?_; clear hE a; intro a hE
    refine q_nil ?_
    replace hE : Env a 50 [(4, _), (7, _), (9, _), (10, _), (39, _)] := hE.sel [4, 7, 9, 10, 39] rfl
    refine hK14 _ _ ?_
    refine hE.split 39 rfl (fun hb39 hE' => ?_) (fun hb39 hE' => ?_)
    · replace hE := hE'; clear hE'
      replace hb39 := of_decide_eq_true hb39
      replace hb39 : k < 32 := by omega
      refine wp_cond_true (hE.eval rfl) ?_
      refine wp_skip ?_
      refine hK13 _ _ ?_
      refine wp_seq_k (fun K15 hK15 => ?_)
      refine wp_block ?_
      refine wp_plain [true, true, true, true, false, false, true] rfl rfl ?_
      refine s_move hE rfl rfl ?_; clear hE a; intro a hE
      refine s_move hE rfl rfl ?_; clear hE a; intro a hE
      refine s_indexArr (j := k) hE rfl rfl arr34 (by first | rfl | omega) (by first | omega | decide) rfl ?_; clear hE a; intro a hE
      refine s_loadIdx (j := k) hE rfl (by omega) (hM.get 1 rfl) (bv_get (by simpa using hb39)) one5 (by intro X h; cases h) rfl ?_; clear hE a; intro a hE
      refine s_buildSlice (xs := [.tmp 45]) (bv [(shaW (padW key 54 ++ m)).getD k 0]) hE hM sl82 rfl rfl rfl (by intro v hv; simp at hv; subst hv; rfl) rfl rfl rfl rfl ?_; clear hE a; intro a v46 w9 hE hM'
      clear hM; have hM := hM'; clear hM'
      replace hM : Mem _ _ w9 [_, _, _, _] := hM.pick [1, 0, 2, 3] rfl
      obtain ⟨cy, hy⟩ := own_rd (hM.get 1 rfl)
      refine s_append hE rfl rfl hM sl82 (Src.rd Tryd.underlying82 hy (bv_one _)) (len47 (by simp; omega)) (by simp; omega) (by intro X h; cases h) rfl ?_; clear hE a hy; intro a v47 w10 hE hM'
      clear hM; have hM := hM'; clear hM'
      replace hM : Mem _ _ w10 [_, _, _] := hM.pick [0, 2, 3] rfl
      replace hM := hM.ownEq (m' := (padW key 92 ++ (shaW (padW key 54 ++ m)).take (k + 1)).length) (cs' := bv (padW key 92 ++ (shaW (padW key 54 ++ m)).take (k + 1))) (by simp; omega) (by rw [take_snoc (by simpa using hb39), ← List.append_assoc]; exact (bv_append _ _).symm)
      refine s_assign hE rfl rfl ?_; clear hE a; intro a hE
      refine q_nil ?_
      replace hE : Env a 50 [(4, _), (7, _), (9, _), (10, _), (39, _)] := hE.sel [4, 7, 9, 10, 39] rfl
      refine q_block_n ?_
      refine hK15 _ _ ?_
      refine wp_plain [true, true, true] rfl rfl ?_
      refine s_move hE rfl rfl ?_; clear hE a; intro a hE
      refine s_bin hE rfl rfl (bin_add (wrap_i64 (by omega) (by omega))) rfl ?_; clear hE a; intro a hE
      refine s_assign hE rfl rfl ?_; clear hE a; intro a hE
      refine q_nil ?_
      replace hE : Env a 50 [(4, _), (7, _), (9, _), (10, _), (39, _)] := hE.sel [4, 7, 9, 10, 39] rfl
      replace hE := hE.cast 10 rfl (show _ = Value.int .i64 ((k + 1 : Nat) : Int) from congrArg _ (by omega))
      exact ⟨k + 1, ⟨by omega, _, hE.sel [4, 7, 9, 10] rfl, hM⟩, by omega⟩
    · replace hE := hE'; clear hE'
      replace hb39 := of_decide_eq_false hb39
      replace hb39 : ¬ (k < 32) := by omega
      obtain rfl : k = 32 := by omega
      rw [List.take_of_length_le (by simp)] at hM
      refine wp_cond_false (hE.eval rfl) ?_
      refine wp_exit ?_
      refine q_then_e ?_
      refine q_then_e ?_
      refine q_block_x ?_
      refine hK11 _ _ ?_
      refine wp_seq_k (fun K15 hK15 => ?_)
      refine wp_plain [true, false, false] rfl rfl ?_
      refine s_move hE rfl rfl ?_; clear hE a; intro a hE
      obtain ⟨cl, hl⟩ := own_rd (hM.get 0 rfl)
      refine s_call hE rfl Tryd.call55 (rsha_c _ (padW key 92 ++ shaW (padW key 54 ++ m)) _ _ hl (by simp)) rfl ?_
      rintro e w9 ⟨rfl, hN⟩
      refine ⟨_, rfl, trivial, ?_⟩; clear hE a; intro a hE
      replace hM : Mem _ _ w9 [_, _, _] := hM.call0 hN trivial; clear hN
      replace hM : Mem _ _ w9 [_, _, _] := hM.pick [2, 0, 1] rfl
      refine s_storeSeg 0 hE rfl rfl hM rfl sz34 (by simp) (bv_one _) rfl (by simp) rfl (by intro X h; cases h) ?_; intro w10 hM'; clear hM; have hM := hM'; clear hM'
      simp only [List.set_cons_zero, List.set_cons_succ] at hM
      refine q_nil ?_
      replace hE : Env a 50 [(4, _), (7, _), (9, _), (10, _), (39, _)] := hE.sel [4, 7, 9, 10, 39] rfl
      refine hK15 _ _ ?_
      refine wp_ret ?_
      refine f_ret1 hE rfl (res_cellN rfl (hM.get 0 rfl) row34 rfl) ?_
      exact ⟨rfl, hM.nil⟩
end Go.Proofs.YtacebdngbalkmaaDoor
