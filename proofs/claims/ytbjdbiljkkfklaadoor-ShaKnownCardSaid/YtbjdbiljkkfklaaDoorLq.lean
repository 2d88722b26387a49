/- Walks of functions of the given program that the claim reaches. -/
import Derived.Test.YtbjdbiljkkfklaaDoorLp
set_option linter.unusedSimpArgs false
set_option linter.unusedVariables false
namespace Go.Proofs.YtbjdbiljkkfklaaDoor
open Go Go.Kx Go.RowKit

theorem lower_c (c : UInt8) (w : World)  : Calls Tryd.prog 70 #[.int .u8 (c.toNat : Int)] w fun e w' => e = .returned (.int .u8 ((c ||| 32).toNat : Int)) ∧ Mem w [] w' [] := by
  have hM := Mem.start0 w
  refine f_enter 5 Tryd.func70 rfl rfl rfl ?_
  intro a hE
  replace hE : Env a 5 [(0, _)] := hE
  refine wp_seq_k (fun K1 hK1 => ?_)
  refine wp_plain [true] rfl rfl ?_
  refine s_assign hE rfl rfl ?_; clear hE a; intro a hE
  refine q_nil ?_
  refine hK1 _ _ ?_
  refine wp_seq_k (fun K2 hK2 => ?_)
  refine wp_plain [true, true, true] rfl rfl ?_
  refine s_move hE rfl rfl ?_; clear hE a; intro a hE
  refine s_bin hE rfl rfl (bin_or8 (x := c) (y := 32)) rfl ?_; clear hE a; intro a hE
  refine s_assign hE rfl rfl ?_; clear hE a; intro a hE
  refine q_nil ?_
  replace hE : Env a 5 [(2, _)] := hE.sel [2] rfl
  refine hK2 _ _ ?_
  refine wp_ret ?_
  refine f_ret1 hE rfl rfl ?_
  exact ⟨(by first | rfl | (simp; done)), hM.pick [] rfl⟩
set_option maxHeartbeats 4000000 in
theorem ipu_c (c1 c2 : UInt8) (w : World)  : Calls Tryd.prog 60 #[.string (str [c1, c2]), .int .i64 16, .int .i64 8] w fun e w' => e = .returned (.tuple #[.int .u64 ((puV c1 c2 : Nat) : Int), puI 98 c1 c2]) ∧ Mem w [] w' [] := by
  have hM := Mem.start0 w
  refine f_enter 172 Tryd.func60 rfl rfl rfl ?_
  intro a hE
  replace hE : Env a 172 [(0, _), (1, _), (2, _)] := hE
  refine wp_seq_k (fun K1 hK1 => ?_)
  refine wp_plain [true, true] rfl rfl ?_
  refine s_assign hE rfl rfl ?_; clear hE a; intro a hE
  refine s_assign hE rfl rfl ?_; clear hE a; intro a hE
  refine q_nil ?_
  refine hK1 _ _ ?_
  refine wp_seq_k (fun K2 hK2 => ?_)
  refine wp_seq_k (fun K3 hK3 => ?_)
  refine wp_plain [true, true] rfl rfl ?_
  refine s_move hE rfl rfl ?_; clear hE a; intro a hE
  refine s_bin hE rfl rfl bins_str.1 rfl ?_; clear hE a; intro a hE
  refine q_nil ?_
  replace hE : Env a 172 [(0, _), (1, _), (2, _), (6, _), (7, _), (19, _)] := hE.sel [0, 1, 2, 6, 7, 19] rfl
  refine hK3 _ _ ?_
  replace hE := hE.cast 19 rfl (show _ = Value.bool false from (congrArg Value.bool (by simp)))
  refine wp_cond_false (hE.eval rfl) ?_
  refine wp_skip ?_
  refine hK2 _ _ ?_
  refine wp_seq_k (fun K4 hK4 => ?_)
  refine wp_plain [true, true, true] rfl rfl ?_
  refine s_move hE rfl rfl ?_; clear hE a; intro a hE
  refine s_bin hE rfl rfl bin_eql rfl ?_; clear hE a; intro a hE
  replace hE := hE.cast 22 rfl (show _ = Value.bool false from (congrArg Value.bool (by decide)))
  refine s_assign hE rfl rfl ?_; clear hE a; intro a hE
  refine q_nil ?_
  replace hE : Env a 172 [(0, _), (1, _), (2, _), (6, _), (7, _), (8, _), (19, _)] := hE.sel [0, 1, 2, 6, 7, 8, 19] rfl
  refine hK4 _ _ ?_
  refine wp_seq_k (fun K5 hK5 => ?_)
  refine wp_plain [true, true] rfl rfl ?_
  refine s_move hE rfl rfl ?_; clear hE a; intro a hE
  refine s_assign hE rfl rfl ?_; clear hE a; intro a hE
  refine q_nil ?_
  replace hE : Env a 172 [(0, _), (1, _), (2, _), (6, _), (7, _), (8, _), (9, _), (19, _)] := hE.sel [0, 1, 2, 6, 7, 8, 9, 19] rfl
  refine hK5 _ _ ?_
  refine wp_seq_k (fun K6 hK6 => ?_)
  refine wp_block ?_
  refine wp_seq_k (fun K7 hK7 => ?_)
  refine wp_plain [true, true, true, true, true, true, true] rfl rfl ?_
  refine s_move hE rfl rfl ?_; clear hE a; intro a hE
  refine s_bin hE rfl rfl bin_leq rfl ?_; clear hE a; intro a hE
  replace hE := hE.cast 27 rfl (show _ = Value.bool true from (congrArg Value.bool (by decide)))
  refine s_move hE rfl rfl ?_; clear hE a; intro a hE
  refine g_yes hE rfl rfl ?_
  refine s_move hE rfl rfl ?_; clear hE a; intro a hE
  refine g_yes hE rfl rfl ?_
  refine s_bin hE rfl rfl bin_leq rfl ?_; clear hE a; intro a hE
  replace hE := hE.cast 30 rfl (show _ = Value.bool true from (congrArg Value.bool (by decide)))
  refine s_pickt hE rfl rfl rfl ?_; clear hE a; intro a hE
  refine s_assign hE rfl rfl ?_; clear hE a; intro a hE
  refine q_nil ?_
  replace hE : Env a 172 [(0, _), (1, _), (2, _), (6, _), (7, _), (8, _), (9, _), (19, _), (25, _)] := hE.sel [0, 1, 2, 6, 7, 8, 9, 19, 25] rfl
  refine hK7 _ _ ?_
  refine wp_cond_true (hE.eval rfl) ?_
  refine wp_skip ?_
  refine q_block_n ?_
  refine hK6 _ _ ?_
  refine wp_seq_k (fun K8 hK8 => ?_)
  refine wp_seq_k (fun K9 hK9 => ?_)
  refine wp_plain [true, true] rfl rfl ?_
  refine s_move hE rfl rfl ?_; clear hE a; intro a hE
  refine s_bin hE rfl rfl bin_eql rfl ?_; clear hE a; intro a hE
  replace hE := hE.cast 77 rfl (show _ = Value.bool false from (congrArg Value.bool (by decide)))
  refine q_nil ?_
  replace hE : Env a 172 [(0, _), (1, _), (2, _), (6, _), (7, _), (8, _), (9, _), (19, _), (25, _), (77, _)] := hE.sel [0, 1, 2, 6, 7, 8, 9, 19, 25, 77] rfl
  refine hK9 _ _ ?_
  refine wp_cond_false (hE.eval rfl) ?_
  refine wp_seq_k (fun K10 hK10 => ?_)
  refine wp_plain [true, true, true, true, true, true] rfl rfl ?_
  refine s_move hE rfl rfl ?_; clear hE a; intro a hE
  refine s_bin hE rfl rfl bin_lss rfl ?_; clear hE a; intro a hE
  replace hE := hE.cast 79 rfl (show _ = Value.bool false from (congrArg Value.bool (by decide)))
  refine s_move hE rfl rfl ?_; clear hE a; intro a hE
  refine g_yes hE rfl rfl ?_
  refine s_move hE rfl rfl ?_; clear hE a; intro a hE
  refine g_yes hE rfl rfl ?_
  refine s_bin hE rfl rfl bin_gtr rfl ?_; clear hE a; intro a hE
  replace hE := hE.cast 82 rfl (show _ = Value.bool false from (congrArg Value.bool (by decide)))
  refine s_pickf hE rfl rfl rfl ?_; clear hE a; intro a hE
  refine q_nil ?_
  replace hE : Env a 172 [(0, _), (1, _), (2, _), (6, _), (7, _), (8, _), (9, _), (19, _), (25, _), (77, _), (83, _)] := hE.sel [0, 1, 2, 6, 7, 8, 9, 19, 25, 77, 83] rfl
  refine hK10 _ _ ?_
  refine wp_cond_false (hE.eval rfl) ?_
  refine wp_skip ?_
  refine hK8 _ _ ?_
  refine wp_seq_k (fun K11 hK11 => ?_)
  refine wp_plain [true] rfl rfl ?_
  refine s_assign hE rfl rfl ?_; clear hE a; intro a hE
  refine q_nil ?_
  refine hK11 _ _ ?_
  refine wp_seq_k (fun K12 hK12 => ?_)
  refine wp_seq_k (fun K13 hK13 => ?_)
  refine wp_plain [true] rfl rfl ?_
  refine s_move hE rfl rfl ?_; clear hE a; intro a hE
  refine q_nil ?_
  refine hK13 _ _ ?_
  refine wp_block ?_
  refine wp_seq_k (fun K14 hK14 => ?_)
  refine wp_plain [true, true] rfl rfl ?_
  refine s_bin hE rfl rfl bin_eql rfl ?_; clear hE a; intro a hE
  replace hE := hE.cast 91 rfl (show _ = Value.bool false from (congrArg Value.bool (by decide)))
  refine s_assign hE rfl rfl ?_; clear hE a; intro a hE
  refine q_nil ?_
  replace hE : Env a 172 [(0, _), (1, _), (2, _), (6, _), (7, _), (8, _), (9, _), (10, _), (19, _), (25, _), (77, _), (83, _), (85, _), (90, _)] := hE.sel [0, 1, 2, 6, 7, 8, 9, 10, 19, 25, 77, 83, 85, 90] rfl
  refine hK14 _ _ ?_
  refine wp_cond_false (hE.eval rfl) ?_
  refine wp_seq_k (fun K15 hK15 => ?_)
  refine wp_plain [true, true] rfl rfl ?_
  refine s_bin hE rfl rfl bin_eql rfl ?_; clear hE a; intro a hE
  replace hE := hE.cast 93 rfl (show _ = Value.bool true from (congrArg Value.bool (by decide)))
  refine s_assign hE rfl rfl ?_; clear hE a; intro a hE
  refine q_nil ?_
  replace hE : Env a 172 [(0, _), (1, _), (2, _), (6, _), (7, _), (8, _), (9, _), (10, _), (19, _), (25, _), (77, _), (83, _), (85, _), (90, _), (92, _)] := hE.sel [0, 1, 2, 6, 7, 8, 9, 10, 19, 25, 77, 83, 85, 90, 92] rfl
  refine hK15 _ _ ?_
  refine wp_cond_true (hE.eval rfl) ?_
  refine wp_plain [true] rfl rfl ?_
  refine s_assign hE rfl rfl ?_; clear hE a; intro a hE
  refine q_nil ?_
  refine q_block_n ?_
  refine hK12 _ _ ?_
  refine wp_seq_k (fun K16 hK16 => ?_)
  refine wp_plain [true, true, true, true, true] rfl rfl ?_
  refine s_move hE rfl rfl ?_; clear hE a; intro a hE
  refine s_conv hE rfl (cnv_int Tryd.underlying3 Tryd.underlying97 (wrap_u64 (by omega) (by omega))) rfl ?_; clear hE a; intro a hE
  refine s_bin hE rfl rfl (show Bin _ _ _ _ _ (.int .u64 256) from bin_shl_nat (m := 1) (s := 8) rfl (by decide) (by decide)) rfl ?_; clear hE a; intro a hE
  refine s_bin hE rfl rfl (show Bin _ _ _ _ _ (.int .u64 255) from bin_sub (by rw [wrap_u64 (by omega) (by omega)]; omega)) rfl ?_; clear hE a; intro a hE
  refine s_assign hE rfl rfl ?_; clear hE a; intro a hE
  refine q_nil ?_
  replace hE : Env a 172 [(0, _), (1, _), (2, _), (6, _), (7, _), (8, _), (9, _), (10, _), (11, _), (19, _), (25, _), (77, _), (83, _), (85, _), (90, _), (92, _)] := hE.sel [0, 1, 2, 6, 7, 8, 9, 10, 11, 19, 25, 77, 83, 85, 90, 92] rfl
  refine hK16 _ _ ?_
  refine wp_seq_k (fun K17 hK17 => ?_)
  refine wp_plain [true] rfl rfl ?_
  refine s_assign hE rfl rfl ?_; clear hE a; intro a hE
  refine q_nil ?_
  refine hK17 _ _ ?_
  refine wp_seq_k (fun K18 hK18 => ?_)
  refine wp_plain [true] rfl rfl ?_
  refine s_assign hE rfl rfl ?_; clear hE a; intro a hE
  refine q_nil ?_
  refine hK18 _ _ ?_
  refine wp_seq_k (fun K19 hK19 => ?_)
  refine wp_seq_k (fun K20 hK20 => ?_)
  refine wp_plain [true, false, true, true] rfl rfl ?_
  refine s_move hE rfl rfl ?_; clear hE a; intro a hE
  refine s_ofStr hE rfl hM Tryd.underlying9 Tryd.underlying23 Tryd.underlying5 (len47 (by have hl_ : [c1, c2].length = 2 := rfl; first | (simp only [str_size]; omega) | omega | decide | (simp; done) | (simp; omega))) rfl ?_; clear hE a; intro a v99 w1 hE hM'; clear hM; have hM := hM'; clear hM'
  replace hM := hM.ownEq (m' := [c1, c2].length) (cs' := bv [c1, c2]) (by first | rfl | simp | decide | kernel_rfl) (by first | rfl | simp | kernel_rfl)
  refine s_len hE rfl Tryd.underlying23 (own_slice (hM.get 0 rfl)) rfl ?_; clear hE a; intro a hE
  replace hE := hE.cast 100 rfl (show _ = Value.int .i64 ((2 : Nat) : Int) from (congrArg (fun n : Nat => Value.int .i64 (n : Int)) rfl))
  refine s_move hE rfl rfl ?_; clear hE a; intro a hE
  refine q_nil ?_
  replace hE : Env a 172 [(0, _), (1, _), (2, _), (6, _), (7, _), (8, _), (9, _), (10, _), (11, _), (12, _), (13, _), (19, _), (25, _), (77, _), (83, _), (85, _), (90, _), (92, _), (99, _), (100, _), (101, _)] := hE.sel [0, 1, 2, 6, 7, 8, 9, 10, 11, 12, 13, 19, 25, 77, 83, 85, 90, 92, 99, 100, 101] rfl
  refine hK20 _ _ ?_
  refine wp_block ?_
  refine wp_loop_rounds 3 (c_rounds ?_)
  refine wp_seq_k (fun K21 hK21 => ?_)
  refine wp_plain [true] rfl rfl ?_
  refine s_bin hE rfl rfl bin_lss rfl ?_; clear hE a; intro a hE
  replace hE := hE.cast 102 rfl (show _ = Value.bool true from (congrArg Value.bool (by decide)))
  refine q_nil ?_
  refine hK21 _ _ ?_
  refine wp_seq_k (fun K22 hK22 => ?_)
  refine wp_cond_true (hE.eval rfl) ?_
  refine wp_skip ?_
  refine hK22 _ _ ?_
  refine wp_seq_k (fun K23 hK23 => ?_)
  refine wp_block ?_
  refine wp_seq_k (fun K24 hK24 => ?_)
  refine wp_plain [true, true, true] rfl rfl ?_
  obtain ⟨cx103, hx103⟩ := own_rd (hM.get 0 rfl)
  refine s_indexRd (j := 0) hE rfl hx103 rfl slt23 (by first | rfl | omega) (by have hl_ : [c1, c2].length = 2 := rfl; first | omega | (rw [bv_length]; omega) | (simp; omega)) rfl ?_; clear hE a; intro a p103 hE hc103 hp103
  rw [bv_elem (by have hl_ : [c1, c2].length = 2 := rfl; first | omega | (rw [bv_length]; omega) | (simp; omega))] at hc103
  refine s_loadAt1 hE rfl hc103 one5 (by intro X h; cases h) rfl ?_; clear hE a; intro a hE
  refine s_assign hE rfl rfl ?_; clear hE a; intro a hE
  refine q_nil ?_
  replace hE : Env a 172 [(0, _), (1, _), (2, _), (6, _), (7, _), (8, _), (9, _), (10, _), (11, _), (12, _), (13, _), (15, _), (19, _), (25, _), (77, _), (83, _), (85, _), (90, _), (92, _), (99, _), (100, _), (101, _), (102, _)] := hE.sel [0, 1, 2, 6, 7, 8, 9, 10, 11, 12, 13, 15, 19, 25, 77, 83, 85, 90, 92, 99, 100, 101, 102] rfl
  refine hK24 _ _ ?_
  refine wp_seq_k (fun K25 hK25 => ?_)
  refine wp_plain [true] rfl rfl ?_
  refine s_assign hE rfl rfl ?_; clear hE a; intro a hE
  replace hE := hE.cast 15 rfl (show _ = Value.int .u8 (c1.toNat : Int) from rfl)
  rcases dg_cases c1 with ⟨ha1, hd1, hx1⟩ | ⟨ha1, hu1, hl1, hd1⟩ | ⟨ha1, hl1, hx1⟩ | ⟨ha1, hl1, hx1⟩ | ⟨ha1, hl1, hx1⟩ | ⟨ha1, hl1, hx1⟩
  · refine q_nil ?_
    refine hK25 _ _ ?_
    refine wp_seq_k (fun K26 hK26 => ?_)
    refine wp_block ?_
    refine wp_seq_k (fun K27 hK27 => ?_)
    refine wp_plain [true, true, true, true, true, true] rfl rfl ?_
    refine s_move hE rfl rfl ?_; clear hE a; intro a hE
    refine s_bin hE rfl rfl bin_eql rfl ?_; clear hE a; intro a hE
    refine s_move hE rfl rfl ?_; clear hE a; intro a hE
    replace hE := hE.cast 109 rfl (show _ = Value.bool false from (congrArg Value.bool (decide_eq_false (by omega))))
    refine g_no (b := false) hE rfl rfl rfl ?_; clear hE a; intro a hE
    refine s_pickf hE rfl rfl rfl ?_; clear hE a; intro a hE
    refine s_assign hE rfl rfl ?_; clear hE a; intro a hE
    refine q_nil ?_
    replace hE : Env a 172 [(0, _), (1, _), (2, _), (6, _), (7, _), (8, _), (9, _), (10, _), (11, _), (12, _), (13, _), (15, _), (16, _), (19, _), (25, _), (77, _), (83, _), (85, _), (90, _), (92, _), (99, _), (100, _), (101, _), (102, _), (106, _)] := hE.sel [0, 1, 2, 6, 7, 8, 9, 10, 11, 12, 13, 15, 16, 19, 25, 77, 83, 85, 90, 92, 99, 100, 101, 102, 106] rfl
    refine hK27 _ _ ?_
    refine wp_cond_false (hE.eval rfl) ?_
    refine wp_seq_k (fun K28 hK28 => ?_)
    refine wp_plain [true, true, true, true, true, true, true] rfl rfl ?_
    refine s_move hE rfl rfl ?_; clear hE a; intro a hE
    refine s_bin hE rfl rfl bin_leq rfl ?_; clear hE a; intro a hE
    refine s_move hE rfl rfl ?_; clear hE a; intro a hE
    replace hE := hE.cast 115 rfl (show _ = Value.bool true from (congrArg Value.bool (decide_eq_true (by omega))))
    refine g_yes hE rfl rfl ?_
    refine s_move hE rfl rfl ?_; clear hE a; intro a hE
    refine g_yes hE rfl rfl ?_
    refine s_bin hE rfl rfl bin_leq rfl ?_; clear hE a; intro a hE
    refine s_pickt hE rfl rfl rfl ?_; clear hE a; intro a hE
    refine s_assign hE rfl rfl ?_; clear hE a; intro a hE
    refine q_nil ?_
    replace hE : Env a 172 [(0, _), (1, _), (2, _), (6, _), (7, _), (8, _), (9, _), (10, _), (11, _), (12, _), (13, _), (15, _), (16, _), (19, _), (25, _), (77, _), (83, _), (85, _), (90, _), (92, _), (99, _), (100, _), (101, _), (102, _), (106, _), (112, _)] := hE.sel [0, 1, 2, 6, 7, 8, 9, 10, 11, 12, 13, 15, 16, 19, 25, 77, 83, 85, 90, 92, 99, 100, 101, 102, 106, 112] rfl
    refine hK28 _ _ ?_
    replace hE := hE.cast 112 rfl (show _ = Value.bool true from (congrArg Value.bool (decide_eq_true (by omega))))
    refine wp_cond_true (hE.eval rfl) ?_
    refine wp_plain [true, true, true] rfl rfl ?_
    refine s_move hE rfl rfl ?_; clear hE a; intro a hE
    refine s_bin hE rfl rfl (bin_sub_u8 (b := c1) (c := 48)) rfl ?_; clear hE a; intro a hE
    refine s_assign hE rfl rfl ?_; clear hE a; intro a hE
    refine q_nil ?_
    replace hE : Env a 172 [(0, _), (1, _), (2, _), (6, _), (7, _), (8, _), (9, _), (10, _), (11, _), (12, _), (13, _), (15, _), (16, _), (19, _), (25, _), (77, _), (83, _), (85, _), (90, _), (92, _), (99, _), (100, _), (101, _), (102, _), (106, _), (112, _)] := hE.sel [0, 1, 2, 6, 7, 8, 9, 10, 11, 12, 13, 15, 16, 19, 25, 77, 83, 85, 90, 92, 99, 100, 101, 102, 106, 112] rfl
    refine q_block_n ?_
    refine hK26 _ _ ?_
    refine wp_seq_k (fun K29 hK29 => ?_)
    refine wp_seq_k (fun K30 hK30 => ?_)
    refine wp_plain [true, true, true, true] rfl rfl ?_
    refine s_move hE rfl rfl ?_; clear hE a; intro a hE
    refine s_move hE rfl rfl ?_; clear hE a; intro a hE
    refine s_conv hE rfl (cnv_int Tryd.underlying3 Tryd.underlying5 ((show IntKind.u8.wrap 16 = 16 by decide))) rfl ?_; clear hE a; intro a hE
    refine s_bin hE rfl rfl bin_geq rfl ?_; clear hE a; intro a hE
    refine q_nil ?_
    replace hE : Env a 172 [(0, _), (1, _), (2, _), (6, _), (7, _), (8, _), (9, _), (10, _), (11, _), (12, _), (13, _), (15, _), (16, _), (19, _), (25, _), (77, _), (83, _), (85, _), (90, _), (92, _), (99, _), (100, _), (101, _), (102, _), (106, _), (112, _), (137, _)] := hE.sel [0, 1, 2, 6, 7, 8, 9, 10, 11, 12, 13, 15, 16, 19, 25, 77, 83, 85, 90, 92, 99, 100, 101, 102, 106, 112, 137] rfl
    refine hK30 _ _ ?_
    replace hE := hE.cast 137 rfl (show _ = Value.bool false from (congrArg Value.bool (decide_eq_false (by omega))))
    refine wp_cond_false (hE.eval rfl) ?_
    refine wp_skip ?_
    refine hK29 _ _ ?_
    refine wp_seq_k (fun K31 hK31 => ?_)
    refine wp_seq_k (fun K32 hK32 => ?_)
    refine wp_plain [true, true, true] rfl rfl ?_
    refine s_move hE rfl rfl ?_; clear hE a; intro a hE
    refine s_move hE rfl rfl ?_; clear hE a; intro a hE
    refine s_bin hE rfl rfl bin_geq rfl ?_; clear hE a; intro a hE
    replace hE := hE.cast 141 rfl (show _ = Value.bool false from (congrArg Value.bool (by decide)))
    refine q_nil ?_
    replace hE : Env a 172 [(0, _), (1, _), (2, _), (6, _), (7, _), (8, _), (9, _), (10, _), (11, _), (12, _), (13, _), (15, _), (16, _), (19, _), (25, _), (77, _), (83, _), (85, _), (90, _), (92, _), (99, _), (100, _), (101, _), (102, _), (106, _), (112, _), (137, _), (141, _)] := hE.sel [0, 1, 2, 6, 7, 8, 9, 10, 11, 12, 13, 15, 16, 19, 25, 77, 83, 85, 90, 92, 99, 100, 101, 102, 106, 112, 137, 141] rfl
    refine hK32 _ _ ?_
    refine wp_cond_false (hE.eval rfl) ?_
    refine wp_skip ?_
    refine hK31 _ _ ?_
    refine wp_seq_k (fun K33 hK33 => ?_)
    refine wp_plain [true, true, true, true, true] rfl rfl ?_
    refine s_move hE rfl rfl ?_; clear hE a; intro a hE
    refine s_move hE rfl rfl ?_; clear hE a; intro a hE
    refine s_conv hE rfl (cnv_int Tryd.underlying3 Tryd.underlying69 (wrap_u64 (by omega) (by omega))) rfl ?_; clear hE a; intro a hE
    refine s_bin hE rfl rfl (show Bin _ _ _ _ _ (.int .u64 0) from bin_mul (by rw [wrap_u64 (by omega) (by omega)]; omega)) rfl ?_; clear hE a; intro a hE
    refine s_assign hE rfl rfl ?_; clear hE a; intro a hE
    refine q_nil ?_
    replace hE : Env a 172 [(0, _), (1, _), (2, _), (6, _), (7, _), (8, _), (9, _), (10, _), (11, _), (12, _), (13, _), (15, _), (16, _), (19, _), (25, _), (77, _), (83, _), (85, _), (90, _), (92, _), (99, _), (100, _), (101, _), (102, _), (106, _), (112, _), (137, _), (141, _)] := hE.sel [0, 1, 2, 6, 7, 8, 9, 10, 11, 12, 13, 15, 16, 19, 25, 77, 83, 85, 90, 92, 99, 100, 101, 102, 106, 112, 137, 141] rfl
    refine hK33 _ _ ?_
    refine wp_seq_k (fun K34 hK34 => ?_)
    refine wp_plain [true, true, true, true, true] rfl rfl ?_
    refine s_move hE rfl rfl ?_; clear hE a; intro a hE
    refine s_move hE rfl rfl ?_; clear hE a; intro a hE
    refine s_conv hE rfl (cnv_int Tryd.underlying5 Tryd.underlying69 (wrap_u64 (by omega) (by have := (c1 - 48 : UInt8).toNat_lt; omega))) rfl ?_; clear hE a; intro a hE
    refine s_bin hE rfl rfl (show Bin _ _ _ _ _ (.int .u64 ((0 + ((c1 - 48).toNat) : Nat) : Int)) from bin_add (by rw [wrap_u64 (by omega) (by omega)]; omega)) rfl ?_; clear hE a; intro a hE
    refine s_assign hE rfl rfl ?_; clear hE a; intro a hE
    refine q_nil ?_
    replace hE : Env a 172 [(0, _), (1, _), (2, _), (6, _), (7, _), (8, _), (9, _), (10, _), (11, _), (12, _), (13, _), (15, _), (16, _), (17, _), (19, _), (25, _), (77, _), (83, _), (85, _), (90, _), (92, _), (99, _), (100, _), (101, _), (102, _), (106, _), (112, _), (137, _), (141, _)] := hE.sel [0, 1, 2, 6, 7, 8, 9, 10, 11, 12, 13, 15, 16, 17, 19, 25, 77, 83, 85, 90, 92, 99, 100, 101, 102, 106, 112, 137, 141] rfl
    refine hK34 _ _ ?_
    refine wp_seq_k (fun K35 hK35 => ?_)
    refine wp_seq_k (fun K36 hK36 => ?_)
    refine wp_plain [true, true, true, true, true, true, true, true] rfl rfl ?_
    refine s_move hE rfl rfl ?_; clear hE a; intro a hE
    refine s_move hE rfl rfl ?_; clear hE a; intro a hE
    refine s_bin hE rfl rfl bin_lss rfl ?_; clear hE a; intro a hE
    refine s_move hE rfl rfl ?_; clear hE a; intro a hE
    replace hE := hE.cast 155 rfl (show _ = Value.bool false from (congrArg Value.bool (decide_eq_false (by omega))))
    refine g_yes hE rfl rfl ?_
    refine s_move hE rfl rfl ?_; clear hE a; intro a hE
    refine g_yes hE rfl rfl ?_
    refine s_move hE rfl rfl ?_; clear hE a; intro a hE
    refine g_yes hE rfl rfl ?_
    refine s_bin hE rfl rfl bin_gtr rfl ?_; clear hE a; intro a hE
    refine s_pickf hE rfl rfl rfl ?_; clear hE a; intro a hE
    refine q_nil ?_
    replace hE : Env a 172 [(0, _), (1, _), (2, _), (6, _), (7, _), (8, _), (9, _), (10, _), (11, _), (12, _), (13, _), (15, _), (16, _), (17, _), (19, _), (25, _), (77, _), (83, _), (85, _), (90, _), (92, _), (99, _), (100, _), (101, _), (102, _), (106, _), (112, _), (137, _), (141, _), (159, _)] := hE.sel [0, 1, 2, 6, 7, 8, 9, 10, 11, 12, 13, 15, 16, 17, 19, 25, 77, 83, 85, 90, 92, 99, 100, 101, 102, 106, 112, 137, 141, 159] rfl
    refine hK36 _ _ ?_
    replace hE := hE.cast 159 rfl (show _ = Value.bool false from (congrArg Value.bool (decide_eq_false (by omega))))
    refine wp_cond_false (hE.eval rfl) ?_
    refine wp_skip ?_
    refine hK35 _ _ ?_
    refine wp_plain [true, true] rfl rfl ?_
    refine s_move hE rfl rfl ?_; clear hE a; intro a hE
    refine s_assign hE rfl rfl ?_; clear hE a; intro a hE
    refine q_nil ?_
    replace hE : Env a 172 [(0, _), (1, _), (2, _), (6, _), (7, _), (8, _), (9, _), (10, _), (11, _), (12, _), (13, _), (15, _), (16, _), (17, _), (19, _), (25, _), (77, _), (83, _), (85, _), (90, _), (92, _), (99, _), (100, _), (101, _), (102, _), (106, _), (112, _), (137, _), (141, _), (159, _)] := hE.sel [0, 1, 2, 6, 7, 8, 9, 10, 11, 12, 13, 15, 16, 17, 19, 25, 77, 83, 85, 90, 92, 99, 100, 101, 102, 106, 112, 137, 141, 159] rfl
    refine q_block_n ?_
    refine hK23 _ _ ?_
    refine wp_plain [true, true] rfl rfl ?_
    refine s_bin hE rfl rfl (show Bin _ _ _ _ _ (.int .i64 1) from bin_add (by rw [wrap_i64 (by omega) (by omega)]; omega)) rfl ?_; clear hE a; intro a hE
    refine s_move hE rfl rfl ?_; clear hE a; intro a hE
    refine q_nil ?_
    replace hE : Env a 172 [(0, _), (1, _), (2, _), (6, _), (7, _), (8, _), (9, _), (10, _), (11, _), (12, _), (13, _), (15, _), (16, _), (17, _), (19, _), (25, _), (77, _), (83, _), (85, _), (90, _), (92, _), (99, _), (100, _), (101, _), (102, _), (106, _), (112, _), (137, _), (141, _), (159, _)] := hE.sel [0, 1, 2, 6, 7, 8, 9, 10, 11, 12, 13, 15, 16, 17, 19, 25, 77, 83, 85, 90, 92, 99, 100, 101, 102, 106, 112, 137, 141, 159] rfl
    replace hM : Mem _ _ w1 [_] := hM.pick [0] rfl
    refine q_then_n (c_rounds ?_)
    refine wp_seq_k (fun K37 hK37 => ?_)
    refine wp_plain [true] rfl rfl ?_
    refine s_bin hE rfl rfl bin_lss rfl ?_; clear hE a; intro a hE
    replace hE := hE.cast 102 rfl (show _ = Value.bool true from (congrArg Value.bool (by decide)))
    refine q_nil ?_
    refine hK37 _ _ ?_
    refine wp_seq_k (fun K38 hK38 => ?_)
    refine wp_cond_true (hE.eval rfl) ?_
    refine wp_skip ?_
    refine hK38 _ _ ?_
    refine wp_seq_k (fun K39 hK39 => ?_)
    refine wp_block ?_
    refine wp_seq_k (fun K40 hK40 => ?_)
    refine wp_plain [true, true, true] rfl rfl ?_
    obtain ⟨cx103, hx103⟩ := own_rd (hM.get 0 rfl)
    refine s_indexRd (j := 1) hE rfl hx103 rfl slt23 (by first | rfl | omega) (by have hl_ : [c1, c2].length = 2 := rfl; first | omega | (rw [bv_length]; omega) | (simp; omega)) rfl ?_; clear hE a; intro a p103 hE hc103 hp103
    rw [bv_elem (by have hl_ : [c1, c2].length = 2 := rfl; first | omega | (rw [bv_length]; omega) | (simp; omega))] at hc103
    refine s_loadAt1 hE rfl hc103 one5 (by intro X h; cases h) rfl ?_; clear hE a; intro a hE
    refine s_assign hE rfl rfl ?_; clear hE a; intro a hE
    refine q_nil ?_
    replace hE : Env a 172 [(0, _), (1, _), (2, _), (6, _), (7, _), (8, _), (9, _), (10, _), (11, _), (12, _), (13, _), (15, _), (16, _), (17, _), (19, _), (25, _), (77, _), (83, _), (85, _), (90, _), (92, _), (99, _), (100, _), (101, _), (102, _), (106, _), (112, _), (137, _), (141, _), (159, _)] := hE.sel [0, 1, 2, 6, 7, 8, 9, 10, 11, 12, 13, 15, 16, 17, 19, 25, 77, 83, 85, 90, 92, 99, 100, 101, 102, 106, 112, 137, 141, 159] rfl
    refine hK40 _ _ ?_
    refine wp_seq_k (fun K41 hK41 => ?_)
    refine wp_plain [true] rfl rfl ?_
    refine s_assign hE rfl rfl ?_; clear hE a; intro a hE
    replace hE := hE.cast 15 rfl (show _ = Value.int .u8 (c2.toNat : Int) from rfl)
    rcases dg_cases c2 with ⟨ha2, hd2, hx2⟩ | ⟨ha2, hu2, hl2, hd2⟩ | ⟨ha2, hl2, hx2⟩ | ⟨ha2, hl2, hx2⟩ | ⟨ha2, hl2, hx2⟩ | ⟨ha2, hl2, hx2⟩
    · refine q_nil ?_
      refine hK41 _ _ ?_
      refine wp_seq_k (fun K42 hK42 => ?_)
      refine wp_block ?_
      refine wp_seq_k (fun K43 hK43 => ?_)
      refine wp_plain [true, true, true, true, true, true] rfl rfl ?_
      refine s_move hE rfl rfl ?_; clear hE a; intro a hE
      refine s_bin hE rfl rfl bin_eql rfl ?_; clear hE a; intro a hE
      refine s_move hE rfl rfl ?_; clear hE a; intro a hE
      replace hE := hE.cast 109 rfl (show _ = Value.bool false from (congrArg Value.bool (decide_eq_false (by omega))))
      refine g_no (b := false) hE rfl rfl rfl ?_; clear hE a; intro a hE
      refine s_pickf hE rfl rfl rfl ?_; clear hE a; intro a hE
      refine s_assign hE rfl rfl ?_; clear hE a; intro a hE
      refine q_nil ?_
      replace hE : Env a 172 [(0, _), (1, _), (2, _), (6, _), (7, _), (8, _), (9, _), (10, _), (11, _), (12, _), (13, _), (15, _), (16, _), (17, _), (19, _), (25, _), (77, _), (83, _), (85, _), (90, _), (92, _), (99, _), (100, _), (101, _), (102, _), (106, _), (112, _), (137, _), (141, _), (159, _)] := hE.sel [0, 1, 2, 6, 7, 8, 9, 10, 11, 12, 13, 15, 16, 17, 19, 25, 77, 83, 85, 90, 92, 99, 100, 101, 102, 106, 112, 137, 141, 159] rfl
      refine hK43 _ _ ?_
      refine wp_cond_false (hE.eval rfl) ?_
      refine wp_seq_k (fun K44 hK44 => ?_)
      refine wp_plain [true, true, true, true, true, true, true] rfl rfl ?_
      refine s_move hE rfl rfl ?_; clear hE a; intro a hE
      refine s_bin hE rfl rfl bin_leq rfl ?_; clear hE a; intro a hE
      refine s_move hE rfl rfl ?_; clear hE a; intro a hE
      replace hE := hE.cast 115 rfl (show _ = Value.bool true from (congrArg Value.bool (decide_eq_true (by omega))))
      refine g_yes hE rfl rfl ?_
      refine s_move hE rfl rfl ?_; clear hE a; intro a hE
      refine g_yes hE rfl rfl ?_
      refine s_bin hE rfl rfl bin_leq rfl ?_; clear hE a; intro a hE
      refine s_pickt hE rfl rfl rfl ?_; clear hE a; intro a hE
      refine s_assign hE rfl rfl ?_; clear hE a; intro a hE
      refine q_nil ?_
      replace hE : Env a 172 [(0, _), (1, _), (2, _), (6, _), (7, _), (8, _), (9, _), (10, _), (11, _), (12, _), (13, _), (15, _), (16, _), (17, _), (19, _), (25, _), (77, _), (83, _), (85, _), (90, _), (92, _), (99, _), (100, _), (101, _), (102, _), (106, _), (112, _), (137, _), (141, _), (159, _)] := hE.sel [0, 1, 2, 6, 7, 8, 9, 10, 11, 12, 13, 15, 16, 17, 19, 25, 77, 83, 85, 90, 92, 99, 100, 101, 102, 106, 112, 137, 141, 159] rfl
      refine hK44 _ _ ?_
      replace hE := hE.cast 112 rfl (show _ = Value.bool true from (congrArg Value.bool (decide_eq_true (by omega))))
      refine wp_cond_true (hE.eval rfl) ?_
      refine wp_plain [true, true, true] rfl rfl ?_
      refine s_move hE rfl rfl ?_; clear hE a; intro a hE
      refine s_bin hE rfl rfl (bin_sub_u8 (b := c2) (c := 48)) rfl ?_; clear hE a; intro a hE
      refine s_assign hE rfl rfl ?_; clear hE a; intro a hE
      refine q_nil ?_
      replace hE : Env a 172 [(0, _), (1, _), (2, _), (6, _), (7, _), (8, _), (9, _), (10, _), (11, _), (12, _), (13, _), (15, _), (16, _), (17, _), (19, _), (25, _), (77, _), (83, _), (85, _), (90, _), (92, _), (99, _), (100, _), (101, _), (102, _), (106, _), (112, _), (137, _), (141, _), (159, _)] := hE.sel [0, 1, 2, 6, 7, 8, 9, 10, 11, 12, 13, 15, 16, 17, 19, 25, 77, 83, 85, 90, 92, 99, 100, 101, 102, 106, 112, 137, 141, 159] rfl
      refine q_block_n ?_
      refine hK42 _ _ ?_
      refine wp_seq_k (fun K45 hK45 => ?_)
      refine wp_seq_k (fun K46 hK46 => ?_)
      refine wp_plain [true, true, true, true] rfl rfl ?_
      refine s_move hE rfl rfl ?_; clear hE a; intro a hE
      refine s_move hE rfl rfl ?_; clear hE a; intro a hE
      refine s_conv hE rfl (cnv_int Tryd.underlying3 Tryd.underlying5 ((show IntKind.u8.wrap 16 = 16 by decide))) rfl ?_; clear hE a; intro a hE
      refine s_bin hE rfl rfl bin_geq rfl ?_; clear hE a; intro a hE
      refine q_nil ?_
      replace hE : Env a 172 [(0, _), (1, _), (2, _), (6, _), (7, _), (8, _), (9, _), (10, _), (11, _), (12, _), (13, _), (15, _), (16, _), (17, _), (19, _), (25, _), (77, _), (83, _), (85, _), (90, _), (92, _), (99, _), (100, _), (101, _), (102, _), (106, _), (112, _), (137, _), (141, _), (159, _)] := hE.sel [0, 1, 2, 6, 7, 8, 9, 10, 11, 12, 13, 15, 16, 17, 19, 25, 77, 83, 85, 90, 92, 99, 100, 101, 102, 106, 112, 137, 141, 159] rfl
      refine hK46 _ _ ?_
      replace hE := hE.cast 137 rfl (show _ = Value.bool false from (congrArg Value.bool (decide_eq_false (by omega))))
      refine wp_cond_false (hE.eval rfl) ?_
      refine wp_skip ?_
      refine hK45 _ _ ?_
      refine wp_seq_k (fun K47 hK47 => ?_)
      refine wp_seq_k (fun K48 hK48 => ?_)
      refine wp_plain [true, true, true] rfl rfl ?_
      refine s_move hE rfl rfl ?_; clear hE a; intro a hE
      refine s_move hE rfl rfl ?_; clear hE a; intro a hE
      refine s_bin hE rfl rfl bin_geq rfl ?_; clear hE a; intro a hE
      refine q_nil ?_
      replace hE : Env a 172 [(0, _), (1, _), (2, _), (6, _), (7, _), (8, _), (9, _), (10, _), (11, _), (12, _), (13, _), (15, _), (16, _), (17, _), (19, _), (25, _), (77, _), (83, _), (85, _), (90, _), (92, _), (99, _), (100, _), (101, _), (102, _), (106, _), (112, _), (137, _), (141, _), (159, _)] := hE.sel [0, 1, 2, 6, 7, 8, 9, 10, 11, 12, 13, 15, 16, 17, 19, 25, 77, 83, 85, 90, 92, 99, 100, 101, 102, 106, 112, 137, 141, 159] rfl
      refine hK48 _ _ ?_
      replace hE := hE.cast 141 rfl (show _ = Value.bool false from (congrArg Value.bool (decide_eq_false (by omega))))
      refine wp_cond_false (hE.eval rfl) ?_
      refine wp_skip ?_
      refine hK47 _ _ ?_
      refine wp_seq_k (fun K49 hK49 => ?_)
      refine wp_plain [true, true, true, true, true] rfl rfl ?_
      refine s_move hE rfl rfl ?_; clear hE a; intro a hE
      refine s_move hE rfl rfl ?_; clear hE a; intro a hE
      refine s_conv hE rfl (cnv_int Tryd.underlying3 Tryd.underlying69 (wrap_u64 (by omega) (by omega))) rfl ?_; clear hE a; intro a hE
      refine s_bin hE rfl rfl (show Bin _ _ _ _ _ (.int .u64 (((0 + ((c1 - 48).toNat)) * 16 : Nat) : Int)) from bin_mul (by rw [wrap_u64 (by omega) (by omega)]; omega)) rfl ?_; clear hE a; intro a hE
      refine s_assign hE rfl rfl ?_; clear hE a; intro a hE
      refine q_nil ?_
      replace hE : Env a 172 [(0, _), (1, _), (2, _), (6, _), (7, _), (8, _), (9, _), (10, _), (11, _), (12, _), (13, _), (15, _), (16, _), (17, _), (19, _), (25, _), (77, _), (83, _), (85, _), (90, _), (92, _), (99, _), (100, _), (101, _), (102, _), (106, _), (112, _), (137, _), (141, _), (159, _)] := hE.sel [0, 1, 2, 6, 7, 8, 9, 10, 11, 12, 13, 15, 16, 17, 19, 25, 77, 83, 85, 90, 92, 99, 100, 101, 102, 106, 112, 137, 141, 159] rfl
      refine hK49 _ _ ?_
      refine wp_seq_k (fun K50 hK50 => ?_)
      refine wp_plain [true, true, true, true, true] rfl rfl ?_
      refine s_move hE rfl rfl ?_; clear hE a; intro a hE
      refine s_move hE rfl rfl ?_; clear hE a; intro a hE
      refine s_conv hE rfl (cnv_int Tryd.underlying5 Tryd.underlying69 (wrap_u64 (by omega) (by have := (c2 - 48 : UInt8).toNat_lt; omega))) rfl ?_; clear hE a; intro a hE
      refine s_bin hE rfl rfl (show Bin _ _ _ _ _ (.int .u64 ((((0 + ((c1 - 48).toNat)) * 16) + ((c2 - 48).toNat) : Nat) : Int)) from bin_add (by rw [wrap_u64 (by omega) (by omega)]; omega)) rfl ?_; clear hE a; intro a hE
      refine s_assign hE rfl rfl ?_; clear hE a; intro a hE
      refine q_nil ?_
      replace hE : Env a 172 [(0, _), (1, _), (2, _), (6, _), (7, _), (8, _), (9, _), (10, _), (11, _), (12, _), (13, _), (15, _), (16, _), (17, _), (19, _), (25, _), (77, _), (83, _), (85, _), (90, _), (92, _), (99, _), (100, _), (101, _), (102, _), (106, _), (112, _), (137, _), (141, _), (159, _)] := hE.sel [0, 1, 2, 6, 7, 8, 9, 10, 11, 12, 13, 15, 16, 17, 19, 25, 77, 83, 85, 90, 92, 99, 100, 101, 102, 106, 112, 137, 141, 159] rfl
      refine hK50 _ _ ?_
      refine wp_seq_k (fun K51 hK51 => ?_)
      refine wp_seq_k (fun K52 hK52 => ?_)
      refine wp_plain [true, true, true, true, true, true, true, true] rfl rfl ?_
      refine s_move hE rfl rfl ?_; clear hE a; intro a hE
      refine s_move hE rfl rfl ?_; clear hE a; intro a hE
      refine s_bin hE rfl rfl bin_lss rfl ?_; clear hE a; intro a hE
      refine s_move hE rfl rfl ?_; clear hE a; intro a hE
      replace hE := hE.cast 155 rfl (show _ = Value.bool false from (congrArg Value.bool (decide_eq_false (by omega))))
      refine g_yes hE rfl rfl ?_
      refine s_move hE rfl rfl ?_; clear hE a; intro a hE
      refine g_yes hE rfl rfl ?_
      refine s_move hE rfl rfl ?_; clear hE a; intro a hE
      refine g_yes hE rfl rfl ?_
      refine s_bin hE rfl rfl bin_gtr rfl ?_; clear hE a; intro a hE
      refine s_pickf hE rfl rfl rfl ?_; clear hE a; intro a hE
      refine q_nil ?_
      replace hE : Env a 172 [(0, _), (1, _), (2, _), (6, _), (7, _), (8, _), (9, _), (10, _), (11, _), (12, _), (13, _), (15, _), (16, _), (17, _), (19, _), (25, _), (77, _), (83, _), (85, _), (90, _), (92, _), (99, _), (100, _), (101, _), (102, _), (106, _), (112, _), (137, _), (141, _), (159, _)] := hE.sel [0, 1, 2, 6, 7, 8, 9, 10, 11, 12, 13, 15, 16, 17, 19, 25, 77, 83, 85, 90, 92, 99, 100, 101, 102, 106, 112, 137, 141, 159] rfl
      refine hK52 _ _ ?_
      replace hE := hE.cast 159 rfl (show _ = Value.bool false from (congrArg Value.bool (decide_eq_false (by omega))))
      refine wp_cond_false (hE.eval rfl) ?_
      refine wp_skip ?_
      refine hK51 _ _ ?_
      refine wp_plain [true, true] rfl rfl ?_
      refine s_move hE rfl rfl ?_; clear hE a; intro a hE
      refine s_assign hE rfl rfl ?_; clear hE a; intro a hE
      refine q_nil ?_
      replace hE : Env a 172 [(0, _), (1, _), (2, _), (6, _), (7, _), (8, _), (9, _), (10, _), (11, _), (12, _), (13, _), (15, _), (16, _), (17, _), (19, _), (25, _), (77, _), (83, _), (85, _), (90, _), (92, _), (99, _), (100, _), (101, _), (102, _), (106, _), (112, _), (137, _), (141, _), (159, _)] := hE.sel [0, 1, 2, 6, 7, 8, 9, 10, 11, 12, 13, 15, 16, 17, 19, 25, 77, 83, 85, 90, 92, 99, 100, 101, 102, 106, 112, 137, 141, 159] rfl
      refine q_block_n ?_
      refine hK39 _ _ ?_
      refine wp_plain [true, true] rfl rfl ?_
      refine s_bin hE rfl rfl (show Bin _ _ _ _ _ (.int .i64 2) from bin_add (by rw [wrap_i64 (by omega) (by omega)]; omega)) rfl ?_; clear hE a; intro a hE
      refine s_move hE rfl rfl ?_; clear hE a; intro a hE
      refine q_nil ?_
      replace hE : Env a 172 [(0, _), (1, _), (2, _), (6, _), (7, _), (8, _), (9, _), (10, _), (11, _), (12, _), (13, _), (15, _), (16, _), (17, _), (19, _), (25, _), (77, _), (83, _), (85, _), (90, _), (92, _), (99, _), (100, _), (101, _), (102, _), (106, _), (112, _), (137, _), (141, _), (159, _)] := hE.sel [0, 1, 2, 6, 7, 8, 9, 10, 11, 12, 13, 15, 16, 17, 19, 25, 77, 83, 85, 90, 92, 99, 100, 101, 102, 106, 112, 137, 141, 159] rfl
      replace hM : Mem _ _ w1 [_] := hM.pick [0] rfl
      refine q_then_n (c_rounds ?_)
      refine wp_seq_k (fun K53 hK53 => ?_)
      refine wp_plain [true] rfl rfl ?_
      refine s_bin hE rfl rfl bin_lss rfl ?_; clear hE a; intro a hE
      replace hE := hE.cast 102 rfl (show _ = Value.bool false from (congrArg Value.bool (by decide)))
      refine q_nil ?_
      refine hK53 _ _ ?_
      refine wp_seq_k (fun K54 hK54 => ?_)
      refine wp_cond_false (hE.eval rfl) ?_
      refine wp_exit ?_
      refine q_then_e ?_
      refine q_then_e ?_
      refine q_block_x ?_
      refine hK19 _ _ ?_
      refine wp_seq_k (fun K55 hK55 => ?_)
      refine wp_seq_k (fun K56 hK56 => ?_)
      refine wp_plain [true, true, true, false, true, true] rfl rfl ?_
      refine s_move hE rfl rfl ?_; clear hE a; intro a hE
      refine s_move hE rfl rfl ?_; clear hE a; intro a hE
      refine g_no (b := false) hE rfl rfl rfl ?_; clear hE a; intro a hE
      refine g_no (b := false) hE rfl rfl rfl ?_; clear hE a; intro a hE
      refine g_no (b := false) hE rfl rfl rfl ?_; clear hE a; intro a hE
      refine s_pickf hE rfl rfl rfl ?_; clear hE a; intro a hE
      refine q_nil ?_
      replace hE : Env a 172 [(0, _), (1, _), (2, _), (6, _), (7, _), (8, _), (10, _), (11, _), (13, _), (15, _), (16, _), (17, _), (19, _), (25, _), (77, _), (83, _), (85, _), (90, _), (92, _), (99, _), (100, _), (101, _), (102, _), (106, _), (112, _), (137, _), (141, _), (159, _), (169, _)] := hE.sel [0, 1, 2, 6, 7, 8, 10, 11, 13, 15, 16, 17, 19, 25, 77, 83, 85, 90, 92, 99, 100, 101, 102, 106, 112, 137, 141, 159, 169] rfl
      refine hK56 _ _ ?_
      refine wp_cond_false (hE.eval rfl) ?_
      refine wp_skip ?_
      refine hK55 _ _ ?_
      refine wp_seq_k (fun K57 hK57 => ?_)
      refine wp_plain [true, true, true] rfl rfl ?_
      refine s_move hE rfl rfl ?_; clear hE a; intro a hE
      refine s_assign hE rfl rfl ?_; clear hE a; intro a hE
      refine s_assign hE rfl rfl ?_; clear hE a; intro a hE
      refine q_nil ?_
      replace hE : Env a 172 [(0, _), (1, _), (2, _), (6, _), (7, _), (8, _), (10, _), (11, _), (13, _), (15, _), (16, _), (17, _), (19, _), (25, _), (77, _), (83, _), (85, _), (90, _), (92, _), (99, _), (100, _), (101, _), (102, _), (106, _), (112, _), (137, _), (141, _), (159, _), (169, _)] := hE.sel [0, 1, 2, 6, 7, 8, 10, 11, 13, 15, 16, 17, 19, 25, 77, 83, 85, 90, 92, 99, 100, 101, 102, 106, 112, 137, 141, 159, 169] rfl
      refine hK57 _ _ ?_
      refine wp_ret ?_
      refine f_ret2 hE rfl rfl rfl ?_
      exact ⟨(by have hp := pu_ok (by rw [hd1]; exact hx1) (by rw [hd2]; exact hx2) 98; rw [hp.1, hp.2, hd1, hd2]; refine congrArg (fun q : Nat => Ending.returned (.tuple #[.int .u64 (q : Int), .nilIface])) ?_; omega), hM.pick [] rfl⟩
    · refine q_nil ?_
      refine hK41 _ _ ?_
      refine wp_seq_k (fun K42 hK42 => ?_)
      refine wp_block ?_
      refine wp_seq_k (fun K43 hK43 => ?_)
      refine wp_plain [true, true, true, true, true, true] rfl rfl ?_
      refine s_move hE rfl rfl ?_; clear hE a; intro a hE
      refine s_bin hE rfl rfl bin_eql rfl ?_; clear hE a; intro a hE
      refine s_move hE rfl rfl ?_; clear hE a; intro a hE
      replace hE := hE.cast 109 rfl (show _ = Value.bool false from (congrArg Value.bool (decide_eq_false (by omega))))
      refine g_no (b := false) hE rfl rfl rfl ?_; clear hE a; intro a hE
      refine s_pickf hE rfl rfl rfl ?_; clear hE a; intro a hE
      refine s_assign hE rfl rfl ?_; clear hE a; intro a hE
      refine q_nil ?_
      replace hE : Env a 172 [(0, _), (1, _), (2, _), (6, _), (7, _), (8, _), (9, _), (10, _), (11, _), (12, _), (13, _), (15, _), (16, _), (17, _), (19, _), (25, _), (77, _), (83, _), (85, _), (90, _), (92, _), (99, _), (100, _), (101, _), (102, _), (106, _), (112, _), (137, _), (141, _), (159, _)] := hE.sel [0, 1, 2, 6, 7, 8, 9, 10, 11, 12, 13, 15, 16, 17, 19, 25, 77, 83, 85, 90, 92, 99, 100, 101, 102, 106, 112, 137, 141, 159] rfl
      refine hK43 _ _ ?_
      refine wp_cond_false (hE.eval rfl) ?_
      refine wp_seq_k (fun K44 hK44 => ?_)
      refine wp_plain [true, true, true, true, true, true, true] rfl rfl ?_
      refine s_move hE rfl rfl ?_; clear hE a; intro a hE
      refine s_bin hE rfl rfl bin_leq rfl ?_; clear hE a; intro a hE
      refine s_move hE rfl rfl ?_; clear hE a; intro a hE
      replace hE := hE.cast 115 rfl (show _ = Value.bool true from (congrArg Value.bool (decide_eq_true (by omega))))
      refine g_yes hE rfl rfl ?_
      refine s_move hE rfl rfl ?_; clear hE a; intro a hE
      refine g_yes hE rfl rfl ?_
      refine s_bin hE rfl rfl bin_leq rfl ?_; clear hE a; intro a hE
      refine s_pickt hE rfl rfl rfl ?_; clear hE a; intro a hE
      refine s_assign hE rfl rfl ?_; clear hE a; intro a hE
      refine q_nil ?_
      replace hE : Env a 172 [(0, _), (1, _), (2, _), (6, _), (7, _), (8, _), (9, _), (10, _), (11, _), (12, _), (13, _), (15, _), (16, _), (17, _), (19, _), (25, _), (77, _), (83, _), (85, _), (90, _), (92, _), (99, _), (100, _), (101, _), (102, _), (106, _), (112, _), (137, _), (141, _), (159, _)] := hE.sel [0, 1, 2, 6, 7, 8, 9, 10, 11, 12, 13, 15, 16, 17, 19, 25, 77, 83, 85, 90, 92, 99, 100, 101, 102, 106, 112, 137, 141, 159] rfl
      refine hK44 _ _ ?_
      replace hE := hE.cast 112 rfl (show _ = Value.bool false from (congrArg Value.bool (decide_eq_false (by omega))))
      refine wp_cond_false (hE.eval rfl) ?_
      refine wp_seq_k (fun K45 hK45 => ?_)
      refine wp_plain [true, false, true, true, true, false, true, true, true] rfl rfl ?_
      refine s_move hE rfl rfl ?_; clear hE a; intro a hE
      refine s_call hE rfl Tryd.call70 (lower_c c2 _ ) rfl ?_
      rintro e w2 ⟨rfl, hN⟩
      refine ⟨_, rfl, trivial, ?_⟩; clear hE a; intro a hE
      replace hM : Mem _ _ w2 [_] := hM.call0 hN trivial; clear hN
      refine s_bin hE rfl rfl bin_leq rfl ?_; clear hE a; intro a hE
      refine s_move hE rfl rfl ?_; clear hE a; intro a hE
      replace hE := hE.cast 125 rfl (show _ = Value.bool true from (congrArg Value.bool (decide_eq_true (by omega))))
      refine g_yes hE rfl rfl ?_
      refine s_move hE rfl rfl ?_; clear hE a; intro a hE
      refine g_yes hE rfl rfl ?_
      refine s_call hE rfl Tryd.call70 (lower_c c2 _ ) rfl ?_
      rintro e w3 ⟨rfl, hN⟩
      refine ⟨_, rfl, trivial, ?_⟩; clear hE a; intro a hE
      replace hM : Mem _ _ w3 [_] := hM.call0 hN trivial; clear hN
      refine g_yes hE rfl rfl ?_
      refine s_bin hE rfl rfl bin_leq rfl ?_; clear hE a; intro a hE
      refine s_pickt hE rfl rfl rfl ?_; clear hE a; intro a hE
      refine s_assign hE rfl rfl ?_; clear hE a; intro a hE
      refine q_nil ?_
      replace hE : Env a 172 [(0, _), (1, _), (2, _), (6, _), (7, _), (8, _), (9, _), (10, _), (11, _), (12, _), (13, _), (15, _), (16, _), (17, _), (19, _), (25, _), (77, _), (83, _), (85, _), (90, _), (92, _), (99, _), (100, _), (101, _), (102, _), (106, _), (112, _), (121, _), (137, _), (141, _), (159, _)] := hE.sel [0, 1, 2, 6, 7, 8, 9, 10, 11, 12, 13, 15, 16, 17, 19, 25, 77, 83, 85, 90, 92, 99, 100, 101, 102, 106, 112, 121, 137, 141, 159] rfl
      refine hK45 _ _ ?_
      replace hE := hE.cast 121 rfl (show _ = Value.bool true from (congrArg Value.bool (decide_eq_true (by omega))))
      refine wp_cond_true (hE.eval rfl) ?_
      refine wp_plain [true, false, true, true, true] rfl rfl ?_
      refine s_move hE rfl rfl ?_; clear hE a; intro a hE
      refine s_call hE rfl Tryd.call70 (lower_c c2 _ ) rfl ?_
      rintro e w4 ⟨rfl, hN⟩
      refine ⟨_, rfl, trivial, ?_⟩; clear hE a; intro a hE
      replace hM : Mem _ _ w4 [_] := hM.call0 hN trivial; clear hN
      refine s_bin hE rfl rfl (bin_sub_u8 (b := c2 ||| 32) (c := 97)) rfl ?_; clear hE a; intro a hE
      refine s_bin hE rfl rfl (bin_add_u8 (b := (c2 ||| 32) - 97) (c := 10)) rfl ?_; clear hE a; intro a hE
      refine s_assign hE rfl rfl ?_; clear hE a; intro a hE
      refine q_nil ?_
      replace hE : Env a 172 [(0, _), (1, _), (2, _), (6, _), (7, _), (8, _), (9, _), (10, _), (11, _), (12, _), (13, _), (15, _), (16, _), (17, _), (19, _), (25, _), (77, _), (83, _), (85, _), (90, _), (92, _), (99, _), (100, _), (101, _), (102, _), (106, _), (112, _), (121, _), (137, _), (141, _), (159, _)] := hE.sel [0, 1, 2, 6, 7, 8, 9, 10, 11, 12, 13, 15, 16, 17, 19, 25, 77, 83, 85, 90, 92, 99, 100, 101, 102, 106, 112, 121, 137, 141, 159] rfl
      refine q_block_n ?_
      refine hK42 _ _ ?_
      refine wp_seq_k (fun K46 hK46 => ?_)
      refine wp_seq_k (fun K47 hK47 => ?_)
      refine wp_plain [true, true, true, true] rfl rfl ?_
      refine s_move hE rfl rfl ?_; clear hE a; intro a hE
      refine s_move hE rfl rfl ?_; clear hE a; intro a hE
      refine s_conv hE rfl (cnv_int Tryd.underlying3 Tryd.underlying5 ((show IntKind.u8.wrap 16 = 16 by decide))) rfl ?_; clear hE a; intro a hE
      refine s_bin hE rfl rfl bin_geq rfl ?_; clear hE a; intro a hE
      refine q_nil ?_
      replace hE : Env a 172 [(0, _), (1, _), (2, _), (6, _), (7, _), (8, _), (9, _), (10, _), (11, _), (12, _), (13, _), (15, _), (16, _), (17, _), (19, _), (25, _), (77, _), (83, _), (85, _), (90, _), (92, _), (99, _), (100, _), (101, _), (102, _), (106, _), (112, _), (121, _), (137, _), (141, _), (159, _)] := hE.sel [0, 1, 2, 6, 7, 8, 9, 10, 11, 12, 13, 15, 16, 17, 19, 25, 77, 83, 85, 90, 92, 99, 100, 101, 102, 106, 112, 121, 137, 141, 159] rfl
      refine hK47 _ _ ?_
      refine hE.split 137 rfl (fun hb137 hE' => ?_) (fun hb137 hE' => ?_)
      · replace hE := hE'; clear hE'
        replace hb137 := of_decide_eq_true hb137
        have hx2 : ¬ (dg c2).toNat < 16 := by rw [hd2]; omega
        refine wp_cond_true (hE.eval rfl) ?_
        refine wp_seq_k (fun K48 hK48 => ?_)
        refine wp_plain [true, true, true] rfl rfl ?_
        refine s_mkI hE rfl Tryd.underlying98 rfl rfl ?_; clear hE a; intro a hE
        refine s_assign hE rfl rfl ?_; clear hE a; intro a hE
        refine s_assign hE rfl rfl ?_; clear hE a; intro a hE
        refine q_nil ?_
        replace hE : Env a 172 [(0, _), (1, _), (2, _), (6, _), (7, _), (8, _), (9, _), (10, _), (11, _), (12, _), (13, _), (15, _), (16, _), (17, _), (19, _), (25, _), (77, _), (83, _), (85, _), (90, _), (92, _), (99, _), (100, _), (101, _), (102, _), (106, _), (112, _), (121, _), (137, _), (141, _), (159, _)] := hE.sel [0, 1, 2, 6, 7, 8, 9, 10, 11, 12, 13, 15, 16, 17, 19, 25, 77, 83, 85, 90, 92, 99, 100, 101, 102, 106, 112, 121, 137, 141, 159] rfl
        refine hK48 _ _ ?_
        refine wp_ret ?_
        refine q_then_r ?_
        refine q_block_r ?_
        refine q_then_r ?_
        refine q_then_r ?_
        refine q_block_r ?_
        refine q_then_r ?_
        refine f_ret2 hE rfl rfl rfl ?_
        exact ⟨(by rw [(pu_no2 hx2 98).1, (pu_no2 (c := c1) hx2 98).2]; rfl), hM.pick [] rfl⟩
      · replace hE := hE'; clear hE'
        replace hb137 := of_decide_eq_false hb137
        have hx2 : (dg c2).toNat < 16 := by rw [hd2]; omega
        refine wp_cond_false (hE.eval rfl) ?_
        refine wp_skip ?_
        refine hK46 _ _ ?_
        refine wp_seq_k (fun K48 hK48 => ?_)
        refine wp_seq_k (fun K49 hK49 => ?_)
        refine wp_plain [true, true, true] rfl rfl ?_
        refine s_move hE rfl rfl ?_; clear hE a; intro a hE
        refine s_move hE rfl rfl ?_; clear hE a; intro a hE
        refine s_bin hE rfl rfl bin_geq rfl ?_; clear hE a; intro a hE
        refine q_nil ?_
        replace hE : Env a 172 [(0, _), (1, _), (2, _), (6, _), (7, _), (8, _), (9, _), (10, _), (11, _), (12, _), (13, _), (15, _), (16, _), (17, _), (19, _), (25, _), (77, _), (83, _), (85, _), (90, _), (92, _), (99, _), (100, _), (101, _), (102, _), (106, _), (112, _), (121, _), (137, _), (141, _), (159, _)] := hE.sel [0, 1, 2, 6, 7, 8, 9, 10, 11, 12, 13, 15, 16, 17, 19, 25, 77, 83, 85, 90, 92, 99, 100, 101, 102, 106, 112, 121, 137, 141, 159] rfl
        refine hK49 _ _ ?_
        replace hE := hE.cast 141 rfl (show _ = Value.bool false from (congrArg Value.bool (decide_eq_false (by omega))))
        refine wp_cond_false (hE.eval rfl) ?_
        refine wp_skip ?_
        refine hK48 _ _ ?_
        refine wp_seq_k (fun K50 hK50 => ?_)
        refine wp_plain [true, true, true, true, true] rfl rfl ?_
        refine s_move hE rfl rfl ?_; clear hE a; intro a hE
        refine s_move hE rfl rfl ?_; clear hE a; intro a hE
        refine s_conv hE rfl (cnv_int Tryd.underlying3 Tryd.underlying69 (wrap_u64 (by omega) (by omega))) rfl ?_; clear hE a; intro a hE
        refine s_bin hE rfl rfl (show Bin _ _ _ _ _ (.int .u64 (((0 + ((c1 - 48).toNat)) * 16 : Nat) : Int)) from bin_mul (by rw [wrap_u64 (by omega) (by omega)]; omega)) rfl ?_; clear hE a; intro a hE
        refine s_assign hE rfl rfl ?_; clear hE a; intro a hE
        refine q_nil ?_
        replace hE : Env a 172 [(0, _), (1, _), (2, _), (6, _), (7, _), (8, _), (9, _), (10, _), (11, _), (12, _), (13, _), (15, _), (16, _), (17, _), (19, _), (25, _), (77, _), (83, _), (85, _), (90, _), (92, _), (99, _), (100, _), (101, _), (102, _), (106, _), (112, _), (121, _), (137, _), (141, _), (159, _)] := hE.sel [0, 1, 2, 6, 7, 8, 9, 10, 11, 12, 13, 15, 16, 17, 19, 25, 77, 83, 85, 90, 92, 99, 100, 101, 102, 106, 112, 121, 137, 141, 159] rfl
        refine hK50 _ _ ?_
        refine wp_seq_k (fun K51 hK51 => ?_)
        refine wp_plain [true, true, true, true, true] rfl rfl ?_
        refine s_move hE rfl rfl ?_; clear hE a; intro a hE
        refine s_move hE rfl rfl ?_; clear hE a; intro a hE
        refine s_conv hE rfl (cnv_int Tryd.underlying5 Tryd.underlying69 (wrap_u64 (by omega) (by have := (((c2 ||| 32) - 97) + 10 : UInt8).toNat_lt; omega))) rfl ?_; clear hE a; intro a hE
        refine s_bin hE rfl rfl (show Bin _ _ _ _ _ (.int .u64 ((((0 + ((c1 - 48).toNat)) * 16) + ((((c2 ||| 32) - 97) + 10).toNat) : Nat) : Int)) from bin_add (by rw [wrap_u64 (by omega) (by omega)]; omega)) rfl ?_; clear hE a; intro a hE
        refine s_assign hE rfl rfl ?_; clear hE a; intro a hE
        refine q_nil ?_
        replace hE : Env a 172 [(0, _), (1, _), (2, _), (6, _), (7, _), (8, _), (9, _), (10, _), (11, _), (12, _), (13, _), (15, _), (16, _), (17, _), (19, _), (25, _), (77, _), (83, _), (85, _), (90, _), (92, _), (99, _), (100, _), (101, _), (102, _), (106, _), (112, _), (121, _), (137, _), (141, _), (159, _)] := hE.sel [0, 1, 2, 6, 7, 8, 9, 10, 11, 12, 13, 15, 16, 17, 19, 25, 77, 83, 85, 90, 92, 99, 100, 101, 102, 106, 112, 121, 137, 141, 159] rfl
        refine hK51 _ _ ?_
        refine wp_seq_k (fun K52 hK52 => ?_)
        refine wp_seq_k (fun K53 hK53 => ?_)
        refine wp_plain [true, true, true, true, true, true, true, true] rfl rfl ?_
        refine s_move hE rfl rfl ?_; clear hE a; intro a hE
        refine s_move hE rfl rfl ?_; clear hE a; intro a hE
        refine s_bin hE rfl rfl bin_lss rfl ?_; clear hE a; intro a hE
        refine s_move hE rfl rfl ?_; clear hE a; intro a hE
        replace hE := hE.cast 155 rfl (show _ = Value.bool false from (congrArg Value.bool (decide_eq_false (by omega))))
        refine g_yes hE rfl rfl ?_
        refine s_move hE rfl rfl ?_; clear hE a; intro a hE
        refine g_yes hE rfl rfl ?_
        refine s_move hE rfl rfl ?_; clear hE a; intro a hE
        refine g_yes hE rfl rfl ?_
        refine s_bin hE rfl rfl bin_gtr rfl ?_; clear hE a; intro a hE
        refine s_pickf hE rfl rfl rfl ?_; clear hE a; intro a hE
        refine q_nil ?_
        replace hE : Env a 172 [(0, _), (1, _), (2, _), (6, _), (7, _), (8, _), (9, _), (10, _), (11, _), (12, _), (13, _), (15, _), (16, _), (17, _), (19, _), (25, _), (77, _), (83, _), (85, _), (90, _), (92, _), (99, _), (100, _), (101, _), (102, _), (106, _), (112, _), (121, _), (137, _), (141, _), (159, _)] := hE.sel [0, 1, 2, 6, 7, 8, 9, 10, 11, 12, 13, 15, 16, 17, 19, 25, 77, 83, 85, 90, 92, 99, 100, 101, 102, 106, 112, 121, 137, 141, 159] rfl
        refine hK53 _ _ ?_
        replace hE := hE.cast 159 rfl (show _ = Value.bool false from (congrArg Value.bool (decide_eq_false (by omega))))
        refine wp_cond_false (hE.eval rfl) ?_
        refine wp_skip ?_
        refine hK52 _ _ ?_
        refine wp_plain [true, true] rfl rfl ?_
        refine s_move hE rfl rfl ?_; clear hE a; intro a hE
        refine s_assign hE rfl rfl ?_; clear hE a; intro a hE
        refine q_nil ?_
        replace hE : Env a 172 [(0, _), (1, _), (2, _), (6, _), (7, _), (8, _), (9, _), (10, _), (11, _), (12, _), (13, _), (15, _), (16, _), (17, _), (19, _), (25, _), (77, _), (83, _), (85, _), (90, _), (92, _), (99, _), (100, _), (101, _), (102, _), (106, _), (112, _), (121, _), (137, _), (141, _), (159, _)] := hE.sel [0, 1, 2, 6, 7, 8, 9, 10, 11, 12, 13, 15, 16, 17, 19, 25, 77, 83, 85, 90, 92, 99, 100, 101, 102, 106, 112, 121, 137, 141, 159] rfl
        refine q_block_n ?_
        refine hK39 _ _ ?_
        refine wp_plain [true, true] rfl rfl ?_
        refine s_bin hE rfl rfl (show Bin _ _ _ _ _ (.int .i64 2) from bin_add (by rw [wrap_i64 (by omega) (by omega)]; omega)) rfl ?_; clear hE a; intro a hE
        refine s_move hE rfl rfl ?_; clear hE a; intro a hE
        refine q_nil ?_
        replace hE : Env a 172 [(0, _), (1, _), (2, _), (6, _), (7, _), (8, _), (9, _), (10, _), (11, _), (12, _), (13, _), (15, _), (16, _), (17, _), (19, _), (25, _), (77, _), (83, _), (85, _), (90, _), (92, _), (99, _), (100, _), (101, _), (102, _), (106, _), (112, _), (121, _), (137, _), (141, _), (159, _)] := hE.sel [0, 1, 2, 6, 7, 8, 9, 10, 11, 12, 13, 15, 16, 17, 19, 25, 77, 83, 85, 90, 92, 99, 100, 101, 102, 106, 112, 121, 137, 141, 159] rfl
        replace hM : Mem _ _ w4 [_] := hM.pick [0] rfl
        refine q_then_n (c_rounds ?_)
        refine wp_seq_k (fun K54 hK54 => ?_)
        refine wp_plain [true] rfl rfl ?_
        refine s_bin hE rfl rfl bin_lss rfl ?_; clear hE a; intro a hE
        replace hE := hE.cast 102 rfl (show _ = Value.bool false from (congrArg Value.bool (by decide)))
        refine q_nil ?_
        refine hK54 _ _ ?_
        refine wp_seq_k (fun K55 hK55 => ?_)
        refine wp_cond_false (hE.eval rfl) ?_
        refine wp_exit ?_
        refine q_then_e ?_
        refine q_then_e ?_
        refine q_block_x ?_
        refine hK19 _ _ ?_
        refine wp_seq_k (fun K56 hK56 => ?_)
        refine wp_seq_k (fun K57 hK57 => ?_)
        refine wp_plain [true, true, true, false, true, true] rfl rfl ?_
        refine s_move hE rfl rfl ?_; clear hE a; intro a hE
        refine s_move hE rfl rfl ?_; clear hE a; intro a hE
        refine g_no (b := false) hE rfl rfl rfl ?_; clear hE a; intro a hE
        refine g_no (b := false) hE rfl rfl rfl ?_; clear hE a; intro a hE
        refine g_no (b := false) hE rfl rfl rfl ?_; clear hE a; intro a hE
        refine s_pickf hE rfl rfl rfl ?_; clear hE a; intro a hE
        refine q_nil ?_
        replace hE : Env a 172 [(0, _), (1, _), (2, _), (6, _), (7, _), (8, _), (10, _), (11, _), (13, _), (15, _), (16, _), (17, _), (19, _), (25, _), (77, _), (83, _), (85, _), (90, _), (92, _), (99, _), (100, _), (101, _), (102, _), (106, _), (112, _), (121, _), (137, _), (141, _), (159, _), (169, _)] := hE.sel [0, 1, 2, 6, 7, 8, 10, 11, 13, 15, 16, 17, 19, 25, 77, 83, 85, 90, 92, 99, 100, 101, 102, 106, 112, 121, 137, 141, 159, 169] rfl
        refine hK57 _ _ ?_
        refine wp_cond_false (hE.eval rfl) ?_
        refine wp_skip ?_
        refine hK56 _ _ ?_
        refine wp_seq_k (fun K58 hK58 => ?_)
        refine wp_plain [true, true, true] rfl rfl ?_
        refine s_move hE rfl rfl ?_; clear hE a; intro a hE
        refine s_assign hE rfl rfl ?_; clear hE a; intro a hE
        refine s_assign hE rfl rfl ?_; clear hE a; intro a hE
        refine q_nil ?_
        replace hE : Env a 172 [(0, _), (1, _), (2, _), (6, _), (7, _), (8, _), (10, _), (11, _), (13, _), (15, _), (16, _), (17, _), (19, _), (25, _), (77, _), (83, _), (85, _), (90, _), (92, _), (99, _), (100, _), (101, _), (102, _), (106, _), (112, _), (121, _), (137, _), (141, _), (159, _), (169, _)] := hE.sel [0, 1, 2, 6, 7, 8, 10, 11, 13, 15, 16, 17, 19, 25, 77, 83, 85, 90, 92, 99, 100, 101, 102, 106, 112, 121, 137, 141, 159, 169] rfl
        refine hK58 _ _ ?_
        refine wp_ret ?_
        refine f_ret2 hE rfl rfl rfl ?_
        exact ⟨(by have hp := pu_ok (by rw [hd1]; exact hx1) hx2 98; rw [hp.1, hp.2, hd1, hd2]; refine congrArg (fun q : Nat => Ending.returned (.tuple #[.int .u64 (q : Int), .nilIface])) ?_; omega), hM.pick [] rfl⟩
    · refine q_nil ?_
      refine hK41 _ _ ?_
      refine wp_seq_k (fun K42 hK42 => ?_)
      refine wp_block ?_
      refine wp_seq_k (fun K43 hK43 => ?_)
      refine wp_plain [true, true, true, true, true, true] rfl rfl ?_
      refine s_move hE rfl rfl ?_; clear hE a; intro a hE
      refine s_bin hE rfl rfl bin_eql rfl ?_; clear hE a; intro a hE
      refine s_move hE rfl rfl ?_; clear hE a; intro a hE
      replace hE := hE.cast 109 rfl (show _ = Value.bool false from (congrArg Value.bool (decide_eq_false (by omega))))
      refine g_no (b := false) hE rfl rfl rfl ?_; clear hE a; intro a hE
      refine s_pickf hE rfl rfl rfl ?_; clear hE a; intro a hE
      refine s_assign hE rfl rfl ?_; clear hE a; intro a hE
      refine q_nil ?_
      replace hE : Env a 172 [(0, _), (1, _), (2, _), (6, _), (7, _), (8, _), (9, _), (10, _), (11, _), (12, _), (13, _), (15, _), (16, _), (17, _), (19, _), (25, _), (77, _), (83, _), (85, _), (90, _), (92, _), (99, _), (100, _), (101, _), (102, _), (106, _), (112, _), (137, _), (141, _), (159, _)] := hE.sel [0, 1, 2, 6, 7, 8, 9, 10, 11, 12, 13, 15, 16, 17, 19, 25, 77, 83, 85, 90, 92, 99, 100, 101, 102, 106, 112, 137, 141, 159] rfl
      refine hK43 _ _ ?_
      refine wp_cond_false (hE.eval rfl) ?_
      refine wp_seq_k (fun K44 hK44 => ?_)
      refine wp_plain [true, true, true, true, true, true, true] rfl rfl ?_
      refine s_move hE rfl rfl ?_; clear hE a; intro a hE
      refine s_bin hE rfl rfl bin_leq rfl ?_; clear hE a; intro a hE
      refine s_move hE rfl rfl ?_; clear hE a; intro a hE
      replace hE := hE.cast 115 rfl (show _ = Value.bool false from (congrArg Value.bool (decide_eq_false (by omega))))
      refine g_no (b := false) hE rfl rfl rfl ?_; clear hE a; intro a hE
      refine g_no (b := false) hE rfl rfl rfl ?_; clear hE a; intro a hE
      refine s_pickf hE rfl rfl rfl ?_; clear hE a; intro a hE
      refine s_assign hE rfl rfl ?_; clear hE a; intro a hE
      refine q_nil ?_
      replace hE : Env a 172 [(0, _), (1, _), (2, _), (6, _), (7, _), (8, _), (9, _), (10, _), (11, _), (12, _), (13, _), (15, _), (16, _), (17, _), (19, _), (25, _), (77, _), (83, _), (85, _), (90, _), (92, _), (99, _), (100, _), (101, _), (102, _), (106, _), (112, _), (137, _), (141, _), (159, _)] := hE.sel [0, 1, 2, 6, 7, 8, 9, 10, 11, 12, 13, 15, 16, 17, 19, 25, 77, 83, 85, 90, 92, 99, 100, 101, 102, 106, 112, 137, 141, 159] rfl
      refine hK44 _ _ ?_
      refine wp_cond_false (hE.eval rfl) ?_
      refine wp_seq_k (fun K45 hK45 => ?_)
      refine wp_plain [true, false, true, true, true, false, true, true, true] rfl rfl ?_
      refine s_move hE rfl rfl ?_; clear hE a; intro a hE
      refine s_call hE rfl Tryd.call70 (lower_c c2 _ ) rfl ?_
      rintro e w2 ⟨rfl, hN⟩
      refine ⟨_, rfl, trivial, ?_⟩; clear hE a; intro a hE
      replace hM : Mem _ _ w2 [_] := hM.call0 hN trivial; clear hN
      refine s_bin hE rfl rfl bin_leq rfl ?_; clear hE a; intro a hE
      refine s_move hE rfl rfl ?_; clear hE a; intro a hE
      replace hE := hE.cast 125 rfl (show _ = Value.bool false from (congrArg Value.bool (decide_eq_false (by omega))))
      refine g_no (b := false) hE rfl rfl rfl ?_; clear hE a; intro a hE
      refine g_no (b := false) hE rfl rfl rfl ?_; clear hE a; intro a hE
      refine g_no (b := false) hE rfl rfl rfl ?_; clear hE a; intro a hE
      refine s_pickf hE rfl rfl rfl ?_; clear hE a; intro a hE
      refine s_assign hE rfl rfl ?_; clear hE a; intro a hE
      refine q_nil ?_
      replace hE : Env a 172 [(0, _), (1, _), (2, _), (6, _), (7, _), (8, _), (9, _), (10, _), (11, _), (12, _), (13, _), (15, _), (16, _), (17, _), (19, _), (25, _), (77, _), (83, _), (85, _), (90, _), (92, _), (99, _), (100, _), (101, _), (102, _), (106, _), (112, _), (121, _), (137, _), (141, _), (159, _)] := hE.sel [0, 1, 2, 6, 7, 8, 9, 10, 11, 12, 13, 15, 16, 17, 19, 25, 77, 83, 85, 90, 92, 99, 100, 101, 102, 106, 112, 121, 137, 141, 159] rfl
      refine hK45 _ _ ?_
      refine wp_cond_false (hE.eval rfl) ?_
      refine wp_seq_k (fun K46 hK46 => ?_)
      refine wp_plain [true, true, true] rfl rfl ?_
      refine s_mkI hE rfl Tryd.underlying98 rfl rfl ?_; clear hE a; intro a hE
      refine s_assign hE rfl rfl ?_; clear hE a; intro a hE
      refine s_assign hE rfl rfl ?_; clear hE a; intro a hE
      refine q_nil ?_
      replace hE : Env a 172 [(0, _), (1, _), (2, _), (6, _), (7, _), (8, _), (9, _), (10, _), (11, _), (12, _), (13, _), (15, _), (16, _), (17, _), (19, _), (25, _), (77, _), (83, _), (85, _), (90, _), (92, _), (99, _), (100, _), (101, _), (102, _), (106, _), (112, _), (121, _), (137, _), (141, _), (159, _)] := hE.sel [0, 1, 2, 6, 7, 8, 9, 10, 11, 12, 13, 15, 16, 17, 19, 25, 77, 83, 85, 90, 92, 99, 100, 101, 102, 106, 112, 121, 137, 141, 159] rfl
      refine hK46 _ _ ?_
      refine wp_ret ?_
      refine q_block_r ?_
      refine q_then_r ?_
      refine q_block_r ?_
      refine q_then_r ?_
      refine q_then_r ?_
      refine q_block_r ?_
      refine q_then_r ?_
      refine f_ret2 hE rfl rfl rfl ?_
      exact ⟨(by rw [(pu_no2 hx2 98).1, (pu_no2 (c := c1) hx2 98).2]; rfl), hM.pick [] rfl⟩
    · refine q_nil ?_
      refine hK41 _ _ ?_
      refine wp_seq_k (fun K42 hK42 => ?_)
      refine wp_block ?_
      refine wp_seq_k (fun K43 hK43 => ?_)
      refine wp_plain [true, true, true, true, true, true] rfl rfl ?_
      refine s_move hE rfl rfl ?_; clear hE a; intro a hE
      refine s_bin hE rfl rfl bin_eql rfl ?_; clear hE a; intro a hE
      refine s_move hE rfl rfl ?_; clear hE a; intro a hE
      replace hE := hE.cast 109 rfl (show _ = Value.bool false from (congrArg Value.bool (decide_eq_false (by omega))))
      refine g_no (b := false) hE rfl rfl rfl ?_; clear hE a; intro a hE
      refine s_pickf hE rfl rfl rfl ?_; clear hE a; intro a hE
      refine s_assign hE rfl rfl ?_; clear hE a; intro a hE
      refine q_nil ?_
      replace hE : Env a 172 [(0, _), (1, _), (2, _), (6, _), (7, _), (8, _), (9, _), (10, _), (11, _), (12, _), (13, _), (15, _), (16, _), (17, _), (19, _), (25, _), (77, _), (83, _), (85, _), (90, _), (92, _), (99, _), (100, _), (101, _), (102, _), (106, _), (112, _), (137, _), (141, _), (159, _)] := hE.sel [0, 1, 2, 6, 7, 8, 9, 10, 11, 12, 13, 15, 16, 17, 19, 25, 77, 83, 85, 90, 92, 99, 100, 101, 102, 106, 112, 137, 141, 159] rfl
      refine hK43 _ _ ?_
      refine wp_cond_false (hE.eval rfl) ?_
      refine wp_seq_k (fun K44 hK44 => ?_)
      refine wp_plain [true, true, true, true, true, true, true] rfl rfl ?_
      refine s_move hE rfl rfl ?_; clear hE a; intro a hE
      refine s_bin hE rfl rfl bin_leq rfl ?_; clear hE a; intro a hE
      refine s_move hE rfl rfl ?_; clear hE a; intro a hE
      replace hE := hE.cast 115 rfl (show _ = Value.bool true from (congrArg Value.bool (decide_eq_true (by omega))))
      refine g_yes hE rfl rfl ?_
      refine s_move hE rfl rfl ?_; clear hE a; intro a hE
      refine g_yes hE rfl rfl ?_
      refine s_bin hE rfl rfl bin_leq rfl ?_; clear hE a; intro a hE
      refine s_pickt hE rfl rfl rfl ?_; clear hE a; intro a hE
      refine s_assign hE rfl rfl ?_; clear hE a; intro a hE
      refine q_nil ?_
      replace hE : Env a 172 [(0, _), (1, _), (2, _), (6, _), (7, _), (8, _), (9, _), (10, _), (11, _), (12, _), (13, _), (15, _), (16, _), (17, _), (19, _), (25, _), (77, _), (83, _), (85, _), (90, _), (92, _), (99, _), (100, _), (101, _), (102, _), (106, _), (112, _), (137, _), (141, _), (159, _)] := hE.sel [0, 1, 2, 6, 7, 8, 9, 10, 11, 12, 13, 15, 16, 17, 19, 25, 77, 83, 85, 90, 92, 99, 100, 101, 102, 106, 112, 137, 141, 159] rfl
      refine hK44 _ _ ?_
      replace hE := hE.cast 112 rfl (show _ = Value.bool false from (congrArg Value.bool (decide_eq_false (by omega))))
      refine wp_cond_false (hE.eval rfl) ?_
      refine wp_seq_k (fun K45 hK45 => ?_)
      refine wp_plain [true, false, true, true, true, false, true, true, true] rfl rfl ?_
      refine s_move hE rfl rfl ?_; clear hE a; intro a hE
      refine s_call hE rfl Tryd.call70 (lower_c c2 _ ) rfl ?_
      rintro e w2 ⟨rfl, hN⟩
      refine ⟨_, rfl, trivial, ?_⟩; clear hE a; intro a hE
      replace hM : Mem _ _ w2 [_] := hM.call0 hN trivial; clear hN
      refine s_bin hE rfl rfl bin_leq rfl ?_; clear hE a; intro a hE
      refine s_move hE rfl rfl ?_; clear hE a; intro a hE
      replace hE := hE.cast 125 rfl (show _ = Value.bool false from (congrArg Value.bool (decide_eq_false (by omega))))
      refine g_no (b := false) hE rfl rfl rfl ?_; clear hE a; intro a hE
      refine g_no (b := false) hE rfl rfl rfl ?_; clear hE a; intro a hE
      refine g_no (b := false) hE rfl rfl rfl ?_; clear hE a; intro a hE
      refine s_pickf hE rfl rfl rfl ?_; clear hE a; intro a hE
      refine s_assign hE rfl rfl ?_; clear hE a; intro a hE
      refine q_nil ?_
      replace hE : Env a 172 [(0, _), (1, _), (2, _), (6, _), (7, _), (8, _), (9, _), (10, _), (11, _), (12, _), (13, _), (15, _), (16, _), (17, _), (19, _), (25, _), (77, _), (83, _), (85, _), (90, _), (92, _), (99, _), (100, _), (101, _), (102, _), (106, _), (112, _), (121, _), (137, _), (141, _), (159, _)] := hE.sel [0, 1, 2, 6, 7, 8, 9, 10, 11, 12, 13, 15, 16, 17, 19, 25, 77, 83, 85, 90, 92, 99, 100, 101, 102, 106, 112, 121, 137, 141, 159] rfl
      refine hK45 _ _ ?_
      refine wp_cond_false (hE.eval rfl) ?_
      refine wp_seq_k (fun K46 hK46 => ?_)
      refine wp_plain [true, true, true] rfl rfl ?_
      refine s_mkI hE rfl Tryd.underlying98 rfl rfl ?_; clear hE a; intro a hE
      refine s_assign hE rfl rfl ?_; clear hE a; intro a hE
      refine s_assign hE rfl rfl ?_; clear hE a; intro a hE
      refine q_nil ?_
      replace hE : Env a 172 [(0, _), (1, _), (2, _), (6, _), (7, _), (8, _), (9, _), (10, _), (11, _), (12, _), (13, _), (15, _), (16, _), (17, _), (19, _), (25, _), (77, _), (83, _), (85, _), (90, _), (92, _), (99, _), (100, _), (101, _), (102, _), (106, _), (112, _), (121, _), (137, _), (141, _), (159, _)] := hE.sel [0, 1, 2, 6, 7, 8, 9, 10, 11, 12, 13, 15, 16, 17, 19, 25, 77, 83, 85, 90, 92, 99, 100, 101, 102, 106, 112, 121, 137, 141, 159] rfl
      refine hK46 _ _ ?_
      refine wp_ret ?_
      refine q_block_r ?_
      refine q_then_r ?_
      refine q_block_r ?_
      refine q_then_r ?_
      refine q_then_r ?_
      refine q_block_r ?_
      refine q_then_r ?_
      refine f_ret2 hE rfl rfl rfl ?_
      exact ⟨(by rw [(pu_no2 hx2 98).1, (pu_no2 (c := c1) hx2 98).2]; rfl), hM.pick [] rfl⟩
    · refine q_nil ?_
      refine hK41 _ _ ?_
      refine wp_seq_k (fun K42 hK42 => ?_)
      refine wp_block ?_
      refine wp_seq_k (fun K43 hK43 => ?_)
      refine wp_plain [true, true, true, true, true, true] rfl rfl ?_
      refine s_move hE rfl rfl ?_; clear hE a; intro a hE
      refine s_bin hE rfl rfl bin_eql rfl ?_; clear hE a; intro a hE
      refine s_move hE rfl rfl ?_; clear hE a; intro a hE
      replace hE := hE.cast 109 rfl (show _ = Value.bool false from (congrArg Value.bool (decide_eq_false (by omega))))
      refine g_no (b := false) hE rfl rfl rfl ?_; clear hE a; intro a hE
      refine s_pickf hE rfl rfl rfl ?_; clear hE a; intro a hE
      refine s_assign hE rfl rfl ?_; clear hE a; intro a hE
      refine q_nil ?_
      replace hE : Env a 172 [(0, _), (1, _), (2, _), (6, _), (7, _), (8, _), (9, _), (10, _), (11, _), (12, _), (13, _), (15, _), (16, _), (17, _), (19, _), (25, _), (77, _), (83, _), (85, _), (90, _), (92, _), (99, _), (100, _), (101, _), (102, _), (106, _), (112, _), (137, _), (141, _), (159, _)] := hE.sel [0, 1, 2, 6, 7, 8, 9, 10, 11, 12, 13, 15, 16, 17, 19, 25, 77, 83, 85, 90, 92, 99, 100, 101, 102, 106, 112, 137, 141, 159] rfl
      refine hK43 _ _ ?_
      refine wp_cond_false (hE.eval rfl) ?_
      refine wp_seq_k (fun K44 hK44 => ?_)
      refine wp_plain [true, true, true, true, true, true, true] rfl rfl ?_
      refine s_move hE rfl rfl ?_; clear hE a; intro a hE
      refine s_bin hE rfl rfl bin_leq rfl ?_; clear hE a; intro a hE
      refine s_move hE rfl rfl ?_; clear hE a; intro a hE
      replace hE := hE.cast 115 rfl (show _ = Value.bool true from (congrArg Value.bool (decide_eq_true (by omega))))
      refine g_yes hE rfl rfl ?_
      refine s_move hE rfl rfl ?_; clear hE a; intro a hE
      refine g_yes hE rfl rfl ?_
      refine s_bin hE rfl rfl bin_leq rfl ?_; clear hE a; intro a hE
      refine s_pickt hE rfl rfl rfl ?_; clear hE a; intro a hE
      refine s_assign hE rfl rfl ?_; clear hE a; intro a hE
      refine q_nil ?_
      replace hE : Env a 172 [(0, _), (1, _), (2, _), (6, _), (7, _), (8, _), (9, _), (10, _), (11, _), (12, _), (13, _), (15, _), (16, _), (17, _), (19, _), (25, _), (77, _), (83, _), (85, _), (90, _), (92, _), (99, _), (100, _), (101, _), (102, _), (106, _), (112, _), (137, _), (141, _), (159, _)] := hE.sel [0, 1, 2, 6, 7, 8, 9, 10, 11, 12, 13, 15, 16, 17, 19, 25, 77, 83, 85, 90, 92, 99, 100, 101, 102, 106, 112, 137, 141, 159] rfl
      refine hK44 _ _ ?_
      replace hE := hE.cast 112 rfl (show _ = Value.bool false from (congrArg Value.bool (decide_eq_false (by omega))))
      refine wp_cond_false (hE.eval rfl) ?_
      refine wp_seq_k (fun K45 hK45 => ?_)
      refine wp_plain [true, false, true, true, true, false, true, true, true] rfl rfl ?_
      refine s_move hE rfl rfl ?_; clear hE a; intro a hE
      refine s_call hE rfl Tryd.call70 (lower_c c2 _ ) rfl ?_
      rintro e w2 ⟨rfl, hN⟩
      refine ⟨_, rfl, trivial, ?_⟩; clear hE a; intro a hE
      replace hM : Mem _ _ w2 [_] := hM.call0 hN trivial; clear hN
      refine s_bin hE rfl rfl bin_leq rfl ?_; clear hE a; intro a hE
      refine s_move hE rfl rfl ?_; clear hE a; intro a hE
      replace hE := hE.cast 125 rfl (show _ = Value.bool true from (congrArg Value.bool (decide_eq_true (by omega))))
      refine g_yes hE rfl rfl ?_
      refine s_move hE rfl rfl ?_; clear hE a; intro a hE
      refine g_yes hE rfl rfl ?_
      refine s_call hE rfl Tryd.call70 (lower_c c2 _ ) rfl ?_
      rintro e w3 ⟨rfl, hN⟩
      refine ⟨_, rfl, trivial, ?_⟩; clear hE a; intro a hE
      replace hM : Mem _ _ w3 [_] := hM.call0 hN trivial; clear hN
      refine g_yes hE rfl rfl ?_
      refine s_bin hE rfl rfl bin_leq rfl ?_; clear hE a; intro a hE
      refine s_pickt hE rfl rfl rfl ?_; clear hE a; intro a hE
      refine s_assign hE rfl rfl ?_; clear hE a; intro a hE
      refine q_nil ?_
      replace hE : Env a 172 [(0, _), (1, _), (2, _), (6, _), (7, _), (8, _), (9, _), (10, _), (11, _), (12, _), (13, _), (15, _), (16, _), (17, _), (19, _), (25, _), (77, _), (83, _), (85, _), (90, _), (92, _), (99, _), (100, _), (101, _), (102, _), (106, _), (112, _), (121, _), (137, _), (141, _), (159, _)] := hE.sel [0, 1, 2, 6, 7, 8, 9, 10, 11, 12, 13, 15, 16, 17, 19, 25, 77, 83, 85, 90, 92, 99, 100, 101, 102, 106, 112, 121, 137, 141, 159] rfl
      refine hK45 _ _ ?_
      replace hE := hE.cast 121 rfl (show _ = Value.bool false from (congrArg Value.bool (decide_eq_false (by omega))))
      refine wp_cond_false (hE.eval rfl) ?_
      refine wp_seq_k (fun K46 hK46 => ?_)
      refine wp_plain [true, true, true] rfl rfl ?_
      refine s_mkI hE rfl Tryd.underlying98 rfl rfl ?_; clear hE a; intro a hE
      refine s_assign hE rfl rfl ?_; clear hE a; intro a hE
      refine s_assign hE rfl rfl ?_; clear hE a; intro a hE
      refine q_nil ?_
      replace hE : Env a 172 [(0, _), (1, _), (2, _), (6, _), (7, _), (8, _), (9, _), (10, _), (11, _), (12, _), (13, _), (15, _), (16, _), (17, _), (19, _), (25, _), (77, _), (83, _), (85, _), (90, _), (92, _), (99, _), (100, _), (101, _), (102, _), (106, _), (112, _), (121, _), (137, _), (141, _), (159, _)] := hE.sel [0, 1, 2, 6, 7, 8, 9, 10, 11, 12, 13, 15, 16, 17, 19, 25, 77, 83, 85, 90, 92, 99, 100, 101, 102, 106, 112, 121, 137, 141, 159] rfl
      refine hK46 _ _ ?_
      refine wp_ret ?_
      refine q_block_r ?_
      refine q_then_r ?_
      refine q_block_r ?_
      refine q_then_r ?_
      refine q_then_r ?_
      refine q_block_r ?_
      refine q_then_r ?_
      refine f_ret2 hE rfl rfl rfl ?_
      exact ⟨(by rw [(pu_no2 hx2 98).1, (pu_no2 (c := c1) hx2 98).2]; rfl), hM.pick [] rfl⟩
    · refine q_nil ?_
      refine hK41 _ _ ?_
      refine wp_seq_k (fun K42 hK42 => ?_)
      refine wp_block ?_
      refine wp_seq_k (fun K43 hK43 => ?_)
      refine wp_plain [true, true, true, true, true, true] rfl rfl ?_
      refine s_move hE rfl rfl ?_; clear hE a; intro a hE
      refine s_bin hE rfl rfl bin_eql rfl ?_; clear hE a; intro a hE
      refine s_move hE rfl rfl ?_; clear hE a; intro a hE
      replace hE := hE.cast 109 rfl (show _ = Value.bool true from (congrArg Value.bool (decide_eq_true (by omega))))
      refine g_yes hE rfl rfl ?_
      refine s_move hE rfl rfl ?_; clear hE a; intro a hE
      refine s_pickt hE rfl rfl rfl ?_; clear hE a; intro a hE
      refine s_assign hE rfl rfl ?_; clear hE a; intro a hE
      refine q_nil ?_
      replace hE : Env a 172 [(0, _), (1, _), (2, _), (6, _), (7, _), (8, _), (9, _), (10, _), (11, _), (12, _), (13, _), (15, _), (16, _), (17, _), (19, _), (25, _), (77, _), (83, _), (85, _), (90, _), (92, _), (99, _), (100, _), (101, _), (102, _), (106, _), (112, _), (137, _), (141, _), (159, _)] := hE.sel [0, 1, 2, 6, 7, 8, 9, 10, 11, 12, 13, 15, 16, 17, 19, 25, 77, 83, 85, 90, 92, 99, 100, 101, 102, 106, 112, 137, 141, 159] rfl
      refine hK43 _ _ ?_
      refine wp_cond_false (hE.eval rfl) ?_
      refine wp_seq_k (fun K44 hK44 => ?_)
      refine wp_plain [true, true, true, true, true, true, true] rfl rfl ?_
      refine s_move hE rfl rfl ?_; clear hE a; intro a hE
      refine s_bin hE rfl rfl bin_leq rfl ?_; clear hE a; intro a hE
      refine s_move hE rfl rfl ?_; clear hE a; intro a hE
      replace hE := hE.cast 115 rfl (show _ = Value.bool true from (congrArg Value.bool (decide_eq_true (by omega))))
      refine g_yes hE rfl rfl ?_
      refine s_move hE rfl rfl ?_; clear hE a; intro a hE
      refine g_yes hE rfl rfl ?_
      refine s_bin hE rfl rfl bin_leq rfl ?_; clear hE a; intro a hE
      refine s_pickt hE rfl rfl rfl ?_; clear hE a; intro a hE
      refine s_assign hE rfl rfl ?_; clear hE a; intro a hE
      refine q_nil ?_
      replace hE : Env a 172 [(0, _), (1, _), (2, _), (6, _), (7, _), (8, _), (9, _), (10, _), (11, _), (12, _), (13, _), (15, _), (16, _), (17, _), (19, _), (25, _), (77, _), (83, _), (85, _), (90, _), (92, _), (99, _), (100, _), (101, _), (102, _), (106, _), (112, _), (137, _), (141, _), (159, _)] := hE.sel [0, 1, 2, 6, 7, 8, 9, 10, 11, 12, 13, 15, 16, 17, 19, 25, 77, 83, 85, 90, 92, 99, 100, 101, 102, 106, 112, 137, 141, 159] rfl
      refine hK44 _ _ ?_
      replace hE := hE.cast 112 rfl (show _ = Value.bool false from (congrArg Value.bool (decide_eq_false (by omega))))
      refine wp_cond_false (hE.eval rfl) ?_
      refine wp_seq_k (fun K45 hK45 => ?_)
      refine wp_plain [true, false, true, true, true, false, true, true, true] rfl rfl ?_
      refine s_move hE rfl rfl ?_; clear hE a; intro a hE
      refine s_call hE rfl Tryd.call70 (lower_c c2 _ ) rfl ?_
      rintro e w2 ⟨rfl, hN⟩
      refine ⟨_, rfl, trivial, ?_⟩; clear hE a; intro a hE
      replace hM : Mem _ _ w2 [_] := hM.call0 hN trivial; clear hN
      refine s_bin hE rfl rfl bin_leq rfl ?_; clear hE a; intro a hE
      refine s_move hE rfl rfl ?_; clear hE a; intro a hE
      replace hE := hE.cast 125 rfl (show _ = Value.bool true from (congrArg Value.bool (decide_eq_true (by omega))))
      refine g_yes hE rfl rfl ?_
      refine s_move hE rfl rfl ?_; clear hE a; intro a hE
      refine g_yes hE rfl rfl ?_
      refine s_call hE rfl Tryd.call70 (lower_c c2 _ ) rfl ?_
      rintro e w3 ⟨rfl, hN⟩
      refine ⟨_, rfl, trivial, ?_⟩; clear hE a; intro a hE
      replace hM : Mem _ _ w3 [_] := hM.call0 hN trivial; clear hN
      refine g_yes hE rfl rfl ?_
      refine s_bin hE rfl rfl bin_leq rfl ?_; clear hE a; intro a hE
      refine s_pickt hE rfl rfl rfl ?_; clear hE a; intro a hE
      refine s_assign hE rfl rfl ?_; clear hE a; intro a hE
      refine q_nil ?_
      replace hE : Env a 172 [(0, _), (1, _), (2, _), (6, _), (7, _), (8, _), (9, _), (10, _), (11, _), (12, _), (13, _), (15, _), (16, _), (17, _), (19, _), (25, _), (77, _), (83, _), (85, _), (90, _), (92, _), (99, _), (100, _), (101, _), (102, _), (106, _), (112, _), (121, _), (137, _), (141, _), (159, _)] := hE.sel [0, 1, 2, 6, 7, 8, 9, 10, 11, 12, 13, 15, 16, 17, 19, 25, 77, 83, 85, 90, 92, 99, 100, 101, 102, 106, 112, 121, 137, 141, 159] rfl
      refine hK45 _ _ ?_
      replace hE := hE.cast 121 rfl (show _ = Value.bool false from (congrArg Value.bool (decide_eq_false (by omega))))
      refine wp_cond_false (hE.eval rfl) ?_
      refine wp_seq_k (fun K46 hK46 => ?_)
      refine wp_plain [true, true, true] rfl rfl ?_
      refine s_mkI hE rfl Tryd.underlying98 rfl rfl ?_; clear hE a; intro a hE
      refine s_assign hE rfl rfl ?_; clear hE a; intro a hE
      refine s_assign hE rfl rfl ?_; clear hE a; intro a hE
      refine q_nil ?_
      replace hE : Env a 172 [(0, _), (1, _), (2, _), (6, _), (7, _), (8, _), (9, _), (10, _), (11, _), (12, _), (13, _), (15, _), (16, _), (17, _), (19, _), (25, _), (77, _), (83, _), (85, _), (90, _), (92, _), (99, _), (100, _), (101, _), (102, _), (106, _), (112, _), (121, _), (137, _), (141, _), (159, _)] := hE.sel [0, 1, 2, 6, 7, 8, 9, 10, 11, 12, 13, 15, 16, 17, 19, 25, 77, 83, 85, 90, 92, 99, 100, 101, 102, 106, 112, 121, 137, 141, 159] rfl
      refine hK46 _ _ ?_
      refine wp_ret ?_
      refine q_block_r ?_
      refine q_then_r ?_
      refine q_block_r ?_
      refine q_then_r ?_
      refine q_then_r ?_
      refine q_block_r ?_
      refine q_then_r ?_
      refine f_ret2 hE rfl rfl rfl ?_
      exact ⟨(by rw [(pu_no2 hx2 98).1, (pu_no2 (c := c1) hx2 98).2]; rfl), hM.pick [] rfl⟩
  · refine q_nil ?_
    refine hK25 _ _ ?_
    refine wp_seq_k (fun K26 hK26 => ?_)
    refine wp_block ?_
    refine wp_seq_k (fun K27 hK27 => ?_)
    refine wp_plain [true, true, true, true, true, true] rfl rfl ?_
    refine s_move hE rfl rfl ?_; clear hE a; intro a hE
    refine s_bin hE rfl rfl bin_eql rfl ?_; clear hE a; intro a hE
    refine s_move hE rfl rfl ?_; clear hE a; intro a hE
    replace hE := hE.cast 109 rfl (show _ = Value.bool false from (congrArg Value.bool (decide_eq_false (by omega))))
    refine g_no (b := false) hE rfl rfl rfl ?_; clear hE a; intro a hE
    refine s_pickf hE rfl rfl rfl ?_; clear hE a; intro a hE
    refine s_assign hE rfl rfl ?_; clear hE a; intro a hE
    refine q_nil ?_
    replace hE : Env a 172 [(0, _), (1, _), (2, _), (6, _), (7, _), (8, _), (9, _), (10, _), (11, _), (12, _), (13, _), (15, _), (16, _), (19, _), (25, _), (77, _), (83, _), (85, _), (90, _), (92, _), (99, _), (100, _), (101, _), (102, _), (106, _)] := hE.sel [0, 1, 2, 6, 7, 8, 9, 10, 11, 12, 13, 15, 16, 19, 25, 77, 83, 85, 90, 92, 99, 100, 101, 102, 106] rfl
    refine hK27 _ _ ?_
    refine wp_cond_false (hE.eval rfl) ?_
    refine wp_seq_k (fun K28 hK28 => ?_)
    refine wp_plain [true, true, true, true, true, true, true] rfl rfl ?_
    refine s_move hE rfl rfl ?_; clear hE a; intro a hE
    refine s_bin hE rfl rfl bin_leq rfl ?_; clear hE a; intro a hE
    refine s_move hE rfl rfl ?_; clear hE a; intro a hE
    replace hE := hE.cast 115 rfl (show _ = Value.bool true from (congrArg Value.bool (decide_eq_true (by omega))))
    refine g_yes hE rfl rfl ?_
    refine s_move hE rfl rfl ?_; clear hE a; intro a hE
    refine g_yes hE rfl rfl ?_
    refine s_bin hE rfl rfl bin_leq rfl ?_; clear hE a; intro a hE
    refine s_pickt hE rfl rfl rfl ?_; clear hE a; intro a hE
    refine s_assign hE rfl rfl ?_; clear hE a; intro a hE
    refine q_nil ?_
    replace hE : Env a 172 [(0, _), (1, _), (2, _), (6, _), (7, _), (8, _), (9, _), (10, _), (11, _), (12, _), (13, _), (15, _), (16, _), (19, _), (25, _), (77, _), (83, _), (85, _), (90, _), (92, _), (99, _), (100, _), (101, _), (102, _), (106, _), (112, _)] := hE.sel [0, 1, 2, 6, 7, 8, 9, 10, 11, 12, 13, 15, 16, 19, 25, 77, 83, 85, 90, 92, 99, 100, 101, 102, 106, 112] rfl
    refine hK28 _ _ ?_
    replace hE := hE.cast 112 rfl (show _ = Value.bool false from (congrArg Value.bool (decide_eq_false (by omega))))
    refine wp_cond_false (hE.eval rfl) ?_
    refine wp_seq_k (fun K29 hK29 => ?_)
    refine wp_plain [true, false, true, true, true, false, true, true, true] rfl rfl ?_
    refine s_move hE rfl rfl ?_; clear hE a; intro a hE
    refine s_call hE rfl Tryd.call70 (lower_c c1 _ ) rfl ?_
    rintro e w2 ⟨rfl, hN⟩
    refine ⟨_, rfl, trivial, ?_⟩; clear hE a; intro a hE
    replace hM : Mem _ _ w2 [_] := hM.call0 hN trivial; clear hN
    refine s_bin hE rfl rfl bin_leq rfl ?_; clear hE a; intro a hE
    refine s_move hE rfl rfl ?_; clear hE a; intro a hE
    replace hE := hE.cast 125 rfl (show _ = Value.bool true from (congrArg Value.bool (decide_eq_true (by omega))))
    refine g_yes hE rfl rfl ?_
    refine s_move hE rfl rfl ?_; clear hE a; intro a hE
    refine g_yes hE rfl rfl ?_
    refine s_call hE rfl Tryd.call70 (lower_c c1 _ ) rfl ?_
    rintro e w3 ⟨rfl, hN⟩
    refine ⟨_, rfl, trivial, ?_⟩; clear hE a; intro a hE
    replace hM : Mem _ _ w3 [_] := hM.call0 hN trivial; clear hN
    refine g_yes hE rfl rfl ?_
    refine s_bin hE rfl rfl bin_leq rfl ?_; clear hE a; intro a hE
    refine s_pickt hE rfl rfl rfl ?_; clear hE a; intro a hE
    refine s_assign hE rfl rfl ?_; clear hE a; intro a hE
    refine q_nil ?_
    replace hE : Env a 172 [(0, _), (1, _), (2, _), (6, _), (7, _), (8, _), (9, _), (10, _), (11, _), (12, _), (13, _), (15, _), (16, _), (19, _), (25, _), (77, _), (83, _), (85, _), (90, _), (92, _), (99, _), (100, _), (101, _), (102, _), (106, _), (112, _), (121, _)] := hE.sel [0, 1, 2, 6, 7, 8, 9, 10, 11, 12, 13, 15, 16, 19, 25, 77, 83, 85, 90, 92, 99, 100, 101, 102, 106, 112, 121] rfl
    refine hK29 _ _ ?_
    replace hE := hE.cast 121 rfl (show _ = Value.bool true from (congrArg Value.bool (decide_eq_true (by omega))))
    refine wp_cond_true (hE.eval rfl) ?_
    refine wp_plain [true, false, true, true, true] rfl rfl ?_
    refine s_move hE rfl rfl ?_; clear hE a; intro a hE
    refine s_call hE rfl Tryd.call70 (lower_c c1 _ ) rfl ?_
    rintro e w4 ⟨rfl, hN⟩
    refine ⟨_, rfl, trivial, ?_⟩; clear hE a; intro a hE
    replace hM : Mem _ _ w4 [_] := hM.call0 hN trivial; clear hN
    refine s_bin hE rfl rfl (bin_sub_u8 (b := c1 ||| 32) (c := 97)) rfl ?_; clear hE a; intro a hE
    refine s_bin hE rfl rfl (bin_add_u8 (b := (c1 ||| 32) - 97) (c := 10)) rfl ?_; clear hE a; intro a hE
    refine s_assign hE rfl rfl ?_; clear hE a; intro a hE
    refine q_nil ?_
    replace hE : Env a 172 [(0, _), (1, _), (2, _), (6, _), (7, _), (8, _), (9, _), (10, _), (11, _), (12, _), (13, _), (15, _), (16, _), (19, _), (25, _), (77, _), (83, _), (85, _), (90, _), (92, _), (99, _), (100, _), (101, _), (102, _), (106, _), (112, _), (121, _)] := hE.sel [0, 1, 2, 6, 7, 8, 9, 10, 11, 12, 13, 15, 16, 19, 25, 77, 83, 85, 90, 92, 99, 100, 101, 102, 106, 112, 121] rfl
    refine q_block_n ?_
    refine hK26 _ _ ?_
    refine wp_seq_k (fun K30 hK30 => ?_)
    refine wp_seq_k (fun K31 hK31 => ?_)
    refine wp_plain [true, true, true, true] rfl rfl ?_
    refine s_move hE rfl rfl ?_; clear hE a; intro a hE
    refine s_move hE rfl rfl ?_; clear hE a; intro a hE
    refine s_conv hE rfl (cnv_int Tryd.underlying3 Tryd.underlying5 ((show IntKind.u8.wrap 16 = 16 by decide))) rfl ?_; clear hE a; intro a hE
    refine s_bin hE rfl rfl bin_geq rfl ?_; clear hE a; intro a hE
    refine q_nil ?_
    replace hE : Env a 172 [(0, _), (1, _), (2, _), (6, _), (7, _), (8, _), (9, _), (10, _), (11, _), (12, _), (13, _), (15, _), (16, _), (19, _), (25, _), (77, _), (83, _), (85, _), (90, _), (92, _), (99, _), (100, _), (101, _), (102, _), (106, _), (112, _), (121, _), (137, _)] := hE.sel [0, 1, 2, 6, 7, 8, 9, 10, 11, 12, 13, 15, 16, 19, 25, 77, 83, 85, 90, 92, 99, 100, 101, 102, 106, 112, 121, 137] rfl
    refine hK31 _ _ ?_
    refine hE.split 137 rfl (fun hb137 hE' => ?_) (fun hb137 hE' => ?_)
    · replace hE := hE'; clear hE'
      replace hb137 := of_decide_eq_true hb137
      have hx1 : ¬ (dg c1).toNat < 16 := by rw [hd1]; omega
      refine wp_cond_true (hE.eval rfl) ?_
      refine wp_seq_k (fun K32 hK32 => ?_)
      refine wp_plain [true, true, true] rfl rfl ?_
      refine s_mkI hE rfl Tryd.underlying98 rfl rfl ?_; clear hE a; intro a hE
      refine s_assign hE rfl rfl ?_; clear hE a; intro a hE
      refine s_assign hE rfl rfl ?_; clear hE a; intro a hE
      refine q_nil ?_
      replace hE : Env a 172 [(0, _), (1, _), (2, _), (6, _), (7, _), (8, _), (9, _), (10, _), (11, _), (12, _), (13, _), (15, _), (16, _), (19, _), (25, _), (77, _), (83, _), (85, _), (90, _), (92, _), (99, _), (100, _), (101, _), (102, _), (106, _), (112, _), (121, _), (137, _)] := hE.sel [0, 1, 2, 6, 7, 8, 9, 10, 11, 12, 13, 15, 16, 19, 25, 77, 83, 85, 90, 92, 99, 100, 101, 102, 106, 112, 121, 137] rfl
      refine hK32 _ _ ?_
      refine wp_ret ?_
      refine q_then_r ?_
      refine q_block_r ?_
      refine q_then_r ?_
      refine q_then_r ?_
      refine q_block_r ?_
      refine q_then_r ?_
      refine f_ret2 hE rfl rfl rfl ?_
      exact ⟨(by rw [(pu_no1 hx1 98).1, (pu_no1 (d := c2) hx1 98).2]; rfl), hM.pick [] rfl⟩
    · replace hE := hE'; clear hE'
      replace hb137 := of_decide_eq_false hb137
      have hx1 : (dg c1).toNat < 16 := by rw [hd1]; omega
      refine wp_cond_false (hE.eval rfl) ?_
      refine wp_skip ?_
      refine hK30 _ _ ?_
      refine wp_seq_k (fun K32 hK32 => ?_)
      refine wp_seq_k (fun K33 hK33 => ?_)
      refine wp_plain [true, true, true] rfl rfl ?_
      refine s_move hE rfl rfl ?_; clear hE a; intro a hE
      refine s_move hE rfl rfl ?_; clear hE a; intro a hE
      refine s_bin hE rfl rfl bin_geq rfl ?_; clear hE a; intro a hE
      replace hE := hE.cast 141 rfl (show _ = Value.bool false from (congrArg Value.bool (by decide)))
      refine q_nil ?_
      replace hE : Env a 172 [(0, _), (1, _), (2, _), (6, _), (7, _), (8, _), (9, _), (10, _), (11, _), (12, _), (13, _), (15, _), (16, _), (19, _), (25, _), (77, _), (83, _), (85, _), (90, _), (92, _), (99, _), (100, _), (101, _), (102, _), (106, _), (112, _), (121, _), (137, _), (141, _)] := hE.sel [0, 1, 2, 6, 7, 8, 9, 10, 11, 12, 13, 15, 16, 19, 25, 77, 83, 85, 90, 92, 99, 100, 101, 102, 106, 112, 121, 137, 141] rfl
      refine hK33 _ _ ?_
      refine wp_cond_false (hE.eval rfl) ?_
      refine wp_skip ?_
      refine hK32 _ _ ?_
      refine wp_seq_k (fun K34 hK34 => ?_)
      refine wp_plain [true, true, true, true, true] rfl rfl ?_
      refine s_move hE rfl rfl ?_; clear hE a; intro a hE
      refine s_move hE rfl rfl ?_; clear hE a; intro a hE
      refine s_conv hE rfl (cnv_int Tryd.underlying3 Tryd.underlying69 (wrap_u64 (by omega) (by omega))) rfl ?_; clear hE a; intro a hE
      refine s_bin hE rfl rfl (show Bin _ _ _ _ _ (.int .u64 0) from bin_mul (by rw [wrap_u64 (by omega) (by omega)]; omega)) rfl ?_; clear hE a; intro a hE
      refine s_assign hE rfl rfl ?_; clear hE a; intro a hE
      refine q_nil ?_
      replace hE : Env a 172 [(0, _), (1, _), (2, _), (6, _), (7, _), (8, _), (9, _), (10, _), (11, _), (12, _), (13, _), (15, _), (16, _), (19, _), (25, _), (77, _), (83, _), (85, _), (90, _), (92, _), (99, _), (100, _), (101, _), (102, _), (106, _), (112, _), (121, _), (137, _), (141, _)] := hE.sel [0, 1, 2, 6, 7, 8, 9, 10, 11, 12, 13, 15, 16, 19, 25, 77, 83, 85, 90, 92, 99, 100, 101, 102, 106, 112, 121, 137, 141] rfl
      refine hK34 _ _ ?_
      refine wp_seq_k (fun K35 hK35 => ?_)
      refine wp_plain [true, true, true, true, true] rfl rfl ?_
      refine s_move hE rfl rfl ?_; clear hE a; intro a hE
      refine s_move hE rfl rfl ?_; clear hE a; intro a hE
      refine s_conv hE rfl (cnv_int Tryd.underlying5 Tryd.underlying69 (wrap_u64 (by omega) (by have := (((c1 ||| 32) - 97) + 10 : UInt8).toNat_lt; omega))) rfl ?_; clear hE a; intro a hE
      refine s_bin hE rfl rfl (show Bin _ _ _ _ _ (.int .u64 ((0 + ((((c1 ||| 32) - 97) + 10).toNat) : Nat) : Int)) from bin_add (by rw [wrap_u64 (by omega) (by omega)]; omega)) rfl ?_; clear hE a; intro a hE
      refine s_assign hE rfl rfl ?_; clear hE a; intro a hE
      refine q_nil ?_
      replace hE : Env a 172 [(0, _), (1, _), (2, _), (6, _), (7, _), (8, _), (9, _), (10, _), (11, _), (12, _), (13, _), (15, _), (16, _), (17, _), (19, _), (25, _), (77, _), (83, _), (85, _), (90, _), (92, _), (99, _), (100, _), (101, _), (102, _), (106, _), (112, _), (121, _), (137, _), (141, _)] := hE.sel [0, 1, 2, 6, 7, 8, 9, 10, 11, 12, 13, 15, 16, 17, 19, 25, 77, 83, 85, 90, 92, 99, 100, 101, 102, 106, 112, 121, 137, 141] rfl
      refine hK35 _ _ ?_
      refine wp_seq_k (fun K36 hK36 => ?_)
      refine wp_seq_k (fun K37 hK37 => ?_)
      refine wp_plain [true, true, true, true, true, true, true, true] rfl rfl ?_
      refine s_move hE rfl rfl ?_; clear hE a; intro a hE
      refine s_move hE rfl rfl ?_; clear hE a; intro a hE
      refine s_bin hE rfl rfl bin_lss rfl ?_; clear hE a; intro a hE
      refine s_move hE rfl rfl ?_; clear hE a; intro a hE
      replace hE := hE.cast 155 rfl (show _ = Value.bool false from (congrArg Value.bool (decide_eq_false (by omega))))
      refine g_yes hE rfl rfl ?_
      refine s_move hE rfl rfl ?_; clear hE a; intro a hE
      refine g_yes hE rfl rfl ?_
      refine s_move hE rfl rfl ?_; clear hE a; intro a hE
      refine g_yes hE rfl rfl ?_
      refine s_bin hE rfl rfl bin_gtr rfl ?_; clear hE a; intro a hE
      refine s_pickf hE rfl rfl rfl ?_; clear hE a; intro a hE
      refine q_nil ?_
      replace hE : Env a 172 [(0, _), (1, _), (2, _), (6, _), (7, _), (8, _), (9, _), (10, _), (11, _), (12, _), (13, _), (15, _), (16, _), (17, _), (19, _), (25, _), (77, _), (83, _), (85, _), (90, _), (92, _), (99, _), (100, _), (101, _), (102, _), (106, _), (112, _), (121, _), (137, _), (141, _), (159, _)] := hE.sel [0, 1, 2, 6, 7, 8, 9, 10, 11, 12, 13, 15, 16, 17, 19, 25, 77, 83, 85, 90, 92, 99, 100, 101, 102, 106, 112, 121, 137, 141, 159] rfl
      refine hK37 _ _ ?_
      replace hE := hE.cast 159 rfl (show _ = Value.bool false from (congrArg Value.bool (decide_eq_false (by omega))))
      refine wp_cond_false (hE.eval rfl) ?_
      refine wp_skip ?_
      refine hK36 _ _ ?_
      refine wp_plain [true, true] rfl rfl ?_
      refine s_move hE rfl rfl ?_; clear hE a; intro a hE
      refine s_assign hE rfl rfl ?_; clear hE a; intro a hE
      refine q_nil ?_
      replace hE : Env a 172 [(0, _), (1, _), (2, _), (6, _), (7, _), (8, _), (9, _), (10, _), (11, _), (12, _), (13, _), (15, _), (16, _), (17, _), (19, _), (25, _), (77, _), (83, _), (85, _), (90, _), (92, _), (99, _), (100, _), (101, _), (102, _), (106, _), (112, _), (121, _), (137, _), (141, _), (159, _)] := hE.sel [0, 1, 2, 6, 7, 8, 9, 10, 11, 12, 13, 15, 16, 17, 19, 25, 77, 83, 85, 90, 92, 99, 100, 101, 102, 106, 112, 121, 137, 141, 159] rfl
      refine q_block_n ?_
      refine hK23 _ _ ?_
      refine wp_plain [true, true] rfl rfl ?_
      refine s_bin hE rfl rfl (show Bin _ _ _ _ _ (.int .i64 1) from bin_add (by rw [wrap_i64 (by omega) (by omega)]; omega)) rfl ?_; clear hE a; intro a hE
      refine s_move hE rfl rfl ?_; clear hE a; intro a hE
      refine q_nil ?_
      replace hE : Env a 172 [(0, _), (1, _), (2, _), (6, _), (7, _), (8, _), (9, _), (10, _), (11, _), (12, _), (13, _), (15, _), (16, _), (17, _), (19, _), (25, _), (77, _), (83, _), (85, _), (90, _), (92, _), (99, _), (100, _), (101, _), (102, _), (106, _), (112, _), (121, _), (137, _), (141, _), (159, _)] := hE.sel [0, 1, 2, 6, 7, 8, 9, 10, 11, 12, 13, 15, 16, 17, 19, 25, 77, 83, 85, 90, 92, 99, 100, 101, 102, 106, 112, 121, 137, 141, 159] rfl
      replace hM : Mem _ _ w4 [_] := hM.pick [0] rfl
      refine q_then_n (c_rounds ?_)
      refine wp_seq_k (fun K38 hK38 => ?_)
      refine wp_plain [true] rfl rfl ?_
      refine s_bin hE rfl rfl bin_lss rfl ?_; clear hE a; intro a hE
      replace hE := hE.cast 102 rfl (show _ = Value.bool true from (congrArg Value.bool (by decide)))
      refine q_nil ?_
      refine hK38 _ _ ?_
      refine wp_seq_k (fun K39 hK39 => ?_)
      refine wp_cond_true (hE.eval rfl) ?_
      refine wp_skip ?_
      refine hK39 _ _ ?_
      refine wp_seq_k (fun K40 hK40 => ?_)
      refine wp_block ?_
      refine wp_seq_k (fun K41 hK41 => ?_)
      refine wp_plain [true, true, true] rfl rfl ?_
      obtain ⟨cx103, hx103⟩ := own_rd (hM.get 0 rfl)
      refine s_indexRd (j := 1) hE rfl hx103 rfl slt23 (by first | rfl | omega) (by have hl_ : [c1, c2].length = 2 := rfl; first | omega | (rw [bv_length]; omega) | (simp; omega)) rfl ?_; clear hE a; intro a p103 hE hc103 hp103
      rw [bv_elem (by have hl_ : [c1, c2].length = 2 := rfl; first | omega | (rw [bv_length]; omega) | (simp; omega))] at hc103
      refine s_loadAt1 hE rfl hc103 one5 (by intro X h; cases h) rfl ?_; clear hE a; intro a hE
      refine s_assign hE rfl rfl ?_; clear hE a; intro a hE
      refine q_nil ?_
      replace hE : Env a 172 [(0, _), (1, _), (2, _), (6, _), (7, _), (8, _), (9, _), (10, _), (11, _), (12, _), (13, _), (15, _), (16, _), (17, _), (19, _), (25, _), (77, _), (83, _), (85, _), (90, _), (92, _), (99, _), (100, _), (101, _), (102, _), (106, _), (112, _), (121, _), (137, _), (141, _), (159, _)] := hE.sel [0, 1, 2, 6, 7, 8, 9, 10, 11, 12, 13, 15, 16, 17, 19, 25, 77, 83, 85, 90, 92, 99, 100, 101, 102, 106, 112, 121, 137, 141, 159] rfl
      refine hK41 _ _ ?_
      refine wp_seq_k (fun K42 hK42 => ?_)
      refine wp_plain [true] rfl rfl ?_
      refine s_assign hE rfl rfl ?_; clear hE a; intro a hE
      replace hE := hE.cast 15 rfl (show _ = Value.int .u8 (c2.toNat : Int) from rfl)
      rcases dg_cases c2 with ⟨ha2, hd2, hx2⟩ | ⟨ha2, hu2, hl2, hd2⟩ | ⟨ha2, hl2, hx2⟩ | ⟨ha2, hl2, hx2⟩ | ⟨ha2, hl2, hx2⟩ | ⟨ha2, hl2, hx2⟩
      · refine q_nil ?_
        refine hK42 _ _ ?_
        refine wp_seq_k (fun K43 hK43 => ?_)
        refine wp_block ?_
        refine wp_seq_k (fun K44 hK44 => ?_)
        refine wp_plain [true, true, true, true, true, true] rfl rfl ?_
        refine s_move hE rfl rfl ?_; clear hE a; intro a hE
        refine s_bin hE rfl rfl bin_eql rfl ?_; clear hE a; intro a hE
        refine s_move hE rfl rfl ?_; clear hE a; intro a hE
        replace hE := hE.cast 109 rfl (show _ = Value.bool false from (congrArg Value.bool (decide_eq_false (by omega))))
        refine g_no (b := false) hE rfl rfl rfl ?_; clear hE a; intro a hE
        refine s_pickf hE rfl rfl rfl ?_; clear hE a; intro a hE
        refine s_assign hE rfl rfl ?_; clear hE a; intro a hE
        refine q_nil ?_
        replace hE : Env a 172 [(0, _), (1, _), (2, _), (6, _), (7, _), (8, _), (9, _), (10, _), (11, _), (12, _), (13, _), (15, _), (16, _), (17, _), (19, _), (25, _), (77, _), (83, _), (85, _), (90, _), (92, _), (99, _), (100, _), (101, _), (102, _), (106, _), (112, _), (121, _), (137, _), (141, _), (159, _)] := hE.sel [0, 1, 2, 6, 7, 8, 9, 10, 11, 12, 13, 15, 16, 17, 19, 25, 77, 83, 85, 90, 92, 99, 100, 101, 102, 106, 112, 121, 137, 141, 159] rfl
        refine hK44 _ _ ?_
        refine wp_cond_false (hE.eval rfl) ?_
        refine wp_seq_k (fun K45 hK45 => ?_)
        refine wp_plain [true, true, true, true, true, true, true] rfl rfl ?_
        refine s_move hE rfl rfl ?_; clear hE a; intro a hE
        refine s_bin hE rfl rfl bin_leq rfl ?_; clear hE a; intro a hE
        refine s_move hE rfl rfl ?_; clear hE a; intro a hE
        replace hE := hE.cast 115 rfl (show _ = Value.bool true from (congrArg Value.bool (decide_eq_true (by omega))))
        refine g_yes hE rfl rfl ?_
        refine s_move hE rfl rfl ?_; clear hE a; intro a hE
        refine g_yes hE rfl rfl ?_
        refine s_bin hE rfl rfl bin_leq rfl ?_; clear hE a; intro a hE
        refine s_pickt hE rfl rfl rfl ?_; clear hE a; intro a hE
        refine s_assign hE rfl rfl ?_; clear hE a; intro a hE
        refine q_nil ?_
        replace hE : Env a 172 [(0, _), (1, _), (2, _), (6, _), (7, _), (8, _), (9, _), (10, _), (11, _), (12, _), (13, _), (15, _), (16, _), (17, _), (19, _), (25, _), (77, _), (83, _), (85, _), (90, _), (92, _), (99, _), (100, _), (101, _), (102, _), (106, _), (112, _), (121, _), (137, _), (141, _), (159, _)] := hE.sel [0, 1, 2, 6, 7, 8, 9, 10, 11, 12, 13, 15, 16, 17, 19, 25, 77, 83, 85, 90, 92, 99, 100, 101, 102, 106, 112, 121, 137, 141, 159] rfl
        refine hK45 _ _ ?_
        replace hE := hE.cast 112 rfl (show _ = Value.bool true from (congrArg Value.bool (decide_eq_true (by omega))))
        refine wp_cond_true (hE.eval rfl) ?_
        refine wp_plain [true, true, true] rfl rfl ?_
        refine s_move hE rfl rfl ?_; clear hE a; intro a hE
        refine s_bin hE rfl rfl (bin_sub_u8 (b := c2) (c := 48)) rfl ?_; clear hE a; intro a hE
        refine s_assign hE rfl rfl ?_; clear hE a; intro a hE
        refine q_nil ?_
        replace hE : Env a 172 [(0, _), (1, _), (2, _), (6, _), (7, _), (8, _), (9, _), (10, _), (11, _), (12, _), (13, _), (15, _), (16, _), (17, _), (19, _), (25, _), (77, _), (83, _), (85, _), (90, _), (92, _), (99, _), (100, _), (101, _), (102, _), (106, _), (112, _), (121, _), (137, _), (141, _), (159, _)] := hE.sel [0, 1, 2, 6, 7, 8, 9, 10, 11, 12, 13, 15, 16, 17, 19, 25, 77, 83, 85, 90, 92, 99, 100, 101, 102, 106, 112, 121, 137, 141, 159] rfl
        refine q_block_n ?_
        refine hK43 _ _ ?_
        refine wp_seq_k (fun K46 hK46 => ?_)
        refine wp_seq_k (fun K47 hK47 => ?_)
        refine wp_plain [true, true, true, true] rfl rfl ?_
        refine s_move hE rfl rfl ?_; clear hE a; intro a hE
        refine s_move hE rfl rfl ?_; clear hE a; intro a hE
        refine s_conv hE rfl (cnv_int Tryd.underlying3 Tryd.underlying5 ((show IntKind.u8.wrap 16 = 16 by decide))) rfl ?_; clear hE a; intro a hE
        refine s_bin hE rfl rfl bin_geq rfl ?_; clear hE a; intro a hE
        refine q_nil ?_
        replace hE : Env a 172 [(0, _), (1, _), (2, _), (6, _), (7, _), (8, _), (9, _), (10, _), (11, _), (12, _), (13, _), (15, _), (16, _), (17, _), (19, _), (25, _), (77, _), (83, _), (85, _), (90, _), (92, _), (99, _), (100, _), (101, _), (102, _), (106, _), (112, _), (121, _), (137, _), (141, _), (159, _)] := hE.sel [0, 1, 2, 6, 7, 8, 9, 10, 11, 12, 13, 15, 16, 17, 19, 25, 77, 83, 85, 90, 92, 99, 100, 101, 102, 106, 112, 121, 137, 141, 159] rfl
        refine hK47 _ _ ?_
        replace hE := hE.cast 137 rfl (show _ = Value.bool false from (congrArg Value.bool (decide_eq_false (by omega))))
        refine wp_cond_false (hE.eval rfl) ?_
        refine wp_skip ?_
        refine hK46 _ _ ?_
        refine wp_seq_k (fun K48 hK48 => ?_)
        refine wp_seq_k (fun K49 hK49 => ?_)
        refine wp_plain [true, true, true] rfl rfl ?_
        refine s_move hE rfl rfl ?_; clear hE a; intro a hE
        refine s_move hE rfl rfl ?_; clear hE a; intro a hE
        refine s_bin hE rfl rfl bin_geq rfl ?_; clear hE a; intro a hE
        refine q_nil ?_
        replace hE : Env a 172 [(0, _), (1, _), (2, _), (6, _), (7, _), (8, _), (9, _), (10, _), (11, _), (12, _), (13, _), (15, _), (16, _), (17, _), (19, _), (25, _), (77, _), (83, _), (85, _), (90, _), (92, _), (99, _), (100, _), (101, _), (102, _), (106, _), (112, _), (121, _), (137, _), (141, _), (159, _)] := hE.sel [0, 1, 2, 6, 7, 8, 9, 10, 11, 12, 13, 15, 16, 17, 19, 25, 77, 83, 85, 90, 92, 99, 100, 101, 102, 106, 112, 121, 137, 141, 159] rfl
        refine hK49 _ _ ?_
        replace hE := hE.cast 141 rfl (show _ = Value.bool false from (congrArg Value.bool (decide_eq_false (by omega))))
        refine wp_cond_false (hE.eval rfl) ?_
        refine wp_skip ?_
        refine hK48 _ _ ?_
        refine wp_seq_k (fun K50 hK50 => ?_)
        refine wp_plain [true, true, true, true, true] rfl rfl ?_
        refine s_move hE rfl rfl ?_; clear hE a; intro a hE
        refine s_move hE rfl rfl ?_; clear hE a; intro a hE
        refine s_conv hE rfl (cnv_int Tryd.underlying3 Tryd.underlying69 (wrap_u64 (by omega) (by omega))) rfl ?_; clear hE a; intro a hE
        refine s_bin hE rfl rfl (show Bin _ _ _ _ _ (.int .u64 (((0 + ((((c1 ||| 32) - 97) + 10).toNat)) * 16 : Nat) : Int)) from bin_mul (by rw [wrap_u64 (by omega) (by omega)]; omega)) rfl ?_; clear hE a; intro a hE
        refine s_assign hE rfl rfl ?_; clear hE a; intro a hE
        refine q_nil ?_
        replace hE : Env a 172 [(0, _), (1, _), (2, _), (6, _), (7, _), (8, _), (9, _), (10, _), (11, _), (12, _), (13, _), (15, _), (16, _), (17, _), (19, _), (25, _), (77, _), (83, _), (85, _), (90, _), (92, _), (99, _), (100, _), (101, _), (102, _), (106, _), (112, _), (121, _), (137, _), (141, _), (159, _)] := hE.sel [0, 1, 2, 6, 7, 8, 9, 10, 11, 12, 13, 15, 16, 17, 19, 25, 77, 83, 85, 90, 92, 99, 100, 101, 102, 106, 112, 121, 137, 141, 159] rfl
        refine hK50 _ _ ?_
        refine wp_seq_k (fun K51 hK51 => ?_)
        refine wp_plain [true, true, true, true, true] rfl rfl ?_
        refine s_move hE rfl rfl ?_; clear hE a; intro a hE
        refine s_move hE rfl rfl ?_; clear hE a; intro a hE
        refine s_conv hE rfl (cnv_int Tryd.underlying5 Tryd.underlying69 (wrap_u64 (by omega) (by have := (c2 - 48 : UInt8).toNat_lt; omega))) rfl ?_; clear hE a; intro a hE
        refine s_bin hE rfl rfl (show Bin _ _ _ _ _ (.int .u64 ((((0 + ((((c1 ||| 32) - 97) + 10).toNat)) * 16) + ((c2 - 48).toNat) : Nat) : Int)) from bin_add (by rw [wrap_u64 (by omega) (by omega)]; omega)) rfl ?_; clear hE a; intro a hE
        refine s_assign hE rfl rfl ?_; clear hE a; intro a hE
        refine q_nil ?_
        replace hE : Env a 172 [(0, _), (1, _), (2, _), (6, _), (7, _), (8, _), (9, _), (10, _), (11, _), (12, _), (13, _), (15, _), (16, _), (17, _), (19, _), (25, _), (77, _), (83, _), (85, _), (90, _), (92, _), (99, _), (100, _), (101, _), (102, _), (106, _), (112, _), (121, _), (137, _), (141, _), (159, _)] := hE.sel [0, 1, 2, 6, 7, 8, 9, 10, 11, 12, 13, 15, 16, 17, 19, 25, 77, 83, 85, 90, 92, 99, 100, 101, 102, 106, 112, 121, 137, 141, 159] rfl
        refine hK51 _ _ ?_
        refine wp_seq_k (fun K52 hK52 => ?_)
        refine wp_seq_k (fun K53 hK53 => ?_)
        refine wp_plain [true, true, true, true, true, true, true, true] rfl rfl ?_
        refine s_move hE rfl rfl ?_; clear hE a; intro a hE
        refine s_move hE rfl rfl ?_; clear hE a; intro a hE
        refine s_bin hE rfl rfl bin_lss rfl ?_; clear hE a; intro a hE
        refine s_move hE rfl rfl ?_; clear hE a; intro a hE
        replace hE := hE.cast 155 rfl (show _ = Value.bool false from (congrArg Value.bool (decide_eq_false (by omega))))
        refine g_yes hE rfl rfl ?_
        refine s_move hE rfl rfl ?_; clear hE a; intro a hE
        refine g_yes hE rfl rfl ?_
        refine s_move hE rfl rfl ?_; clear hE a; intro a hE
        refine g_yes hE rfl rfl ?_
        refine s_bin hE rfl rfl bin_gtr rfl ?_; clear hE a; intro a hE
        refine s_pickf hE rfl rfl rfl ?_; clear hE a; intro a hE
        refine q_nil ?_
        replace hE : Env a 172 [(0, _), (1, _), (2, _), (6, _), (7, _), (8, _), (9, _), (10, _), (11, _), (12, _), (13, _), (15, _), (16, _), (17, _), (19, _), (25, _), (77, _), (83, _), (85, _), (90, _), (92, _), (99, _), (100, _), (101, _), (102, _), (106, _), (112, _), (121, _), (137, _), (141, _), (159, _)] := hE.sel [0, 1, 2, 6, 7, 8, 9, 10, 11, 12, 13, 15, 16, 17, 19, 25, 77, 83, 85, 90, 92, 99, 100, 101, 102, 106, 112, 121, 137, 141, 159] rfl
        refine hK53 _ _ ?_
        replace hE := hE.cast 159 rfl (show _ = Value.bool false from (congrArg Value.bool (decide_eq_false (by omega))))
        refine wp_cond_false (hE.eval rfl) ?_
        refine wp_skip ?_
        refine hK52 _ _ ?_
        refine wp_plain [true, true] rfl rfl ?_
        refine s_move hE rfl rfl ?_; clear hE a; intro a hE
        refine s_assign hE rfl rfl ?_; clear hE a; intro a hE
        refine q_nil ?_
        replace hE : Env a 172 [(0, _), (1, _), (2, _), (6, _), (7, _), (8, _), (9, _), (10, _), (11, _), (12, _), (13, _), (15, _), (16, _), (17, _), (19, _), (25, _), (77, _), (83, _), (85, _), (90, _), (92, _), (99, _), (100, _), (101, _), (102, _), (106, _), (112, _), (121, _), (137, _), (141, _), (159, _)] := hE.sel [0, 1, 2, 6, 7, 8, 9, 10, 11, 12, 13, 15, 16, 17, 19, 25, 77, 83, 85, 90, 92, 99, 100, 101, 102, 106, 112, 121, 137, 141, 159] rfl
        refine q_block_n ?_
        refine hK40 _ _ ?_
        refine wp_plain [true, true] rfl rfl ?_
        refine s_bin hE rfl rfl (show Bin _ _ _ _ _ (.int .i64 2) from bin_add (by rw [wrap_i64 (by omega) (by omega)]; omega)) rfl ?_; clear hE a; intro a hE
        refine s_move hE rfl rfl ?_; clear hE a; intro a hE
        refine q_nil ?_
        replace hE : Env a 172 [(0, _), (1, _), (2, _), (6, _), (7, _), (8, _), (9, _), (10, _), (11, _), (12, _), (13, _), (15, _), (16, _), (17, _), (19, _), (25, _), (77, _), (83, _), (85, _), (90, _), (92, _), (99, _), (100, _), (101, _), (102, _), (106, _), (112, _), (121, _), (137, _), (141, _), (159, _)] := hE.sel [0, 1, 2, 6, 7, 8, 9, 10, 11, 12, 13, 15, 16, 17, 19, 25, 77, 83, 85, 90, 92, 99, 100, 101, 102, 106, 112, 121, 137, 141, 159] rfl
        replace hM : Mem _ _ w4 [_] := hM.pick [0] rfl
        refine q_then_n (c_rounds ?_)
        refine wp_seq_k (fun K54 hK54 => ?_)
        refine wp_plain [true] rfl rfl ?_
        refine s_bin hE rfl rfl bin_lss rfl ?_; clear hE a; intro a hE
        replace hE := hE.cast 102 rfl (show _ = Value.bool false from (congrArg Value.bool (by decide)))
        refine q_nil ?_
        refine hK54 _ _ ?_
        refine wp_seq_k (fun K55 hK55 => ?_)
        refine wp_cond_false (hE.eval rfl) ?_
        refine wp_exit ?_
        refine q_then_e ?_
        refine q_then_e ?_
        refine q_block_x ?_
        refine hK19 _ _ ?_
        refine wp_seq_k (fun K56 hK56 => ?_)
        refine wp_seq_k (fun K57 hK57 => ?_)
        refine wp_plain [true, true, true, false, true, true] rfl rfl ?_
        refine s_move hE rfl rfl ?_; clear hE a; intro a hE
        refine s_move hE rfl rfl ?_; clear hE a; intro a hE
        refine g_no (b := false) hE rfl rfl rfl ?_; clear hE a; intro a hE
        refine g_no (b := false) hE rfl rfl rfl ?_; clear hE a; intro a hE
        refine g_no (b := false) hE rfl rfl rfl ?_; clear hE a; intro a hE
        refine s_pickf hE rfl rfl rfl ?_; clear hE a; intro a hE
        refine q_nil ?_
        replace hE : Env a 172 [(0, _), (1, _), (2, _), (6, _), (7, _), (8, _), (10, _), (11, _), (13, _), (15, _), (16, _), (17, _), (19, _), (25, _), (77, _), (83, _), (85, _), (90, _), (92, _), (99, _), (100, _), (101, _), (102, _), (106, _), (112, _), (121, _), (137, _), (141, _), (159, _), (169, _)] := hE.sel [0, 1, 2, 6, 7, 8, 10, 11, 13, 15, 16, 17, 19, 25, 77, 83, 85, 90, 92, 99, 100, 101, 102, 106, 112, 121, 137, 141, 159, 169] rfl
        refine hK57 _ _ ?_
        refine wp_cond_false (hE.eval rfl) ?_
        refine wp_skip ?_
        refine hK56 _ _ ?_
        refine wp_seq_k (fun K58 hK58 => ?_)
        refine wp_plain [true, true, true] rfl rfl ?_
        refine s_move hE rfl rfl ?_; clear hE a; intro a hE
        refine s_assign hE rfl rfl ?_; clear hE a; intro a hE
        refine s_assign hE rfl rfl ?_; clear hE a; intro a hE
        refine q_nil ?_
        replace hE : Env a 172 [(0, _), (1, _), (2, _), (6, _), (7, _), (8, _), (10, _), (11, _), (13, _), (15, _), (16, _), (17, _), (19, _), (25, _), (77, _), (83, _), (85, _), (90, _), (92, _), (99, _), (100, _), (101, _), (102, _), (106, _), (112, _), (121, _), (137, _), (141, _), (159, _), (169, _)] := hE.sel [0, 1, 2, 6, 7, 8, 10, 11, 13, 15, 16, 17, 19, 25, 77, 83, 85, 90, 92, 99, 100, 101, 102, 106, 112, 121, 137, 141, 159, 169] rfl
        refine hK58 _ _ ?_
        refine wp_ret ?_
        refine f_ret2 hE rfl rfl rfl ?_
        exact ⟨(by have hp := pu_ok hx1 (by rw [hd2]; exact hx2) 98; rw [hp.1, hp.2, hd1, hd2]; refine congrArg (fun q : Nat => Ending.returned (.tuple #[.int .u64 (q : Int), .nilIface])) ?_; omega), hM.pick [] rfl⟩
      · refine q_nil ?_
        refine hK42 _ _ ?_
        refine wp_seq_k (fun K43 hK43 => ?_)
        refine wp_block ?_
        refine wp_seq_k (fun K44 hK44 => ?_)
        refine wp_plain [true, true, true, true, true, true] rfl rfl ?_
        refine s_move hE rfl rfl ?_; clear hE a; intro a hE
        refine s_bin hE rfl rfl bin_eql rfl ?_; clear hE a; intro a hE
        refine s_move hE rfl rfl ?_; clear hE a; intro a hE
        replace hE := hE.cast 109 rfl (show _ = Value.bool false from (congrArg Value.bool (decide_eq_false (by omega))))
        refine g_no (b := false) hE rfl rfl rfl ?_; clear hE a; intro a hE
        refine s_pickf hE rfl rfl rfl ?_; clear hE a; intro a hE
        refine s_assign hE rfl rfl ?_; clear hE a; intro a hE
        refine q_nil ?_
        replace hE : Env a 172 [(0, _), (1, _), (2, _), (6, _), (7, _), (8, _), (9, _), (10, _), (11, _), (12, _), (13, _), (15, _), (16, _), (17, _), (19, _), (25, _), (77, _), (83, _), (85, _), (90, _), (92, _), (99, _), (100, _), (101, _), (102, _), (106, _), (112, _), (121, _), (137, _), (141, _), (159, _)] := hE.sel [0, 1, 2, 6, 7, 8, 9, 10, 11, 12, 13, 15, 16, 17, 19, 25, 77, 83, 85, 90, 92, 99, 100, 101, 102, 106, 112, 121, 137, 141, 159] rfl
        refine hK44 _ _ ?_
        refine wp_cond_false (hE.eval rfl) ?_
        refine wp_seq_k (fun K45 hK45 => ?_)
        refine wp_plain [true, true, true, true, true, true, true] rfl rfl ?_
        refine s_move hE rfl rfl ?_; clear hE a; intro a hE
        refine s_bin hE rfl rfl bin_leq rfl ?_; clear hE a; intro a hE
        refine s_move hE rfl rfl ?_; clear hE a; intro a hE
        replace hE := hE.cast 115 rfl (show _ = Value.bool true from (congrArg Value.bool (decide_eq_true (by omega))))
        refine g_yes hE rfl rfl ?_
        refine s_move hE rfl rfl ?_; clear hE a; intro a hE
        refine g_yes hE rfl rfl ?_
        refine s_bin hE rfl rfl bin_leq rfl ?_; clear hE a; intro a hE
        refine s_pickt hE rfl rfl rfl ?_; clear hE a; intro a hE
        refine s_assign hE rfl rfl ?_; clear hE a; intro a hE
        refine q_nil ?_
        replace hE : Env a 172 [(0, _), (1, _), (2, _), (6, _), (7, _), (8, _), (9, _), (10, _), (11, _), (12, _), (13, _), (15, _), (16, _), (17, _), (19, _), (25, _), (77, _), (83, _), (85, _), (90, _), (92, _), (99, _), (100, _), (101, _), (102, _), (106, _), (112, _), (121, _), (137, _), (141, _), (159, _)] := hE.sel [0, 1, 2, 6, 7, 8, 9, 10, 11, 12, 13, 15, 16, 17, 19, 25, 77, 83, 85, 90, 92, 99, 100, 101, 102, 106, 112, 121, 137, 141, 159] rfl
        refine hK45 _ _ ?_
        replace hE := hE.cast 112 rfl (show _ = Value.bool false from (congrArg Value.bool (decide_eq_false (by omega))))
        refine wp_cond_false (hE.eval rfl) ?_
        refine wp_seq_k (fun K46 hK46 => ?_)
        refine wp_plain [true, false, true, true, true, false, true, true, true] rfl rfl ?_
        refine s_move hE rfl rfl ?_; clear hE a; intro a hE
        refine s_call hE rfl Tryd.call70 (lower_c c2 _ ) rfl ?_
        rintro e w5 ⟨rfl, hN⟩
        refine ⟨_, rfl, trivial, ?_⟩; clear hE a; intro a hE
        replace hM : Mem _ _ w5 [_] := hM.call0 hN trivial; clear hN
        refine s_bin hE rfl rfl bin_leq rfl ?_; clear hE a; intro a hE
        refine s_move hE rfl rfl ?_; clear hE a; intro a hE
        replace hE := hE.cast 125 rfl (show _ = Value.bool true from (congrArg Value.bool (decide_eq_true (by omega))))
        refine g_yes hE rfl rfl ?_
        refine s_move hE rfl rfl ?_; clear hE a; intro a hE
        refine g_yes hE rfl rfl ?_
        refine s_call hE rfl Tryd.call70 (lower_c c2 _ ) rfl ?_
        rintro e w6 ⟨rfl, hN⟩
        refine ⟨_, rfl, trivial, ?_⟩; clear hE a; intro a hE
        replace hM : Mem _ _ w6 [_] := hM.call0 hN trivial; clear hN
        refine g_yes hE rfl rfl ?_
        refine s_bin hE rfl rfl bin_leq rfl ?_; clear hE a; intro a hE
        refine s_pickt hE rfl rfl rfl ?_; clear hE a; intro a hE
        refine s_assign hE rfl rfl ?_; clear hE a; intro a hE
        refine q_nil ?_
        replace hE : Env a 172 [(0, _), (1, _), (2, _), (6, _), (7, _), (8, _), (9, _), (10, _), (11, _), (12, _), (13, _), (15, _), (16, _), (17, _), (19, _), (25, _), (77, _), (83, _), (85, _), (90, _), (92, _), (99, _), (100, _), (101, _), (102, _), (106, _), (112, _), (121, _), (137, _), (141, _), (159, _)] := hE.sel [0, 1, 2, 6, 7, 8, 9, 10, 11, 12, 13, 15, 16, 17, 19, 25, 77, 83, 85, 90, 92, 99, 100, 101, 102, 106, 112, 121, 137, 141, 159] rfl
        refine hK46 _ _ ?_
        replace hE := hE.cast 121 rfl (show _ = Value.bool true from (congrArg Value.bool (decide_eq_true (by omega))))
        refine wp_cond_true (hE.eval rfl) ?_
        refine wp_plain [true, false, true, true, true] rfl rfl ?_
        refine s_move hE rfl rfl ?_; clear hE a; intro a hE
        refine s_call hE rfl Tryd.call70 (lower_c c2 _ ) rfl ?_
        rintro e w7 ⟨rfl, hN⟩
        refine ⟨_, rfl, trivial, ?_⟩; clear hE a; intro a hE
        replace hM : Mem _ _ w7 [_] := hM.call0 hN trivial; clear hN
        refine s_bin hE rfl rfl (bin_sub_u8 (b := c2 ||| 32) (c := 97)) rfl ?_; clear hE a; intro a hE
        refine s_bin hE rfl rfl (bin_add_u8 (b := (c2 ||| 32) - 97) (c := 10)) rfl ?_; clear hE a; intro a hE
        refine s_assign hE rfl rfl ?_; clear hE a; intro a hE
        refine q_nil ?_
        replace hE : Env a 172 [(0, _), (1, _), (2, _), (6, _), (7, _), (8, _), (9, _), (10, _), (11, _), (12, _), (13, _), (15, _), (16, _), (17, _), (19, _), (25, _), (77, _), (83, _), (85, _), (90, _), (92, _), (99, _), (100, _), (101, _), (102, _), (106, _), (112, _), (121, _), (137, _), (141, _), (159, _)] := hE.sel [0, 1, 2, 6, 7, 8, 9, 10, 11, 12, 13, 15, 16, 17, 19, 25, 77, 83, 85, 90, 92, 99, 100, 101, 102, 106, 112, 121, 137, 141, 159] rfl
        refine q_block_n ?_
        refine hK43 _ _ ?_
        refine wp_seq_k (fun K47 hK47 => ?_)
        refine wp_seq_k (fun K48 hK48 => ?_)
        refine wp_plain [true, true, true, true] rfl rfl ?_
        refine s_move hE rfl rfl ?_; clear hE a; intro a hE
        refine s_move hE rfl rfl ?_; clear hE a; intro a hE
        refine s_conv hE rfl (cnv_int Tryd.underlying3 Tryd.underlying5 ((show IntKind.u8.wrap 16 = 16 by decide))) rfl ?_; clear hE a; intro a hE
        refine s_bin hE rfl rfl bin_geq rfl ?_; clear hE a; intro a hE
        refine q_nil ?_
        replace hE : Env a 172 [(0, _), (1, _), (2, _), (6, _), (7, _), (8, _), (9, _), (10, _), (11, _), (12, _), (13, _), (15, _), (16, _), (17, _), (19, _), (25, _), (77, _), (83, _), (85, _), (90, _), (92, _), (99, _), (100, _), (101, _), (102, _), (106, _), (112, _), (121, _), (137, _), (141, _), (159, _)] := hE.sel [0, 1, 2, 6, 7, 8, 9, 10, 11, 12, 13, 15, 16, 17, 19, 25, 77, 83, 85, 90, 92, 99, 100, 101, 102, 106, 112, 121, 137, 141, 159] rfl
        refine hK48 _ _ ?_
        refine hE.split 137 rfl (fun hb137 hE' => ?_) (fun hb137 hE' => ?_)
        · replace hE := hE'; clear hE'
          replace hb137 := of_decide_eq_true hb137
          have hx2 : ¬ (dg c2).toNat < 16 := by rw [hd2]; omega
          refine wp_cond_true (hE.eval rfl) ?_
          refine wp_seq_k (fun K49 hK49 => ?_)
          refine wp_plain [true, true, true] rfl rfl ?_
          refine s_mkI hE rfl Tryd.underlying98 rfl rfl ?_; clear hE a; intro a hE
          refine s_assign hE rfl rfl ?_; clear hE a; intro a hE
          refine s_assign hE rfl rfl ?_; clear hE a; intro a hE
          refine q_nil ?_
          replace hE : Env a 172 [(0, _), (1, _), (2, _), (6, _), (7, _), (8, _), (9, _), (10, _), (11, _), (12, _), (13, _), (15, _), (16, _), (17, _), (19, _), (25, _), (77, _), (83, _), (85, _), (90, _), (92, _), (99, _), (100, _), (101, _), (102, _), (106, _), (112, _), (121, _), (137, _), (141, _), (159, _)] := hE.sel [0, 1, 2, 6, 7, 8, 9, 10, 11, 12, 13, 15, 16, 17, 19, 25, 77, 83, 85, 90, 92, 99, 100, 101, 102, 106, 112, 121, 137, 141, 159] rfl
          refine hK49 _ _ ?_
          refine wp_ret ?_
          refine q_then_r ?_
          refine q_block_r ?_
          refine q_then_r ?_
          refine q_then_r ?_
          refine q_block_r ?_
          refine q_then_r ?_
          refine f_ret2 hE rfl rfl rfl ?_
          exact ⟨(by rw [(pu_no2 hx2 98).1, (pu_no2 (c := c1) hx2 98).2]; rfl), hM.pick [] rfl⟩
        · replace hE := hE'; clear hE'
          replace hb137 := of_decide_eq_false hb137
          have hx2 : (dg c2).toNat < 16 := by rw [hd2]; omega
          refine wp_cond_false (hE.eval rfl) ?_
          refine wp_skip ?_
          refine hK47 _ _ ?_
          refine wp_seq_k (fun K49 hK49 => ?_)
          refine wp_seq_k (fun K50 hK50 => ?_)
          refine wp_plain [true, true, true] rfl rfl ?_
          refine s_move hE rfl rfl ?_; clear hE a; intro a hE
          refine s_move hE rfl rfl ?_; clear hE a; intro a hE
          refine s_bin hE rfl rfl bin_geq rfl ?_; clear hE a; intro a hE
          refine q_nil ?_
          replace hE : Env a 172 [(0, _), (1, _), (2, _), (6, _), (7, _), (8, _), (9, _), (10, _), (11, _), (12, _), (13, _), (15, _), (16, _), (17, _), (19, _), (25, _), (77, _), (83, _), (85, _), (90, _), (92, _), (99, _), (100, _), (101, _), (102, _), (106, _), (112, _), (121, _), (137, _), (141, _), (159, _)] := hE.sel [0, 1, 2, 6, 7, 8, 9, 10, 11, 12, 13, 15, 16, 17, 19, 25, 77, 83, 85, 90, 92, 99, 100, 101, 102, 106, 112, 121, 137, 141, 159] rfl
          refine hK50 _ _ ?_
          replace hE := hE.cast 141 rfl (show _ = Value.bool false from (congrArg Value.bool (decide_eq_false (by omega))))
          refine wp_cond_false (hE.eval rfl) ?_
          refine wp_skip ?_
          refine hK49 _ _ ?_
          refine wp_seq_k (fun K51 hK51 => ?_)
          refine wp_plain [true, true, true, true, true] rfl rfl ?_
          refine s_move hE rfl rfl ?_; clear hE a; intro a hE
          refine s_move hE rfl rfl ?_; clear hE a; intro a hE
          refine s_conv hE rfl (cnv_int Tryd.underlying3 Tryd.underlying69 (wrap_u64 (by omega) (by omega))) rfl ?_; clear hE a; intro a hE
          refine s_bin hE rfl rfl (show Bin _ _ _ _ _ (.int .u64 (((0 + ((((c1 ||| 32) - 97) + 10).toNat)) * 16 : Nat) : Int)) from bin_mul (by rw [wrap_u64 (by omega) (by omega)]; omega)) rfl ?_; clear hE a; intro a hE
          refine s_assign hE rfl rfl ?_; clear hE a; intro a hE
          refine q_nil ?_
          replace hE : Env a 172 [(0, _), (1, _), (2, _), (6, _), (7, _), (8, _), (9, _), (10, _), (11, _), (12, _), (13, _), (15, _), (16, _), (17, _), (19, _), (25, _), (77, _), (83, _), (85, _), (90, _), (92, _), (99, _), (100, _), (101, _), (102, _), (106, _), (112, _), (121, _), (137, _), (141, _), (159, _)] := hE.sel [0, 1, 2, 6, 7, 8, 9, 10, 11, 12, 13, 15, 16, 17, 19, 25, 77, 83, 85, 90, 92, 99, 100, 101, 102, 106, 112, 121, 137, 141, 159] rfl
          refine hK51 _ _ ?_
          refine wp_seq_k (fun K52 hK52 => ?_)
          refine wp_plain [true, true, true, true, true] rfl rfl ?_
          refine s_move hE rfl rfl ?_; clear hE a; intro a hE
          refine s_move hE rfl rfl ?_; clear hE a; intro a hE
          refine s_conv hE rfl (cnv_int Tryd.underlying5 Tryd.underlying69 (wrap_u64 (by omega) (by have := (((c2 ||| 32) - 97) + 10 : UInt8).toNat_lt; omega))) rfl ?_; clear hE a; intro a hE
          refine s_bin hE rfl rfl (show Bin _ _ _ _ _ (.int .u64 ((((0 + ((((c1 ||| 32) - 97) + 10).toNat)) * 16) + ((((c2 ||| 32) - 97) + 10).toNat) : Nat) : Int)) from bin_add (by rw [wrap_u64 (by omega) (by omega)]; omega)) rfl ?_; clear hE a; intro a hE
          refine s_assign hE rfl rfl ?_; clear hE a; intro a hE
          refine q_nil ?_
          replace hE : Env a 172 [(0, _), (1, _), (2, _), (6, _), (7, _), (8, _), (9, _), (10, _), (11, _), (12, _), (13, _), (15, _), (16, _), (17, _), (19, _), (25, _), (77, _), (83, _), (85, _), (90, _), (92, _), (99, _), (100, _), (101, _), (102, _), (106, _), (112, _), (121, _), (137, _), (141, _), (159, _)] := hE.sel [0, 1, 2, 6, 7, 8, 9, 10, 11, 12, 13, 15, 16, 17, 19, 25, 77, 83, 85, 90, 92, 99, 100, 101, 102, 106, 112, 121, 137, 141, 159] rfl
          refine hK52 _ _ ?_
          refine wp_seq_k (fun K53 hK53 => ?_)
          refine wp_seq_k (fun K54 hK54 => ?_)
          refine wp_plain [true, true, true, true, true, true, true, true] rfl rfl ?_
          refine s_move hE rfl rfl ?_; clear hE a; intro a hE
          refine s_move hE rfl rfl ?_; clear hE a; intro a hE
          refine s_bin hE rfl rfl bin_lss rfl ?_; clear hE a; intro a hE
          refine s_move hE rfl rfl ?_; clear hE a; intro a hE
          replace hE := hE.cast 155 rfl (show _ = Value.bool false from (congrArg Value.bool (decide_eq_false (by omega))))
          refine g_yes hE rfl rfl ?_
          refine s_move hE rfl rfl ?_; clear hE a; intro a hE
          refine g_yes hE rfl rfl ?_
          refine s_move hE rfl rfl ?_; clear hE a; intro a hE
          refine g_yes hE rfl rfl ?_
          refine s_bin hE rfl rfl bin_gtr rfl ?_; clear hE a; intro a hE
          refine s_pickf hE rfl rfl rfl ?_; clear hE a; intro a hE
          refine q_nil ?_
          replace hE : Env a 172 [(0, _), (1, _), (2, _), (6, _), (7, _), (8, _), (9, _), (10, _), (11, _), (12, _), (13, _), (15, _), (16, _), (17, _), (19, _), (25, _), (77, _), (83, _), (85, _), (90, _), (92, _), (99, _), (100, _), (101, _), (102, _), (106, _), (112, _), (121, _), (137, _), (141, _), (159, _)] := hE.sel [0, 1, 2, 6, 7, 8, 9, 10, 11, 12, 13, 15, 16, 17, 19, 25, 77, 83, 85, 90, 92, 99, 100, 101, 102, 106, 112, 121, 137, 141, 159] rfl
          refine hK54 _ _ ?_
          replace hE := hE.cast 159 rfl (show _ = Value.bool false from (congrArg Value.bool (decide_eq_false (by omega))))
          refine wp_cond_false (hE.eval rfl) ?_
          refine wp_skip ?_
          refine hK53 _ _ ?_
          refine wp_plain [true, true] rfl rfl ?_
          refine s_move hE rfl rfl ?_; clear hE a; intro a hE
          refine s_assign hE rfl rfl ?_; clear hE a; intro a hE
          refine q_nil ?_
          replace hE : Env a 172 [(0, _), (1, _), (2, _), (6, _), (7, _), (8, _), (9, _), (10, _), (11, _), (12, _), (13, _), (15, _), (16, _), (17, _), (19, _), (25, _), (77, _), (83, _), (85, _), (90, _), (92, _), (99, _), (100, _), (101, _), (102, _), (106, _), (112, _), (121, _), (137, _), (141, _), (159, _)] := hE.sel [0, 1, 2, 6, 7, 8, 9, 10, 11, 12, 13, 15, 16, 17, 19, 25, 77, 83, 85, 90, 92, 99, 100, 101, 102, 106, 112, 121, 137, 141, 159] rfl
          refine q_block_n ?_
          refine hK40 _ _ ?_
          refine wp_plain [true, true] rfl rfl ?_
          refine s_bin hE rfl rfl (show Bin _ _ _ _ _ (.int .i64 2) from bin_add (by rw [wrap_i64 (by omega) (by omega)]; omega)) rfl ?_; clear hE a; intro a hE
          refine s_move hE rfl rfl ?_; clear hE a; intro a hE
          refine q_nil ?_
          replace hE : Env a 172 [(0, _), (1, _), (2, _), (6, _), (7, _), (8, _), (9, _), (10, _), (11, _), (12, _), (13, _), (15, _), (16, _), (17, _), (19, _), (25, _), (77, _), (83, _), (85, _), (90, _), (92, _), (99, _), (100, _), (101, _), (102, _), (106, _), (112, _), (121, _), (137, _), (141, _), (159, _)] := hE.sel [0, 1, 2, 6, 7, 8, 9, 10, 11, 12, 13, 15, 16, 17, 19, 25, 77, 83, 85, 90, 92, 99, 100, 101, 102, 106, 112, 121, 137, 141, 159] rfl
          replace hM : Mem _ _ w7 [_] := hM.pick [0] rfl
          refine q_then_n (c_rounds ?_)
          refine wp_seq_k (fun K55 hK55 => ?_)
          refine wp_plain [true] rfl rfl ?_
          refine s_bin hE rfl rfl bin_lss rfl ?_; clear hE a; intro a hE
          replace hE := hE.cast 102 rfl (show _ = Value.bool false from (congrArg Value.bool (by decide)))
          refine q_nil ?_
          refine hK55 _ _ ?_
          refine wp_seq_k (fun K56 hK56 => ?_)
          refine wp_cond_false (hE.eval rfl) ?_
          refine wp_exit ?_
          refine q_then_e ?_
          refine q_then_e ?_
          refine q_block_x ?_
          refine hK19 _ _ ?_
          refine wp_seq_k (fun K57 hK57 => ?_)
          refine wp_seq_k (fun K58 hK58 => ?_)
          refine wp_plain [true, true, true, false, true, true] rfl rfl ?_
          refine s_move hE rfl rfl ?_; clear hE a; intro a hE
          refine s_move hE rfl rfl ?_; clear hE a; intro a hE
          refine g_no (b := false) hE rfl rfl rfl ?_; clear hE a; intro a hE
          refine g_no (b := false) hE rfl rfl rfl ?_; clear hE a; intro a hE
          refine g_no (b := false) hE rfl rfl rfl ?_; clear hE a; intro a hE
          refine s_pickf hE rfl rfl rfl ?_; clear hE a; intro a hE
          refine q_nil ?_
          replace hE : Env a 172 [(0, _), (1, _), (2, _), (6, _), (7, _), (8, _), (10, _), (11, _), (13, _), (15, _), (16, _), (17, _), (19, _), (25, _), (77, _), (83, _), (85, _), (90, _), (92, _), (99, _), (100, _), (101, _), (102, _), (106, _), (112, _), (121, _), (137, _), (141, _), (159, _), (169, _)] := hE.sel [0, 1, 2, 6, 7, 8, 10, 11, 13, 15, 16, 17, 19, 25, 77, 83, 85, 90, 92, 99, 100, 101, 102, 106, 112, 121, 137, 141, 159, 169] rfl
          refine hK58 _ _ ?_
          refine wp_cond_false (hE.eval rfl) ?_
          refine wp_skip ?_
          refine hK57 _ _ ?_
          refine wp_seq_k (fun K59 hK59 => ?_)
          refine wp_plain [true, true, true] rfl rfl ?_
          refine s_move hE rfl rfl ?_; clear hE a; intro a hE
          refine s_assign hE rfl rfl ?_; clear hE a; intro a hE
          refine s_assign hE rfl rfl ?_; clear hE a; intro a hE
          refine q_nil ?_
          replace hE : Env a 172 [(0, _), (1, _), (2, _), (6, _), (7, _), (8, _), (10, _), (11, _), (13, _), (15, _), (16, _), (17, _), (19, _), (25, _), (77, _), (83, _), (85, _), (90, _), (92, _), (99, _), (100, _), (101, _), (102, _), (106, _), (112, _), (121, _), (137, _), (141, _), (159, _), (169, _)] := hE.sel [0, 1, 2, 6, 7, 8, 10, 11, 13, 15, 16, 17, 19, 25, 77, 83, 85, 90, 92, 99, 100, 101, 102, 106, 112, 121, 137, 141, 159, 169] rfl
          refine hK59 _ _ ?_
          refine wp_ret ?_
          refine f_ret2 hE rfl rfl rfl ?_
          exact ⟨(by have hp := pu_ok hx1 hx2 98; rw [hp.1, hp.2, hd1, hd2]; refine congrArg (fun q : Nat => Ending.returned (.tuple #[.int .u64 (q : Int), .nilIface])) ?_; omega), hM.pick [] rfl⟩
      · refine q_nil ?_
        refine hK42 _ _ ?_
        refine wp_seq_k (fun K43 hK43 => ?_)
        refine wp_block ?_
        refine wp_seq_k (fun K44 hK44 => ?_)
        refine wp_plain [true, true, true, true, true, true] rfl rfl ?_
        refine s_move hE rfl rfl ?_; clear hE a; intro a hE
        refine s_bin hE rfl rfl bin_eql rfl ?_; clear hE a; intro a hE
        refine s_move hE rfl rfl ?_; clear hE a; intro a hE
        replace hE := hE.cast 109 rfl (show _ = Value.bool false from (congrArg Value.bool (decide_eq_false (by omega))))
        refine g_no (b := false) hE rfl rfl rfl ?_; clear hE a; intro a hE
        refine s_pickf hE rfl rfl rfl ?_; clear hE a; intro a hE
        refine s_assign hE rfl rfl ?_; clear hE a; intro a hE
        refine q_nil ?_
        replace hE : Env a 172 [(0, _), (1, _), (2, _), (6, _), (7, _), (8, _), (9, _), (10, _), (11, _), (12, _), (13, _), (15, _), (16, _), (17, _), (19, _), (25, _), (77, _), (83, _), (85, _), (90, _), (92, _), (99, _), (100, _), (101, _), (102, _), (106, _), (112, _), (121, _), (137, _), (141, _), (159, _)] := hE.sel [0, 1, 2, 6, 7, 8, 9, 10, 11, 12, 13, 15, 16, 17, 19, 25, 77, 83, 85, 90, 92, 99, 100, 101, 102, 106, 112, 121, 137, 141, 159] rfl
        refine hK44 _ _ ?_
        refine wp_cond_false (hE.eval rfl) ?_
        refine wp_seq_k (fun K45 hK45 => ?_)
        refine wp_plain [true, true, true, true, true, true, true] rfl rfl ?_
        refine s_move hE rfl rfl ?_; clear hE a; intro a hE
        refine s_bin hE rfl rfl bin_leq rfl ?_; clear hE a; intro a hE
        refine s_move hE rfl rfl ?_; clear hE a; intro a hE
        replace hE := hE.cast 115 rfl (show _ = Value.bool false from (congrArg Value.bool (decide_eq_false (by omega))))
        refine g_no (b := false) hE rfl rfl rfl ?_; clear hE a; intro a hE
        refine g_no (b := false) hE rfl rfl rfl ?_; clear hE a; intro a hE
        refine s_pickf hE rfl rfl rfl ?_; clear hE a; intro a hE
        refine s_assign hE rfl rfl ?_; clear hE a; intro a hE
        refine q_nil ?_
        replace hE : Env a 172 [(0, _), (1, _), (2, _), (6, _), (7, _), (8, _), (9, _), (10, _), (11, _), (12, _), (13, _), (15, _), (16, _), (17, _), (19, _), (25, _), (77, _), (83, _), (85, _), (90, _), (92, _), (99, _), (100, _), (101, _), (102, _), (106, _), (112, _), (121, _), (137, _), (141, _), (159, _)] := hE.sel [0, 1, 2, 6, 7, 8, 9, 10, 11, 12, 13, 15, 16, 17, 19, 25, 77, 83, 85, 90, 92, 99, 100, 101, 102, 106, 112, 121, 137, 141, 159] rfl
        refine hK45 _ _ ?_
        refine wp_cond_false (hE.eval rfl) ?_
        refine wp_seq_k (fun K46 hK46 => ?_)
        refine wp_plain [true, false, true, true, true, false, true, true, true] rfl rfl ?_
        refine s_move hE rfl rfl ?_; clear hE a; intro a hE
        refine s_call hE rfl Tryd.call70 (lower_c c2 _ ) rfl ?_
        rintro e w5 ⟨rfl, hN⟩
        refine ⟨_, rfl, trivial, ?_⟩; clear hE a; intro a hE
        replace hM : Mem _ _ w5 [_] := hM.call0 hN trivial; clear hN
        refine s_bin hE rfl rfl bin_leq rfl ?_; clear hE a; intro a hE
        refine s_move hE rfl rfl ?_; clear hE a; intro a hE
        replace hE := hE.cast 125 rfl (show _ = Value.bool false from (congrArg Value.bool (decide_eq_false (by omega))))
        refine g_no (b := false) hE rfl rfl rfl ?_; clear hE a; intro a hE
        refine g_no (b := false) hE rfl rfl rfl ?_; clear hE a; intro a hE
        refine g_no (b := false) hE rfl rfl rfl ?_; clear hE a; intro a hE
        refine s_pickf hE rfl rfl rfl ?_; clear hE a; intro a hE
        refine s_assign hE rfl rfl ?_; clear hE a; intro a hE
        refine q_nil ?_
        replace hE : Env a 172 [(0, _), (1, _), (2, _), (6, _), (7, _), (8, _), (9, _), (10, _), (11, _), (12, _), (13, _), (15, _), (16, _), (17, _), (19, _), (25, _), (77, _), (83, _), (85, _), (90, _), (92, _), (99, _), (100, _), (101, _), (102, _), (106, _), (112, _), (121, _), (137, _), (141, _), (159, _)] := hE.sel [0, 1, 2, 6, 7, 8, 9, 10, 11, 12, 13, 15, 16, 17, 19, 25, 77, 83, 85, 90, 92, 99, 100, 101, 102, 106, 112, 121, 137, 141, 159] rfl
        refine hK46 _ _ ?_
        refine wp_cond_false (hE.eval rfl) ?_
        refine wp_seq_k (fun K47 hK47 => ?_)
        refine wp_plain [true, true, true] rfl rfl ?_
        refine s_mkI hE rfl Tryd.underlying98 rfl rfl ?_; clear hE a; intro a hE
        refine s_assign hE rfl rfl ?_; clear hE a; intro a hE
        refine s_assign hE rfl rfl ?_; clear hE a; intro a hE
        refine q_nil ?_
        replace hE : Env a 172 [(0, _), (1, _), (2, _), (6, _), (7, _), (8, _), (9, _), (10, _), (11, _), (12, _), (13, _), (15, _), (16, _), (17, _), (19, _), (25, _), (77, _), (83, _), (85, _), (90, _), (92, _), (99, _), (100, _), (101, _), (102, _), (106, _), (112, _), (121, _), (137, _), (141, _), (159, _)] := hE.sel [0, 1, 2, 6, 7, 8, 9, 10, 11, 12, 13, 15, 16, 17, 19, 25, 77, 83, 85, 90, 92, 99, 100, 101, 102, 106, 112, 121, 137, 141, 159] rfl
        refine hK47 _ _ ?_
        refine wp_ret ?_
        refine q_block_r ?_
        refine q_then_r ?_
        refine q_block_r ?_
        refine q_then_r ?_
        refine q_then_r ?_
        refine q_block_r ?_
        refine q_then_r ?_
        refine f_ret2 hE rfl rfl rfl ?_
        exact ⟨(by rw [(pu_no2 hx2 98).1, (pu_no2 (c := c1) hx2 98).2]; rfl), hM.pick [] rfl⟩
      · refine q_nil ?_
        refine hK42 _ _ ?_
        refine wp_seq_k (fun K43 hK43 => ?_)
        refine wp_block ?_
        refine wp_seq_k (fun K44 hK44 => ?_)
        refine wp_plain [true, true, true, true, true, true] rfl rfl ?_
        refine s_move hE rfl rfl ?_; clear hE a; intro a hE
        refine s_bin hE rfl rfl bin_eql rfl ?_; clear hE a; intro a hE
        refine s_move hE rfl rfl ?_; clear hE a; intro a hE
        replace hE := hE.cast 109 rfl (show _ = Value.bool false from (congrArg Value.bool (decide_eq_false (by omega))))
        refine g_no (b := false) hE rfl rfl rfl ?_; clear hE a; intro a hE
        refine s_pickf hE rfl rfl rfl ?_; clear hE a; intro a hE
        refine s_assign hE rfl rfl ?_; clear hE a; intro a hE
        refine q_nil ?_
        replace hE : Env a 172 [(0, _), (1, _), (2, _), (6, _), (7, _), (8, _), (9, _), (10, _), (11, _), (12, _), (13, _), (15, _), (16, _), (17, _), (19, _), (25, _), (77, _), (83, _), (85, _), (90, _), (92, _), (99, _), (100, _), (101, _), (102, _), (106, _), (112, _), (121, _), (137, _), (141, _), (159, _)] := hE.sel [0, 1, 2, 6, 7, 8, 9, 10, 11, 12, 13, 15, 16, 17, 19, 25, 77, 83, 85, 90, 92, 99, 100, 101, 102, 106, 112, 121, 137, 141, 159] rfl
        refine hK44 _ _ ?_
        refine wp_cond_false (hE.eval rfl) ?_
        refine wp_seq_k (fun K45 hK45 => ?_)
        refine wp_plain [true, true, true, true, true, true, true] rfl rfl ?_
        refine s_move hE rfl rfl ?_; clear hE a; intro a hE
        refine s_bin hE rfl rfl bin_leq rfl ?_; clear hE a; intro a hE
        refine s_move hE rfl rfl ?_; clear hE a; intro a hE
        replace hE := hE.cast 115 rfl (show _ = Value.bool true from (congrArg Value.bool (decide_eq_true (by omega))))
        refine g_yes hE rfl rfl ?_
        refine s_move hE rfl rfl ?_; clear hE a; intro a hE
        refine g_yes hE rfl rfl ?_
        refine s_bin hE rfl rfl bin_leq rfl ?_; clear hE a; intro a hE
        refine s_pickt hE rfl rfl rfl ?_; clear hE a; intro a hE
        refine s_assign hE rfl rfl ?_; clear hE a; intro a hE
        refine q_nil ?_
        replace hE : Env a 172 [(0, _), (1, _), (2, _), (6, _), (7, _), (8, _), (9, _), (10, _), (11, _), (12, _), (13, _), (15, _), (16, _), (17, _), (19, _), (25, _), (77, _), (83, _), (85, _), (90, _), (92, _), (99, _), (100, _), (101, _), (102, _), (106, _), (112, _), (121, _), (137, _), (141, _), (159, _)] := hE.sel [0, 1, 2, 6, 7, 8, 9, 10, 11, 12, 13, 15, 16, 17, 19, 25, 77, 83, 85, 90, 92, 99, 100, 101, 102, 106, 112, 121, 137, 141, 159] rfl
        refine hK45 _ _ ?_
        replace hE := hE.cast 112 rfl (show _ = Value.bool false from (congrArg Value.bool (decide_eq_false (by omega))))
        refine wp_cond_false (hE.eval rfl) ?_
        refine wp_seq_k (fun K46 hK46 => ?_)
        refine wp_plain [true, false, true, true, true, false, true, true, true] rfl rfl ?_
        refine s_move hE rfl rfl ?_; clear hE a; intro a hE
        refine s_call hE rfl Tryd.call70 (lower_c c2 _ ) rfl ?_
        rintro e w5 ⟨rfl, hN⟩
        refine ⟨_, rfl, trivial, ?_⟩; clear hE a; intro a hE
        replace hM : Mem _ _ w5 [_] := hM.call0 hN trivial; clear hN
        refine s_bin hE rfl rfl bin_leq rfl ?_; clear hE a; intro a hE
        refine s_move hE rfl rfl ?_; clear hE a; intro a hE
        replace hE := hE.cast 125 rfl (show _ = Value.bool false from (congrArg Value.bool (decide_eq_false (by omega))))
        refine g_no (b := false) hE rfl rfl rfl ?_; clear hE a; intro a hE
        refine g_no (b := false) hE rfl rfl rfl ?_; clear hE a; intro a hE
        refine g_no (b := false) hE rfl rfl rfl ?_; clear hE a; intro a hE
        refine s_pickf hE rfl rfl rfl ?_; clear hE a; intro a hE
        refine s_assign hE rfl rfl ?_; clear hE a; intro a hE
        refine q_nil ?_
        replace hE : Env a 172 [(0, _), (1, _), (2, _), (6, _), (7, _), (8, _), (9, _), (10, _), (11, _), (12, _), (13, _), (15, _), (16, _), (17, _), (19, _), (25, _), (77, _), (83, _), (85, _), (90, _), (92, _), (99, _), (100, _), (101, _), (102, _), (106, _), (112, _), (121, _), (137, _), (141, _), (159, _)] := hE.sel [0, 1, 2, 6, 7, 8, 9, 10, 11, 12, 13, 15, 16, 17, 19, 25, 77, 83, 85, 90, 92, 99, 100, 101, 102, 106, 112, 121, 137, 141, 159] rfl
        refine hK46 _ _ ?_
        refine wp_cond_false (hE.eval rfl) ?_
        refine wp_seq_k (fun K47 hK47 => ?_)
        refine wp_plain [true, true, true] rfl rfl ?_
        refine s_mkI hE rfl Tryd.underlying98 rfl rfl ?_; clear hE a; intro a hE
        refine s_assign hE rfl rfl ?_; clear hE a; intro a hE
        refine s_assign hE rfl rfl ?_; clear hE a; intro a hE
        refine q_nil ?_
        replace hE : Env a 172 [(0, _), (1, _), (2, _), (6, _), (7, _), (8, _), (9, _), (10, _), (11, _), (12, _), (13, _), (15, _), (16, _), (17, _), (19, _), (25, _), (77, _), (83, _), (85, _), (90, _), (92, _), (99, _), (100, _), (101, _), (102, _), (106, _), (112, _), (121, _), (137, _), (141, _), (159, _)] := hE.sel [0, 1, 2, 6, 7, 8, 9, 10, 11, 12, 13, 15, 16, 17, 19, 25, 77, 83, 85, 90, 92, 99, 100, 101, 102, 106, 112, 121, 137, 141, 159] rfl
        refine hK47 _ _ ?_
        refine wp_ret ?_
        refine q_block_r ?_
        refine q_then_r ?_
        refine q_block_r ?_
        refine q_then_r ?_
        refine q_then_r ?_
        refine q_block_r ?_
        refine q_then_r ?_
        refine f_ret2 hE rfl rfl rfl ?_
        exact ⟨(by rw [(pu_no2 hx2 98).1, (pu_no2 (c := c1) hx2 98).2]; rfl), hM.pick [] rfl⟩
      · refine q_nil ?_
        refine hK42 _ _ ?_
        refine wp_seq_k (fun K43 hK43 => ?_)
        refine wp_block ?_
        refine wp_seq_k (fun K44 hK44 => ?_)
        refine wp_plain [true, true, true, true, true, true] rfl rfl ?_
        refine s_move hE rfl rfl ?_; clear hE a; intro a hE
        refine s_bin hE rfl rfl bin_eql rfl ?_; clear hE a; intro a hE
        refine s_move hE rfl rfl ?_; clear hE a; intro a hE
        replace hE := hE.cast 109 rfl (show _ = Value.bool false from (congrArg Value.bool (decide_eq_false (by omega))))
        refine g_no (b := false) hE rfl rfl rfl ?_; clear hE a; intro a hE
        refine s_pickf hE rfl rfl rfl ?_; clear hE a; intro a hE
        refine s_assign hE rfl rfl ?_; clear hE a; intro a hE
        refine q_nil ?_
        replace hE : Env a 172 [(0, _), (1, _), (2, _), (6, _), (7, _), (8, _), (9, _), (10, _), (11, _), (12, _), (13, _), (15, _), (16, _), (17, _), (19, _), (25, _), (77, _), (83, _), (85, _), (90, _), (92, _), (99, _), (100, _), (101, _), (102, _), (106, _), (112, _), (121, _), (137, _), (141, _), (159, _)] := hE.sel [0, 1, 2, 6, 7, 8, 9, 10, 11, 12, 13, 15, 16, 17, 19, 25, 77, 83, 85, 90, 92, 99, 100, 101, 102, 106, 112, 121, 137, 141, 159] rfl
        refine hK44 _ _ ?_
        refine wp_cond_false (hE.eval rfl) ?_
        refine wp_seq_k (fun K45 hK45 => ?_)
        refine wp_plain [true, true, true, true, true, true, true] rfl rfl ?_
        refine s_move hE rfl rfl ?_; clear hE a; intro a hE
        refine s_bin hE rfl rfl bin_leq rfl ?_; clear hE a; intro a hE
        refine s_move hE rfl rfl ?_; clear hE a; intro a hE
        replace hE := hE.cast 115 rfl (show _ = Value.bool true from (congrArg Value.bool (decide_eq_true (by omega))))
        refine g_yes hE rfl rfl ?_
        refine s_move hE rfl rfl ?_; clear hE a; intro a hE
        refine g_yes hE rfl rfl ?_
        refine s_bin hE rfl rfl bin_leq rfl ?_; clear hE a; intro a hE
        refine s_pickt hE rfl rfl rfl ?_; clear hE a; intro a hE
        refine s_assign hE rfl rfl ?_; clear hE a; intro a hE
        refine q_nil ?_
        replace hE : Env a 172 [(0, _), (1, _), (2, _), (6, _), (7, _), (8, _), (9, _), (10, _), (11, _), (12, _), (13, _), (15, _), (16, _), (17, _), (19, _), (25, _), (77, _), (83, _), (85, _), (90, _), (92, _), (99, _), (100, _), (101, _), (102, _), (106, _), (112, _), (121, _), (137, _), (141, _), (159, _)] := hE.sel [0, 1, 2, 6, 7, 8, 9, 10, 11, 12, 13, 15, 16, 17, 19, 25, 77, 83, 85, 90, 92, 99, 100, 101, 102, 106, 112, 121, 137, 141, 159] rfl
        refine hK45 _ _ ?_
        replace hE := hE.cast 112 rfl (show _ = Value.bool false from (congrArg Value.bool (decide_eq_false (by omega))))
        refine wp_cond_false (hE.eval rfl) ?_
        refine wp_seq_k (fun K46 hK46 => ?_)
        refine wp_plain [true, false, true, true, true, false, true, true, true] rfl rfl ?_
        refine s_move hE rfl rfl ?_; clear hE a; intro a hE
        refine s_call hE rfl Tryd.call70 (lower_c c2 _ ) rfl ?_
        rintro e w5 ⟨rfl, hN⟩
        refine ⟨_, rfl, trivial, ?_⟩; clear hE a; intro a hE
        replace hM : Mem _ _ w5 [_] := hM.call0 hN trivial; clear hN
        refine s_bin hE rfl rfl bin_leq rfl ?_; clear hE a; intro a hE
        refine s_move hE rfl rfl ?_; clear hE a; intro a hE
        replace hE := hE.cast 125 rfl (show _ = Value.bool true from (congrArg Value.bool (decide_eq_true (by omega))))
        refine g_yes hE rfl rfl ?_
        refine s_move hE rfl rfl ?_; clear hE a; intro a hE
        refine g_yes hE rfl rfl ?_
        refine s_call hE rfl Tryd.call70 (lower_c c2 _ ) rfl ?_
        rintro e w6 ⟨rfl, hN⟩
        refine ⟨_, rfl, trivial, ?_⟩; clear hE a; intro a hE
        replace hM : Mem _ _ w6 [_] := hM.call0 hN trivial; clear hN
        refine g_yes hE rfl rfl ?_
        refine s_bin hE rfl rfl bin_leq rfl ?_; clear hE a; intro a hE
        refine s_pickt hE rfl rfl rfl ?_; clear hE a; intro a hE
        refine s_assign hE rfl rfl ?_; clear hE a; intro a hE
        refine q_nil ?_
        replace hE : Env a 172 [(0, _), (1, _), (2, _), (6, _), (7, _), (8, _), (9, _), (10, _), (11, _), (12, _), (13, _), (15, _), (16, _), (17, _), (19, _), (25, _), (77, _), (83, _), (85, _), (90, _), (92, _), (99, _), (100, _), (101, _), (102, _), (106, _), (112, _), (121, _), (137, _), (141, _), (159, _)] := hE.sel [0, 1, 2, 6, 7, 8, 9, 10, 11, 12, 13, 15, 16, 17, 19, 25, 77, 83, 85, 90, 92, 99, 100, 101, 102, 106, 112, 121, 137, 141, 159] rfl
        refine hK46 _ _ ?_
        replace hE := hE.cast 121 rfl (show _ = Value.bool false from (congrArg Value.bool (decide_eq_false (by omega))))
        refine wp_cond_false (hE.eval rfl) ?_
        refine wp_seq_k (fun K47 hK47 => ?_)
        refine wp_plain [true, true, true] rfl rfl ?_
        refine s_mkI hE rfl Tryd.underlying98 rfl rfl ?_; clear hE a; intro a hE
        refine s_assign hE rfl rfl ?_; clear hE a; intro a hE
        refine s_assign hE rfl rfl ?_; clear hE a; intro a hE
        refine q_nil ?_
        replace hE : Env a 172 [(0, _), (1, _), (2, _), (6, _), (7, _), (8, _), (9, _), (10, _), (11, _), (12, _), (13, _), (15, _), (16, _), (17, _), (19, _), (25, _), (77, _), (83, _), (85, _), (90, _), (92, _), (99, _), (100, _), (101, _), (102, _), (106, _), (112, _), (121, _), (137, _), (141, _), (159, _)] := hE.sel [0, 1, 2, 6, 7, 8, 9, 10, 11, 12, 13, 15, 16, 17, 19, 25, 77, 83, 85, 90, 92, 99, 100, 101, 102, 106, 112, 121, 137, 141, 159] rfl
        refine hK47 _ _ ?_
        refine wp_ret ?_
        refine q_block_r ?_
        refine q_then_r ?_
        refine q_block_r ?_
        refine q_then_r ?_
        refine q_then_r ?_
        refine q_block_r ?_
        refine q_then_r ?_
        refine f_ret2 hE rfl rfl rfl ?_
        exact ⟨(by rw [(pu_no2 hx2 98).1, (pu_no2 (c := c1) hx2 98).2]; rfl), hM.pick [] rfl⟩
      · refine q_nil ?_
        refine hK42 _ _ ?_
        refine wp_seq_k (fun K43 hK43 => ?_)
        refine wp_block ?_
        refine wp_seq_k (fun K44 hK44 => ?_)
        refine wp_plain [true, true, true, true, true, true] rfl rfl ?_
        refine s_move hE rfl rfl ?_; clear hE a; intro a hE
        refine s_bin hE rfl rfl bin_eql rfl ?_; clear hE a; intro a hE
        refine s_move hE rfl rfl ?_; clear hE a; intro a hE
        replace hE := hE.cast 109 rfl (show _ = Value.bool true from (congrArg Value.bool (decide_eq_true (by omega))))
        refine g_yes hE rfl rfl ?_
        refine s_move hE rfl rfl ?_; clear hE a; intro a hE
        refine s_pickt hE rfl rfl rfl ?_; clear hE a; intro a hE
        refine s_assign hE rfl rfl ?_; clear hE a; intro a hE
        refine q_nil ?_
        replace hE : Env a 172 [(0, _), (1, _), (2, _), (6, _), (7, _), (8, _), (9, _), (10, _), (11, _), (12, _), (13, _), (15, _), (16, _), (17, _), (19, _), (25, _), (77, _), (83, _), (85, _), (90, _), (92, _), (99, _), (100, _), (101, _), (102, _), (106, _), (112, _), (121, _), (137, _), (141, _), (159, _)] := hE.sel [0, 1, 2, 6, 7, 8, 9, 10, 11, 12, 13, 15, 16, 17, 19, 25, 77, 83, 85, 90, 92, 99, 100, 101, 102, 106, 112, 121, 137, 141, 159] rfl
        refine hK44 _ _ ?_
        refine wp_cond_false (hE.eval rfl) ?_
        refine wp_seq_k (fun K45 hK45 => ?_)
        refine wp_plain [true, true, true, true, true, true, true] rfl rfl ?_
        refine s_move hE rfl rfl ?_; clear hE a; intro a hE
        refine s_bin hE rfl rfl bin_leq rfl ?_; clear hE a; intro a hE
        refine s_move hE rfl rfl ?_; clear hE a; intro a hE
        replace hE := hE.cast 115 rfl (show _ = Value.bool true from (congrArg Value.bool (decide_eq_true (by omega))))
        refine g_yes hE rfl rfl ?_
        refine s_move hE rfl rfl ?_; clear hE a; intro a hE
        refine g_yes hE rfl rfl ?_
        refine s_bin hE rfl rfl bin_leq rfl ?_; clear hE a; intro a hE
        refine s_pickt hE rfl rfl rfl ?_; clear hE a; intro a hE
        refine s_assign hE rfl rfl ?_; clear hE a; intro a hE
        refine q_nil ?_
        replace hE : Env a 172 [(0, _), (1, _), (2, _), (6, _), (7, _), (8, _), (9, _), (10, _), (11, _), (12, _), (13, _), (15, _), (16, _), (17, _), (19, _), (25, _), (77, _), (83, _), (85, _), (90, _), (92, _), (99, _), (100, _), (101, _), (102, _), (106, _), (112, _), (121, _), (137, _), (141, _), (159, _)] := hE.sel [0, 1, 2, 6, 7, 8, 9, 10, 11, 12, 13, 15, 16, 17, 19, 25, 77, 83, 85, 90, 92, 99, 100, 101, 102, 106, 112, 121, 137, 141, 159] rfl
        refine hK45 _ _ ?_
        replace hE := hE.cast 112 rfl (show _ = Value.bool false from (congrArg Value.bool (decide_eq_false (by omega))))
        refine wp_cond_false (hE.eval rfl) ?_
        refine wp_seq_k (fun K46 hK46 => ?_)
        refine wp_plain [true, false, true, true, true, false, true, true, true] rfl rfl ?_
        refine s_move hE rfl rfl ?_; clear hE a; intro a hE
        refine s_call hE rfl Tryd.call70 (lower_c c2 _ ) rfl ?_
        rintro e w5 ⟨rfl, hN⟩
        refine ⟨_, rfl, trivial, ?_⟩; clear hE a; intro a hE
        replace hM : Mem _ _ w5 [_] := hM.call0 hN trivial; clear hN
        refine s_bin hE rfl rfl bin_leq rfl ?_; clear hE a; intro a hE
        refine s_move hE rfl rfl ?_; clear hE a; intro a hE
        replace hE := hE.cast 125 rfl (show _ = Value.bool true from (congrArg Value.bool (decide_eq_true (by omega))))
        refine g_yes hE rfl rfl ?_
        refine s_move hE rfl rfl ?_; clear hE a; intro a hE
        refine g_yes hE rfl rfl ?_
        refine s_call hE rfl Tryd.call70 (lower_c c2 _ ) rfl ?_
        rintro e w6 ⟨rfl, hN⟩
        refine ⟨_, rfl, trivial, ?_⟩; clear hE a; intro a hE
        replace hM : Mem _ _ w6 [_] := hM.call0 hN trivial; clear hN
        refine g_yes hE rfl rfl ?_
        refine s_bin hE rfl rfl bin_leq rfl ?_; clear hE a; intro a hE
        refine s_pickt hE rfl rfl rfl ?_; clear hE a; intro a hE
        refine s_assign hE rfl rfl ?_; clear hE a; intro a hE
        refine q_nil ?_
        replace hE : Env a 172 [(0, _), (1, _), (2, _), (6, _), (7, _), (8, _), (9, _), (10, _), (11, _), (12, _), (13, _), (15, _), (16, _), (17, _), (19, _), (25, _), (77, _), (83, _), (85, _), (90, _), (92, _), (99, _), (100, _), (101, _), (102, _), (106, _), (112, _), (121, _), (137, _), (141, _), (159, _)] := hE.sel [0, 1, 2, 6, 7, 8, 9, 10, 11, 12, 13, 15, 16, 17, 19, 25, 77, 83, 85, 90, 92, 99, 100, 101, 102, 106, 112, 121, 137, 141, 159] rfl
        refine hK46 _ _ ?_
        replace hE := hE.cast 121 rfl (show _ = Value.bool false from (congrArg Value.bool (decide_eq_false (by omega))))
        refine wp_cond_false (hE.eval rfl) ?_
        refine wp_seq_k (fun K47 hK47 => ?_)
        refine wp_plain [true, true, true] rfl rfl ?_
        refine s_mkI hE rfl Tryd.underlying98 rfl rfl ?_; clear hE a; intro a hE
        refine s_assign hE rfl rfl ?_; clear hE a; intro a hE
        refine s_assign hE rfl rfl ?_; clear hE a; intro a hE
        refine q_nil ?_
        replace hE : Env a 172 [(0, _), (1, _), (2, _), (6, _), (7, _), (8, _), (9, _), (10, _), (11, _), (12, _), (13, _), (15, _), (16, _), (17, _), (19, _), (25, _), (77, _), (83, _), (85, _), (90, _), (92, _), (99, _), (100, _), (101, _), (102, _), (106, _), (112, _), (121, _), (137, _), (141, _), (159, _)] := hE.sel [0, 1, 2, 6, 7, 8, 9, 10, 11, 12, 13, 15, 16, 17, 19, 25, 77, 83, 85, 90, 92, 99, 100, 101, 102, 106, 112, 121, 137, 141, 159] rfl
        refine hK47 _ _ ?_
        refine wp_ret ?_
        refine q_block_r ?_
        refine q_then_r ?_
        refine q_block_r ?_
        refine q_then_r ?_
        refine q_then_r ?_
        refine q_block_r ?_
        refine q_then_r ?_
        refine f_ret2 hE rfl rfl rfl ?_
        exact ⟨(by rw [(pu_no2 hx2 98).1, (pu_no2 (c := c1) hx2 98).2]; rfl), hM.pick [] rfl⟩
  · refine q_nil ?_
    refine hK25 _ _ ?_
    refine wp_seq_k (fun K26 hK26 => ?_)
    refine wp_block ?_
    refine wp_seq_k (fun K27 hK27 => ?_)
    refine wp_plain [true, true, true, true, true, true] rfl rfl ?_
    refine s_move hE rfl rfl ?_; clear hE a; intro a hE
    refine s_bin hE rfl rfl bin_eql rfl ?_; clear hE a; intro a hE
    refine s_move hE rfl rfl ?_; clear hE a; intro a hE
    replace hE := hE.cast 109 rfl (show _ = Value.bool false from (congrArg Value.bool (decide_eq_false (by omega))))
    refine g_no (b := false) hE rfl rfl rfl ?_; clear hE a; intro a hE
    refine s_pickf hE rfl rfl rfl ?_; clear hE a; intro a hE
    refine s_assign hE rfl rfl ?_; clear hE a; intro a hE
    refine q_nil ?_
    replace hE : Env a 172 [(0, _), (1, _), (2, _), (6, _), (7, _), (8, _), (9, _), (10, _), (11, _), (12, _), (13, _), (15, _), (16, _), (19, _), (25, _), (77, _), (83, _), (85, _), (90, _), (92, _), (99, _), (100, _), (101, _), (102, _), (106, _)] := hE.sel [0, 1, 2, 6, 7, 8, 9, 10, 11, 12, 13, 15, 16, 19, 25, 77, 83, 85, 90, 92, 99, 100, 101, 102, 106] rfl
    refine hK27 _ _ ?_
    refine wp_cond_false (hE.eval rfl) ?_
    refine wp_seq_k (fun K28 hK28 => ?_)
    refine wp_plain [true, true, true, true, true, true, true] rfl rfl ?_
    refine s_move hE rfl rfl ?_; clear hE a; intro a hE
    refine s_bin hE rfl rfl bin_leq rfl ?_; clear hE a; intro a hE
    refine s_move hE rfl rfl ?_; clear hE a; intro a hE
    replace hE := hE.cast 115 rfl (show _ = Value.bool false from (congrArg Value.bool (decide_eq_false (by omega))))
    refine g_no (b := false) hE rfl rfl rfl ?_; clear hE a; intro a hE
    refine g_no (b := false) hE rfl rfl rfl ?_; clear hE a; intro a hE
    refine s_pickf hE rfl rfl rfl ?_; clear hE a; intro a hE
    refine s_assign hE rfl rfl ?_; clear hE a; intro a hE
    refine q_nil ?_
    replace hE : Env a 172 [(0, _), (1, _), (2, _), (6, _), (7, _), (8, _), (9, _), (10, _), (11, _), (12, _), (13, _), (15, _), (16, _), (19, _), (25, _), (77, _), (83, _), (85, _), (90, _), (92, _), (99, _), (100, _), (101, _), (102, _), (106, _), (112, _)] := hE.sel [0, 1, 2, 6, 7, 8, 9, 10, 11, 12, 13, 15, 16, 19, 25, 77, 83, 85, 90, 92, 99, 100, 101, 102, 106, 112] rfl
    refine hK28 _ _ ?_
    refine wp_cond_false (hE.eval rfl) ?_
    refine wp_seq_k (fun K29 hK29 => ?_)
    refine wp_plain [true, false, true, true, true, false, true, true, true] rfl rfl ?_
    refine s_move hE rfl rfl ?_; clear hE a; intro a hE
    refine s_call hE rfl Tryd.call70 (lower_c c1 _ ) rfl ?_
    rintro e w2 ⟨rfl, hN⟩
    refine ⟨_, rfl, trivial, ?_⟩; clear hE a; intro a hE
    replace hM : Mem _ _ w2 [_] := hM.call0 hN trivial; clear hN
    refine s_bin hE rfl rfl bin_leq rfl ?_; clear hE a; intro a hE
    refine s_move hE rfl rfl ?_; clear hE a; intro a hE
    replace hE := hE.cast 125 rfl (show _ = Value.bool false from (congrArg Value.bool (decide_eq_false (by omega))))
    refine g_no (b := false) hE rfl rfl rfl ?_; clear hE a; intro a hE
    refine g_no (b := false) hE rfl rfl rfl ?_; clear hE a; intro a hE
    refine g_no (b := false) hE rfl rfl rfl ?_; clear hE a; intro a hE
    refine s_pickf hE rfl rfl rfl ?_; clear hE a; intro a hE
    refine s_assign hE rfl rfl ?_; clear hE a; intro a hE
    refine q_nil ?_
    replace hE : Env a 172 [(0, _), (1, _), (2, _), (6, _), (7, _), (8, _), (9, _), (10, _), (11, _), (12, _), (13, _), (15, _), (16, _), (19, _), (25, _), (77, _), (83, _), (85, _), (90, _), (92, _), (99, _), (100, _), (101, _), (102, _), (106, _), (112, _), (121, _)] := hE.sel [0, 1, 2, 6, 7, 8, 9, 10, 11, 12, 13, 15, 16, 19, 25, 77, 83, 85, 90, 92, 99, 100, 101, 102, 106, 112, 121] rfl
    refine hK29 _ _ ?_
    refine wp_cond_false (hE.eval rfl) ?_
    refine wp_seq_k (fun K30 hK30 => ?_)
    refine wp_plain [true, true, true] rfl rfl ?_
    refine s_mkI hE rfl Tryd.underlying98 rfl rfl ?_; clear hE a; intro a hE
    refine s_assign hE rfl rfl ?_; clear hE a; intro a hE
    refine s_assign hE rfl rfl ?_; clear hE a; intro a hE
    refine q_nil ?_
    replace hE : Env a 172 [(0, _), (1, _), (2, _), (6, _), (7, _), (8, _), (9, _), (10, _), (11, _), (12, _), (13, _), (15, _), (16, _), (19, _), (25, _), (77, _), (83, _), (85, _), (90, _), (92, _), (99, _), (100, _), (101, _), (102, _), (106, _), (112, _), (121, _)] := hE.sel [0, 1, 2, 6, 7, 8, 9, 10, 11, 12, 13, 15, 16, 19, 25, 77, 83, 85, 90, 92, 99, 100, 101, 102, 106, 112, 121] rfl
    refine hK30 _ _ ?_
    refine wp_ret ?_
    refine q_block_r ?_
    refine q_then_r ?_
    refine q_block_r ?_
    refine q_then_r ?_
    refine q_then_r ?_
    refine q_block_r ?_
    refine q_then_r ?_
    refine f_ret2 hE rfl rfl rfl ?_
    exact ⟨(by rw [(pu_no1 hx1 98).1, (pu_no1 (d := c2) hx1 98).2]; rfl), hM.pick [] rfl⟩
  · refine q_nil ?_
    refine hK25 _ _ ?_
    refine wp_seq_k (fun K26 hK26 => ?_)
    refine wp_block ?_
    refine wp_seq_k (fun K27 hK27 => ?_)
    refine wp_plain [true, true, true, true, true, true] rfl rfl ?_
    refine s_move hE rfl rfl ?_; clear hE a; intro a hE
    refine s_bin hE rfl rfl bin_eql rfl ?_; clear hE a; intro a hE
    refine s_move hE rfl rfl ?_; clear hE a; intro a hE
    replace hE := hE.cast 109 rfl (show _ = Value.bool false from (congrArg Value.bool (decide_eq_false (by omega))))
    refine g_no (b := false) hE rfl rfl rfl ?_; clear hE a; intro a hE
    refine s_pickf hE rfl rfl rfl ?_; clear hE a; intro a hE
    refine s_assign hE rfl rfl ?_; clear hE a; intro a hE
    refine q_nil ?_
    replace hE : Env a 172 [(0, _), (1, _), (2, _), (6, _), (7, _), (8, _), (9, _), (10, _), (11, _), (12, _), (13, _), (15, _), (16, _), (19, _), (25, _), (77, _), (83, _), (85, _), (90, _), (92, _), (99, _), (100, _), (101, _), (102, _), (106, _)] := hE.sel [0, 1, 2, 6, 7, 8, 9, 10, 11, 12, 13, 15, 16, 19, 25, 77, 83, 85, 90, 92, 99, 100, 101, 102, 106] rfl
    refine hK27 _ _ ?_
    refine wp_cond_false (hE.eval rfl) ?_
    refine wp_seq_k (fun K28 hK28 => ?_)
    refine wp_plain [true, true, true, true, true, true, true] rfl rfl ?_
    refine s_move hE rfl rfl ?_; clear hE a; intro a hE
    refine s_bin hE rfl rfl bin_leq rfl ?_; clear hE a; intro a hE
    refine s_move hE rfl rfl ?_; clear hE a; intro a hE
    replace hE := hE.cast 115 rfl (show _ = Value.bool true from (congrArg Value.bool (decide_eq_true (by omega))))
    refine g_yes hE rfl rfl ?_
    refine s_move hE rfl rfl ?_; clear hE a; intro a hE
    refine g_yes hE rfl rfl ?_
    refine s_bin hE rfl rfl bin_leq rfl ?_; clear hE a; intro a hE
    refine s_pickt hE rfl rfl rfl ?_; clear hE a; intro a hE
    refine s_assign hE rfl rfl ?_; clear hE a; intro a hE
    refine q_nil ?_
    replace hE : Env a 172 [(0, _), (1, _), (2, _), (6, _), (7, _), (8, _), (9, _), (10, _), (11, _), (12, _), (13, _), (15, _), (16, _), (19, _), (25, _), (77, _), (83, _), (85, _), (90, _), (92, _), (99, _), (100, _), (101, _), (102, _), (106, _), (112, _)] := hE.sel [0, 1, 2, 6, 7, 8, 9, 10, 11, 12, 13, 15, 16, 19, 25, 77, 83, 85, 90, 92, 99, 100, 101, 102, 106, 112] rfl
    refine hK28 _ _ ?_
    replace hE := hE.cast 112 rfl (show _ = Value.bool false from (congrArg Value.bool (decide_eq_false (by omega))))
    refine wp_cond_false (hE.eval rfl) ?_
    refine wp_seq_k (fun K29 hK29 => ?_)
    refine wp_plain [true, false, true, true, true, false, true, true, true] rfl rfl ?_
    refine s_move hE rfl rfl ?_; clear hE a; intro a hE
    refine s_call hE rfl Tryd.call70 (lower_c c1 _ ) rfl ?_
    rintro e w2 ⟨rfl, hN⟩
    refine ⟨_, rfl, trivial, ?_⟩; clear hE a; intro a hE
    replace hM : Mem _ _ w2 [_] := hM.call0 hN trivial; clear hN
    refine s_bin hE rfl rfl bin_leq rfl ?_; clear hE a; intro a hE
    refine s_move hE rfl rfl ?_; clear hE a; intro a hE
    replace hE := hE.cast 125 rfl (show _ = Value.bool false from (congrArg Value.bool (decide_eq_false (by omega))))
    refine g_no (b := false) hE rfl rfl rfl ?_; clear hE a; intro a hE
    refine g_no (b := false) hE rfl rfl rfl ?_; clear hE a; intro a hE
    refine g_no (b := false) hE rfl rfl rfl ?_; clear hE a; intro a hE
    refine s_pickf hE rfl rfl rfl ?_; clear hE a; intro a hE
    refine s_assign hE rfl rfl ?_; clear hE a; intro a hE
    refine q_nil ?_
    replace hE : Env a 172 [(0, _), (1, _), (2, _), (6, _), (7, _), (8, _), (9, _), (10, _), (11, _), (12, _), (13, _), (15, _), (16, _), (19, _), (25, _), (77, _), (83, _), (85, _), (90, _), (92, _), (99, _), (100, _), (101, _), (102, _), (106, _), (112, _), (121, _)] := hE.sel [0, 1, 2, 6, 7, 8, 9, 10, 11, 12, 13, 15, 16, 19, 25, 77, 83, 85, 90, 92, 99, 100, 101, 102, 106, 112, 121] rfl
    refine hK29 _ _ ?_
    refine wp_cond_false (hE.eval rfl) ?_
    refine wp_seq_k (fun K30 hK30 => ?_)
    refine wp_plain [true, true, true] rfl rfl ?_
    refine s_mkI hE rfl Tryd.underlying98 rfl rfl ?_; clear hE a; intro a hE
    refine s_assign hE rfl rfl ?_; clear hE a; intro a hE
    refine s_assign hE rfl rfl ?_; clear hE a; intro a hE
    refine q_nil ?_
    replace hE : Env a 172 [(0, _), (1, _), (2, _), (6, _), (7, _), (8, _), (9, _), (10, _), (11, _), (12, _), (13, _), (15, _), (16, _), (19, _), (25, _), (77, _), (83, _), (85, _), (90, _), (92, _), (99, _), (100, _), (101, _), (102, _), (106, _), (112, _), (121, _)] := hE.sel [0, 1, 2, 6, 7, 8, 9, 10, 11, 12, 13, 15, 16, 19, 25, 77, 83, 85, 90, 92, 99, 100, 101, 102, 106, 112, 121] rfl
    refine hK30 _ _ ?_
    refine wp_ret ?_
    refine q_block_r ?_
    refine q_then_r ?_
    refine q_block_r ?_
    refine q_then_r ?_
    refine q_then_r ?_
    refine q_block_r ?_
    refine q_then_r ?_
    refine f_ret2 hE rfl rfl rfl ?_
    exact ⟨(by rw [(pu_no1 hx1 98).1, (pu_no1 (d := c2) hx1 98).2]; rfl), hM.pick [] rfl⟩
  · refine q_nil ?_
    refine hK25 _ _ ?_
    refine wp_seq_k (fun K26 hK26 => ?_)
    refine wp_block ?_
    refine wp_seq_k (fun K27 hK27 => ?_)
    refine wp_plain [true, true, true, true, true, true] rfl rfl ?_
    refine s_move hE rfl rfl ?_; clear hE a; intro a hE
    refine s_bin hE rfl rfl bin_eql rfl ?_; clear hE a; intro a hE
    refine s_move hE rfl rfl ?_; clear hE a; intro a hE
    replace hE := hE.cast 109 rfl (show _ = Value.bool false from (congrArg Value.bool (decide_eq_false (by omega))))
    refine g_no (b := false) hE rfl rfl rfl ?_; clear hE a; intro a hE
    refine s_pickf hE rfl rfl rfl ?_; clear hE a; intro a hE
    refine s_assign hE rfl rfl ?_; clear hE a; intro a hE
    refine q_nil ?_
    replace hE : Env a 172 [(0, _), (1, _), (2, _), (6, _), (7, _), (8, _), (9, _), (10, _), (11, _), (12, _), (13, _), (15, _), (16, _), (19, _), (25, _), (77, _), (83, _), (85, _), (90, _), (92, _), (99, _), (100, _), (101, _), (102, _), (106, _)] := hE.sel [0, 1, 2, 6, 7, 8, 9, 10, 11, 12, 13, 15, 16, 19, 25, 77, 83, 85, 90, 92, 99, 100, 101, 102, 106] rfl
    refine hK27 _ _ ?_
    refine wp_cond_false (hE.eval rfl) ?_
    refine wp_seq_k (fun K28 hK28 => ?_)
    refine wp_plain [true, true, true, true, true, true, true] rfl rfl ?_
    refine s_move hE rfl rfl ?_; clear hE a; intro a hE
    refine s_bin hE rfl rfl bin_leq rfl ?_; clear hE a; intro a hE
    refine s_move hE rfl rfl ?_; clear hE a; intro a hE
    replace hE := hE.cast 115 rfl (show _ = Value.bool true from (congrArg Value.bool (decide_eq_true (by omega))))
    refine g_yes hE rfl rfl ?_
    refine s_move hE rfl rfl ?_; clear hE a; intro a hE
    refine g_yes hE rfl rfl ?_
    refine s_bin hE rfl rfl bin_leq rfl ?_; clear hE a; intro a hE
    refine s_pickt hE rfl rfl rfl ?_; clear hE a; intro a hE
    refine s_assign hE rfl rfl ?_; clear hE a; intro a hE
    refine q_nil ?_
    replace hE : Env a 172 [(0, _), (1, _), (2, _), (6, _), (7, _), (8, _), (9, _), (10, _), (11, _), (12, _), (13, _), (15, _), (16, _), (19, _), (25, _), (77, _), (83, _), (85, _), (90, _), (92, _), (99, _), (100, _), (101, _), (102, _), (106, _), (112, _)] := hE.sel [0, 1, 2, 6, 7, 8, 9, 10, 11, 12, 13, 15, 16, 19, 25, 77, 83, 85, 90, 92, 99, 100, 101, 102, 106, 112] rfl
    refine hK28 _ _ ?_
    replace hE := hE.cast 112 rfl (show _ = Value.bool false from (congrArg Value.bool (decide_eq_false (by omega))))
    refine wp_cond_false (hE.eval rfl) ?_
    refine wp_seq_k (fun K29 hK29 => ?_)
    refine wp_plain [true, false, true, true, true, false, true, true, true] rfl rfl ?_
    refine s_move hE rfl rfl ?_; clear hE a; intro a hE
    refine s_call hE rfl Tryd.call70 (lower_c c1 _ ) rfl ?_
    rintro e w2 ⟨rfl, hN⟩
    refine ⟨_, rfl, trivial, ?_⟩; clear hE a; intro a hE
    replace hM : Mem _ _ w2 [_] := hM.call0 hN trivial; clear hN
    refine s_bin hE rfl rfl bin_leq rfl ?_; clear hE a; intro a hE
    refine s_move hE rfl rfl ?_; clear hE a; intro a hE
    replace hE := hE.cast 125 rfl (show _ = Value.bool true from (congrArg Value.bool (decide_eq_true (by omega))))
    refine g_yes hE rfl rfl ?_
    refine s_move hE rfl rfl ?_; clear hE a; intro a hE
    refine g_yes hE rfl rfl ?_
    refine s_call hE rfl Tryd.call70 (lower_c c1 _ ) rfl ?_
    rintro e w3 ⟨rfl, hN⟩
    refine ⟨_, rfl, trivial, ?_⟩; clear hE a; intro a hE
    replace hM : Mem _ _ w3 [_] := hM.call0 hN trivial; clear hN
    refine g_yes hE rfl rfl ?_
    refine s_bin hE rfl rfl bin_leq rfl ?_; clear hE a; intro a hE
    refine s_pickt hE rfl rfl rfl ?_; clear hE a; intro a hE
    refine s_assign hE rfl rfl ?_; clear hE a; intro a hE
    refine q_nil ?_
    replace hE : Env a 172 [(0, _), (1, _), (2, _), (6, _), (7, _), (8, _), (9, _), (10, _), (11, _), (12, _), (13, _), (15, _), (16, _), (19, _), (25, _), (77, _), (83, _), (85, _), (90, _), (92, _), (99, _), (100, _), (101, _), (102, _), (106, _), (112, _), (121, _)] := hE.sel [0, 1, 2, 6, 7, 8, 9, 10, 11, 12, 13, 15, 16, 19, 25, 77, 83, 85, 90, 92, 99, 100, 101, 102, 106, 112, 121] rfl
    refine hK29 _ _ ?_
    replace hE := hE.cast 121 rfl (show _ = Value.bool false from (congrArg Value.bool (decide_eq_false (by omega))))
    refine wp_cond_false (hE.eval rfl) ?_
    refine wp_seq_k (fun K30 hK30 => ?_)
    refine wp_plain [true, true, true] rfl rfl ?_
    refine s_mkI hE rfl Tryd.underlying98 rfl rfl ?_; clear hE a; intro a hE
    refine s_assign hE rfl rfl ?_; clear hE a; intro a hE
    refine s_assign hE rfl rfl ?_; clear hE a; intro a hE
    refine q_nil ?_
    replace hE : Env a 172 [(0, _), (1, _), (2, _), (6, _), (7, _), (8, _), (9, _), (10, _), (11, _), (12, _), (13, _), (15, _), (16, _), (19, _), (25, _), (77, _), (83, _), (85, _), (90, _), (92, _), (99, _), (100, _), (101, _), (102, _), (106, _), (112, _), (121, _)] := hE.sel [0, 1, 2, 6, 7, 8, 9, 10, 11, 12, 13, 15, 16, 19, 25, 77, 83, 85, 90, 92, 99, 100, 101, 102, 106, 112, 121] rfl
    refine hK30 _ _ ?_
    refine wp_ret ?_
    refine q_block_r ?_
    refine q_then_r ?_
    refine q_block_r ?_
    refine q_then_r ?_
    refine q_then_r ?_
    refine q_block_r ?_
    refine q_then_r ?_
    refine f_ret2 hE rfl rfl rfl ?_
    exact ⟨(by rw [(pu_no1 hx1 98).1, (pu_no1 (d := c2) hx1 98).2]; rfl), hM.pick [] rfl⟩
  · refine q_nil ?_
    refine hK25 _ _ ?_
    refine wp_seq_k (fun K26 hK26 => ?_)
    refine wp_block ?_
    refine wp_seq_k (fun K27 hK27 => ?_)
    refine wp_plain [true, true, true, true, true, true] rfl rfl ?_
    refine s_move hE rfl rfl ?_; clear hE a; intro a hE
    refine s_bin hE rfl rfl bin_eql rfl ?_; clear hE a; intro a hE
    refine s_move hE rfl rfl ?_; clear hE a; intro a hE
    replace hE := hE.cast 109 rfl (show _ = Value.bool true from (congrArg Value.bool (decide_eq_true (by omega))))
    refine g_yes hE rfl rfl ?_
    refine s_move hE rfl rfl ?_; clear hE a; intro a hE
    refine s_pickt hE rfl rfl rfl ?_; clear hE a; intro a hE
    refine s_assign hE rfl rfl ?_; clear hE a; intro a hE
    refine q_nil ?_
    replace hE : Env a 172 [(0, _), (1, _), (2, _), (6, _), (7, _), (8, _), (9, _), (10, _), (11, _), (12, _), (13, _), (15, _), (16, _), (19, _), (25, _), (77, _), (83, _), (85, _), (90, _), (92, _), (99, _), (100, _), (101, _), (102, _), (106, _)] := hE.sel [0, 1, 2, 6, 7, 8, 9, 10, 11, 12, 13, 15, 16, 19, 25, 77, 83, 85, 90, 92, 99, 100, 101, 102, 106] rfl
    refine hK27 _ _ ?_
    refine wp_cond_false (hE.eval rfl) ?_
    refine wp_seq_k (fun K28 hK28 => ?_)
    refine wp_plain [true, true, true, true, true, true, true] rfl rfl ?_
    refine s_move hE rfl rfl ?_; clear hE a; intro a hE
    refine s_bin hE rfl rfl bin_leq rfl ?_; clear hE a; intro a hE
    refine s_move hE rfl rfl ?_; clear hE a; intro a hE
    replace hE := hE.cast 115 rfl (show _ = Value.bool true from (congrArg Value.bool (decide_eq_true (by omega))))
    refine g_yes hE rfl rfl ?_
    refine s_move hE rfl rfl ?_; clear hE a; intro a hE
    refine g_yes hE rfl rfl ?_
    refine s_bin hE rfl rfl bin_leq rfl ?_; clear hE a; intro a hE
    refine s_pickt hE rfl rfl rfl ?_; clear hE a; intro a hE
    refine s_assign hE rfl rfl ?_; clear hE a; intro a hE
    refine q_nil ?_
    replace hE : Env a 172 [(0, _), (1, _), (2, _), (6, _), (7, _), (8, _), (9, _), (10, _), (11, _), (12, _), (13, _), (15, _), (16, _), (19, _), (25, _), (77, _), (83, _), (85, _), (90, _), (92, _), (99, _), (100, _), (101, _), (102, _), (106, _), (112, _)] := hE.sel [0, 1, 2, 6, 7, 8, 9, 10, 11, 12, 13, 15, 16, 19, 25, 77, 83, 85, 90, 92, 99, 100, 101, 102, 106, 112] rfl
    refine hK28 _ _ ?_
    replace hE := hE.cast 112 rfl (show _ = Value.bool false from (congrArg Value.bool (decide_eq_false (by omega))))
    refine wp_cond_false (hE.eval rfl) ?_
    refine wp_seq_k (fun K29 hK29 => ?_)
    refine wp_plain [true, false, true, true, true, false, true, true, true] rfl rfl ?_
    refine s_move hE rfl rfl ?_; clear hE a; intro a hE
    refine s_call hE rfl Tryd.call70 (lower_c c1 _ ) rfl ?_
    rintro e w2 ⟨rfl, hN⟩
    refine ⟨_, rfl, trivial, ?_⟩; clear hE a; intro a hE
    replace hM : Mem _ _ w2 [_] := hM.call0 hN trivial; clear hN
    refine s_bin hE rfl rfl bin_leq rfl ?_; clear hE a; intro a hE
    refine s_move hE rfl rfl ?_; clear hE a; intro a hE
    replace hE := hE.cast 125 rfl (show _ = Value.bool true from (congrArg Value.bool (decide_eq_true (by omega))))
    refine g_yes hE rfl rfl ?_
    refine s_move hE rfl rfl ?_; clear hE a; intro a hE
    refine g_yes hE rfl rfl ?_
    refine s_call hE rfl Tryd.call70 (lower_c c1 _ ) rfl ?_
    rintro e w3 ⟨rfl, hN⟩
    refine ⟨_, rfl, trivial, ?_⟩; clear hE a; intro a hE
    replace hM : Mem _ _ w3 [_] := hM.call0 hN trivial; clear hN
    refine g_yes hE rfl rfl ?_
    refine s_bin hE rfl rfl bin_leq rfl ?_; clear hE a; intro a hE
    refine s_pickt hE rfl rfl rfl ?_; clear hE a; intro a hE
    refine s_assign hE rfl rfl ?_; clear hE a; intro a hE
    refine q_nil ?_
    replace hE : Env a 172 [(0, _), (1, _), (2, _), (6, _), (7, _), (8, _), (9, _), (10, _), (11, _), (12, _), (13, _), (15, _), (16, _), (19, _), (25, _), (77, _), (83, _), (85, _), (90, _), (92, _), (99, _), (100, _), (101, _), (102, _), (106, _), (112, _), (121, _)] := hE.sel [0, 1, 2, 6, 7, 8, 9, 10, 11, 12, 13, 15, 16, 19, 25, 77, 83, 85, 90, 92, 99, 100, 101, 102, 106, 112, 121] rfl
    refine hK29 _ _ ?_
    replace hE := hE.cast 121 rfl (show _ = Value.bool false from (congrArg Value.bool (decide_eq_false (by omega))))
    refine wp_cond_false (hE.eval rfl) ?_
    refine wp_seq_k (fun K30 hK30 => ?_)
    refine wp_plain [true, true, true] rfl rfl ?_
    refine s_mkI hE rfl Tryd.underlying98 rfl rfl ?_; clear hE a; intro a hE
    refine s_assign hE rfl rfl ?_; clear hE a; intro a hE
    refine s_assign hE rfl rfl ?_; clear hE a; intro a hE
    refine q_nil ?_
    replace hE : Env a 172 [(0, _), (1, _), (2, _), (6, _), (7, _), (8, _), (9, _), (10, _), (11, _), (12, _), (13, _), (15, _), (16, _), (19, _), (25, _), (77, _), (83, _), (85, _), (90, _), (92, _), (99, _), (100, _), (101, _), (102, _), (106, _), (112, _), (121, _)] := hE.sel [0, 1, 2, 6, 7, 8, 9, 10, 11, 12, 13, 15, 16, 19, 25, 77, 83, 85, 90, 92, 99, 100, 101, 102, 106, 112, 121] rfl
    refine hK30 _ _ ?_
    refine wp_ret ?_
    refine q_block_r ?_
    refine q_then_r ?_
    refine q_block_r ?_
    refine q_then_r ?_
    refine q_then_r ?_
    refine q_block_r ?_
    refine q_then_r ?_
    refine f_ret2 hE rfl rfl rfl ?_
    exact ⟨(by rw [(pu_no1 hx1 98).1, (pu_no1 (d := c2) hx1 98).2]; rfl), hM.pick [] rfl⟩
def errS : Ent := errE 1
theorem terr_c (fn s : ByteArray) (w : World) (hS : errS.holds w) (hs : s.size ≤ 281474976710656) : Calls Tryd.prog 61 #[.string fn, .string s, .int .i64 16, .int .i64 8, .iface 98 (.int .i64 2)] w fun e w' => ∃ x, e = .returned (.iface 101 x) ∧ Mem w [] w' [] := by
  obtain ⟨t, p, hv⟩ := hS
  refine (Tryd.strconv_toError_syntax fn s 16 8 _ w hs hv (.inr ⟨t, p, rfl⟩)).mono ?_
  rintro e w' h
  obtain ⟨N, h⟩ := h
  exact ⟨_, h.1, Mem.ofBelow (by first | exact h.2.2.2 | exact h.2.2 | exact h.2)⟩
theorem pu_c (c1 c2 : UInt8) (w : World) (hS : errS.holds w) : Calls Tryd.prog 46 #[.string (str [c1, c2]), .int .i64 16, .int .i64 8] w fun e w' => ∃ x, e = .returned (.tuple #[.int .u64 ((puV c1 c2 : Nat) : Int), x]) ∧ IfV (puB c1 c2) x ∧ Mem w [] w' [] := by
  have hM : Mem w [] w [errS] := Mem.startR w (fun g hg => by
    simp only [List.mem_cons, List.not_mem_nil, or_false] at hg
    rcases hg with rfl
    exact ⟨hS, rfl⟩)
  refine f_enter 26 Tryd.func46 rfl rfl rfl ?_
  intro a hE
  replace hE : Env a 26 [(0, _), (1, _), (2, _)] := hE
  refine wp_seq_k (fun K1 hK1 => ?_)
  refine wp_plain [true, true] rfl rfl ?_
  refine s_assign hE rfl rfl ?_; clear hE a; intro a hE
  refine s_assign hE rfl rfl ?_; clear hE a; intro a hE
  refine q_nil ?_
  refine hK1 _ _ ?_
  refine wp_seq_k (fun K2 hK2 => ?_)
  refine wp_plain [true, true, true, false, true, true, true, true, true] rfl rfl ?_
  refine s_move hE rfl rfl ?_; clear hE a; intro a hE
  refine s_move hE rfl rfl ?_; clear hE a; intro a hE
  refine s_move hE rfl rfl ?_; clear hE a; intro a hE
  refine s_call hE rfl Tryd.call60 (ipu_c c1 c2 _) rfl ?_
  rintro e w1 ⟨rfl, hN⟩
  refine ⟨_, rfl, trivial, ?_⟩; clear hE a; intro a hE
  replace hM : Mem _ _ w1 [_] := hM.call0 hN trivial; clear hN
  refine s_move hE rfl rfl ?_; clear hE a; intro a hE
  refine s_extract hE rfl rfl rfl ?_; clear hE a; intro a hE
  refine s_extract hE rfl rfl rfl ?_; clear hE a; intro a hE
  refine s_assign hE rfl rfl ?_; clear hE a; intro a hE
  refine s_assign hE rfl rfl ?_; clear hE a; intro a hE
  refine q_nil ?_
  replace hE : Env a 26 [(0, _), (1, _), (2, _), (6, _), (7, _), (8, _), (9, _)] := hE.sel [0, 1, 2, 6, 7, 8, 9] rfl
  refine hK2 _ _ ?_
  refine wp_seq_k (fun K3 hK3 => ?_)
  refine wp_seq_k (fun K4 hK4 => ?_)
  refine wp_plain [true, true] rfl rfl ?_
  refine s_move hE rfl rfl ?_; clear hE a; intro a hE
  refine s_neNil hE rfl puI_if Tryd.underlying71 rfl ?_; clear hE a; intro a hE
  refine q_nil ?_
  replace hE : Env a 26 [(0, _), (1, _), (2, _), (6, _), (7, _), (8, _), (9, _), (18, _)] := hE.sel [0, 1, 2, 6, 7, 8, 9, 18] rfl
  refine hK4 _ _ ?_
  refine hE.split 18 rfl (fun hb18 hE' => ?_) (fun hb18 hE' => ?_)
  · replace hE := hE'; clear hE'
    replace hb18 := not_true hb18
    replace hE := hE.cast 9 rfl (show _ = Value.iface 98 (.int .i64 2) from puI_no hb18)
    refine wp_cond_true (hE.eval rfl) ?_
    refine wp_seq_k (fun K5 hK5 => ?_)
    refine wp_plain [true, true, true, true, true, false, true, true] rfl rfl ?_
    refine s_move hE rfl rfl ?_; clear hE a; intro a hE
    refine s_move hE rfl rfl ?_; clear hE a; intro a hE
    refine s_move hE rfl rfl ?_; clear hE a; intro a hE
    refine s_move hE rfl rfl ?_; clear hE a; intro a hE
    refine s_move hE rfl rfl ?_; clear hE a; intro a hE
    refine s_call hE rfl Tryd.call61 (terr_c _ (str [c1, c2]) _ (hM.get 0 rfl) (by rw [str_size]; show 2 ≤ _; decide)) rfl ?_
    rintro e w2 ⟨x24, rfl, hN⟩
    refine ⟨_, rfl, trivial, ?_⟩; clear hE a; intro a hE
    replace hM : Mem _ _ w2 [_] := hM.call0 hN trivial; clear hN
    refine s_assign hE rfl rfl ?_; clear hE a; intro a hE
    refine s_assign hE rfl rfl ?_; clear hE a; intro a hE
    refine q_nil ?_
    replace hE : Env a 26 [(0, _), (1, _), (2, _), (6, _), (7, _), (8, _), (9, _), (18, _)] := hE.sel [0, 1, 2, 6, 7, 8, 9, 18] rfl
    refine hK5 _ _ ?_
    refine wp_ret ?_
    refine q_then_r ?_
    refine f_ret2 hE rfl rfl rfl ?_
    exact ⟨_, rfl, .inr ⟨hb18, _, _, rfl⟩, hM.pick [] rfl⟩
  · replace hE := hE'; clear hE'
    replace hb18 := not_false' hb18
    refine wp_cond_false (hE.eval rfl) ?_
    refine wp_skip ?_
    refine hK3 _ _ ?_
    refine wp_seq_k (fun K5 hK5 => ?_)
    refine wp_plain [true, true, true] rfl rfl ?_
    refine s_move hE rfl rfl ?_; clear hE a; intro a hE
    refine s_assign hE rfl rfl ?_; clear hE a; intro a hE
    refine s_assign hE rfl rfl ?_; clear hE a; intro a hE
    refine q_nil ?_
    replace hE : Env a 26 [(0, _), (1, _), (2, _), (6, _), (7, _), (8, _), (9, _), (18, _)] := hE.sel [0, 1, 2, 6, 7, 8, 9, 18] rfl
    refine hK5 _ _ ?_
    refine wp_ret ?_
    refine f_ret2 hE rfl rfl rfl ?_
    exact ⟨_, rfl, .inl ⟨hb18, rfl⟩, hM.pick [] rfl⟩
theorem of_long (s : List UInt8) (w : World) (hQ : tabQ.holds w) (hS : errS.holds w) (hs64 : s.length = 64) : Calls Tryd.prog 25 #[.string (str s)] w fun e w' => e = .returned (.tuple #[.agg (bv ((ofT s).1)).toArray, .bool ((ofT s).2)]) ∧ Mem w [] w' [] := by
  have hM : Mem w [] w [tabQ, errS] := Mem.startR w (fun g hg => by
    simp only [List.mem_cons, List.not_mem_nil, or_false] at hg
    rcases hg with rfl | rfl
    · exact ⟨hQ, rfl⟩
    · exact ⟨hS, rfl⟩)
  refine f_enter 39 Tryd.func25 rfl rfl rfl ?_
  intro a hE
  replace hE : Env a 39 [(0, _)] := hE
  refine wp_seq_k (fun K1 hK1 => ?_)
  refine wp_plain [false, true] rfl rfl ?_
  refine s_alloc [32] hE hM zero35 rfl rfl ?_; clear hE a; intro a b2 w1 hE hM'
  clear hM; have hM := hM'; clear hM'
  refine s_assign hE rfl rfl ?_; clear hE a; intro a hE
  refine q_nil ?_
  refine hK1 _ _ ?_
  refine wp_seq_k (fun K2 hK2 => ?_)
  refine wp_seq_k (fun K3 hK3 => ?_)
  refine wp_plain [true] rfl rfl ?_
  refine s_move hE rfl rfl ?_; clear hE a; intro a hE
  refine q_nil ?_
  refine hK3 _ _ ?_
  refine wp_block ?_
  replace hM := Mem.blkEq (ss := [bv (List.replicate 32 (0 : UInt8))]) (ss' := [bv (decP s 0)]) hM rfl
  refine c_loop (fun (i : Nat) a w' => i ≤ 32 ∧ okP s i ∧ Env a 39 [(0, .string (str s)), (2, .pointer (some ⟨b2, 0, none⟩)), (3, .bool false), (7, .int .i64 ((i : Nat) : Int))] ∧ Mem w [] w' [blk b2 [bv (decP s i)] [32] 35, tabQ, errS]) (fun i => 32 - i) 0 ⟨Nat.zero_le _, okP_zero, hE.sel [0, 2, 3, 7] rfl, hM⟩ ?_
  clear hE hM a; rintro i a w2 ⟨hi, hpre, hE, hM⟩
  refine wp_seq_k (fun K4 hK4 => ?_)
  refine wp_plain [true] rfl rfl ?_
  refine s_bin hE rfl rfl bin_lss rfl ?_; clear hE a; intro a hE
  refine q_nil ?_
  refine hK4 _ _ ?_
  refine wp_seq_k (fun K5 hK5 => ?_)
  refine hE.split 8 rfl (fun hb8 hE' => ?_) (fun hb8 hE' => ?_)
  · replace hE := hE'; clear hE'
    replace hb8 := of_decide_eq_true hb8
    replace hb8 : i < 32 := by omega
    replace hb8 : i < 32 := by omega
    have hpv := puV_lt (s.getD (2 * i) 0) (s.getD (2 * i + 1) 0)
    refine wp_cond_true (hE.eval rfl) ?_
    refine wp_skip ?_
    refine hK5 _ _ ?_
    refine wp_seq_k (fun K6 hK6 => ?_)
    refine wp_block ?_
    refine wp_seq_k (fun K7 hK7 => ?_)
    refine wp_plain [true, true] rfl rfl ?_
    refine s_move hE rfl rfl ?_; clear hE a; intro a hE
    refine s_assign hE rfl rfl ?_; clear hE a; intro a hE
    refine q_nil ?_
    replace hE : Env a 39 [(0, _), (2, _), (3, _), (4, _), (7, _), (8, _)] := hE.sel [0, 2, 3, 4, 7, 8] rfl
    refine hK7 _ _ ?_
    refine wp_seq_k (fun K8 hK8 => ?_)
    refine wp_seq_k (fun K9 hK9 => ?_)
    refine wp_plain [true, true, true] rfl rfl ?_
    refine s_move hE rfl rfl ?_; clear hE a; intro a hE
    refine s_len_str hE rfl Tryd.underlying9 rfl ?_; clear hE a; intro a hE
    replace hE := hE.cast 11 rfl (show _ = Value.int .i64 ((s.length : Nat) : Int) from (congrArg (fun n : Nat => Value.int .i64 (n : Int)) (by first | rfl | (simp [*]; done) | (simp; omega) | (simp [*]; omega))))
    refine s_bin hE rfl rfl bin_neq rfl ?_; clear hE a; intro a hE
    refine q_nil ?_
    replace hE : Env a 39 [(0, _), (2, _), (3, _), (4, _), (7, _), (8, _), (12, _)] := hE.sel [0, 2, 3, 4, 7, 8, 12] rfl
    refine hK9 _ _ ?_
    replace hE := hE.cast 12 rfl (show _ = Value.bool false from (congrArg Value.bool (by simp [hs64])))
    refine wp_cond_false (hE.eval rfl) ?_
    refine wp_skip ?_
    refine hK8 _ _ ?_
    refine wp_seq_k (fun K10 hK10 => ?_)
    refine wp_plain [true, true, true, true, true, true, true, false, true, true, true, true, true] rfl rfl ?_
    refine s_move hE rfl rfl ?_; clear hE a; intro a hE
    refine s_move hE rfl rfl ?_; clear hE a; intro a hE
    refine s_bin hE rfl rfl (show Bin _ _ _ _ _ (.int .i64 ((2 * i : Nat) : Int)) from bin_mul (by rw [wrap_i64 (by omega) (by omega)]; omega)) rfl ?_; clear hE a; intro a hE
    refine s_move hE rfl rfl ?_; clear hE a; intro a hE
    refine s_bin hE rfl rfl (show Bin _ _ _ _ _ (.int .i64 ((2 * i : Nat) : Int)) from bin_mul (by rw [wrap_i64 (by omega) (by omega)]; omega)) rfl ?_; clear hE a; intro a hE
    refine s_bin hE rfl rfl (show Bin _ _ _ _ _ (.int .i64 (((2 * i) + 2 : Nat) : Int)) from bin_add (by rw [wrap_i64 (by omega) (by omega)]; omega)) rfl ?_; clear hE a; intro a hE
    refine s_sliceStr (s := str s) (l := 2 * i) (h := 2 * i + 2) hE rfl Tryd.underlying9 ⟨_, rfl⟩ ⟨_, rfl⟩ (by omega) (by rw [str_size]; omega) rfl ?_; clear hE a; intro a hE
    replace hE := hE.cast 21 rfl (show _ = Value.string (str [s.getD (2 * i) 0, s.getD (2 * i + 1) 0]) from congrArg Value.string (by rw [str_extract, pair_mid (by omega)]))
    refine s_call hE rfl Tryd.call46 (pu_c (s.getD (2 * i) 0) (s.getD (2 * i + 1) 0) _ (hM.get 2 rfl)) rfl ?_
    rintro e w3 ⟨x22, rfl, hI, hN⟩
    refine ⟨_, rfl, trivial, ?_⟩; clear hE a; intro a hE
    replace hM : Mem _ _ w3 [_, _, _] := hM.call0 hN trivial; clear hN
    refine s_move hE rfl rfl ?_; clear hE a; intro a hE
    refine s_extract hE rfl rfl rfl ?_; clear hE a; intro a hE
    refine s_extract hE rfl rfl rfl ?_; clear hE a; intro a hE
    refine s_assign hE rfl rfl ?_; clear hE a; intro a hE
    refine s_assign hE rfl rfl ?_; clear hE a; intro a hE
    refine q_nil ?_
    replace hE : Env a 39 [(0, _), (2, _), (3, _), (4, _), (5, _), (6, _), (7, _), (8, _), (12, _)] := hE.sel [0, 2, 3, 4, 5, 6, 7, 8, 12] rfl
    refine hK10 _ _ ?_
    refine wp_seq_k (fun K11 hK11 => ?_)
    refine wp_plain [true, true, true, true, false] rfl rfl ?_
    refine s_move hE rfl rfl ?_; clear hE a; intro a hE
    refine s_move hE rfl rfl ?_; clear hE a; intro a hE
    refine s_conv hE rfl (cnv_int Tryd.underlying69 Tryd.underlying5 (wrap_u8_ofNat (puV (s.getD (2 * i) 0) (s.getD (2 * i + 1) 0)))) rfl ?_; clear hE a; intro a hE
    refine s_indexArr (j := i) hE rfl rfl arr35 (by first | rfl | omega) (by first | omega | decide) rfl ?_; clear hE a; intro a hE
    refine s_storeIdx (j := i) hE rfl (by omega) rfl hM rfl rfl sz5 (by have hl_ : (decP s i).length = 32 := (decP_len ..); first | omega | (rw [bv_length]; omega) | (simp; omega)) (by intro X h; cases h) ?_; intro w4 hM'; clear hM; have hM := hM'; clear hM'
    first | rw [bv_set'] at hM | rw [bv_setI] at hM
    refine q_nil ?_
    replace hE : Env a 39 [(0, _), (2, _), (3, _), (4, _), (5, _), (6, _), (7, _), (8, _), (12, _)] := hE.sel [0, 2, 3, 4, 5, 6, 7, 8, 12] rfl
    refine hK11 _ _ ?_
    refine wp_seq_k (fun K12 hK12 => ?_)
    refine wp_plain [true, true] rfl rfl ?_
    refine s_move hE rfl rfl ?_; clear hE a; intro a hE
    refine s_neNil hE rfl hI Tryd.underlying71 rfl ?_; clear hE a; intro a hE
    refine q_nil ?_
    replace hE : Env a 39 [(0, _), (2, _), (3, _), (4, _), (5, _), (6, _), (7, _), (8, _), (12, _), (30, _)] := hE.sel [0, 2, 3, 4, 5, 6, 7, 8, 12, 30] rfl
    refine hK12 _ _ ?_
    refine hE.split 30 rfl (fun hb30 hE' => ?_) (fun hb30 hE' => ?_)
    · replace hE := hE'; clear hE'
      replace hb30 := not_true hb30
      have hno : ¬ okP s 32 := fun hk => by have := hk i (by omega); rw [hb30] at this; cases this
      refine wp_cond_true (hE.eval rfl) ?_
      refine wp_seq_k (fun K13 hK13 => ?_)
      refine wp_plain [true, false, true] rfl rfl ?_
      refine s_build (r := .agg (bv (List.replicate 32 (0 : UInt8))).toArray) _ hE rfl (fun w => by kernel_rfl) rfl ?_; clear hE a; intro a hE
      refine s_storeSeg 0 hE rfl rfl hM rfl sz35 ((bv_length _).trans (by first | (simp; done) | (simp [*]; done) | (simp; omega))) (bv_one _) rfl ((bv_length _).trans ((List.length_set ..).trans (decP_len ..))) rfl (by intro X h; cases h) ?_; intro w5 hM'; clear hM; have hM := hM'; clear hM'
      simp only [List.set_cons_zero, List.set_cons_succ] at hM
      refine s_assign hE rfl rfl ?_; clear hE a; intro a hE
      refine q_nil ?_
      replace hE : Env a 39 [(0, _), (2, _), (3, _), (4, _), (5, _), (6, _), (7, _), (8, _), (12, _), (30, _)] := hE.sel [0, 2, 3, 4, 5, 6, 7, 8, 12, 30] rfl
      refine hK13 _ _ ?_
      refine wp_ret ?_
      refine q_block_r ?_
      refine q_then_r ?_
      refine q_then_r ?_
      refine q_block_r ?_
      refine q_then_r ?_
      refine f_ret2 hE rfl (res_cellN rfl (hM.get 0 rfl) row35 rfl) rfl ?_
      exact ⟨(congrArg (fun q : List UInt8 × Bool => Ending.returned (.tuple #[.agg (bv q.1).toArray, .bool q.2])) (ofT_no1 hno).symm), hM.pick [] rfl⟩
    · replace hE := hE'; clear hE'
      replace hb30 := not_false' hb30
      refine wp_cond_false (hE.eval rfl) ?_
      refine wp_skip ?_
      refine q_block_n ?_
      refine hK6 _ _ ?_
      refine wp_plain [true, true] rfl rfl ?_
      refine s_bin hE rfl rfl (show Bin _ _ _ _ _ (.int .i64 ((i + 1 : Nat) : Int)) from bin_add (by rw [wrap_i64 (by omega) (by omega)]; omega)) rfl ?_; clear hE a; intro a hE
      refine s_move hE rfl rfl ?_; clear hE a; intro a hE
      refine q_nil ?_
      replace hE : Env a 39 [(0, _), (2, _), (3, _), (4, _), (5, _), (6, _), (7, _), (8, _), (12, _), (30, _)] := hE.sel [0, 2, 3, 4, 5, 6, 7, 8, 12, 30] rfl
      replace hE := hE.cast 7 rfl (show _ = Value.int .i64 (((i + 1) : Nat) : Int) from (congrArg _ (by omega)))
      replace hM := Mem.blkEq (ss := [bv ((decP s i).set i (UInt8.ofNat (puV (s.getD (2 * i) 0) (s.getD (2 * i + 1) 0))))]) (ss' := [bv (decP s (i + 1))]) hM rfl
      replace hM : Mem _ _ w4 [_, _, _] := hM.pick [0, 1, 2] rfl
      exact ⟨i + 1, ⟨by omega, (okP_succ hpre (by simpa using hb30)), hE.sel [0, 2, 3, 7] rfl, hM⟩, by omega⟩
  · replace hE := hE'; clear hE'
    replace hb8 := of_decide_eq_false hb8
    replace hb8 : ¬ (i < 32) := by omega
    obtain rfl : 32 = i := by omega
    refine wp_cond_false (hE.eval rfl) ?_
    refine wp_exit ?_
    refine q_then_e ?_
    refine q_then_e ?_
    refine q_block_x ?_
    refine hK2 _ _ ?_
    refine wp_seq_k (fun K6 hK6 => ?_)
    refine wp_seq_k (fun K7 hK7 => ?_)
    refine wp_plain [true, false, true, true] rfl rfl ?_
    refine s_loadN hE rfl (hM.get 0 rfl) row35 rfl (by intro X h; cases h) rfl ?_; clear hE a; intro a hE
    refine s_call hE rfl Tryd.call27 (text_c (decP s 32) _ (hM.get 1 rfl) (decP_len ..)) rfl ?_
    rintro e w3 ⟨rfl, hN⟩
    refine ⟨_, rfl, trivial, ?_⟩; clear hE a; intro a hE
    replace hM : Mem _ _ w3 [_, _, _] := hM.call0 hN trivial; clear hN
    refine s_move hE rfl rfl ?_; clear hE a; intro a hE
    refine s_bin hE rfl rfl bins_str.2 rfl ?_; clear hE a; intro a hE
    refine q_nil ?_
    replace hE : Env a 39 [(0, _), (2, _), (3, _), (7, _), (8, _), (36, _)] := hE.sel [0, 2, 3, 7, 8, 36] rfl
    refine hK7 _ _ ?_
    refine hE.split 36 rfl (fun hb36 hE' => ?_) (fun hb36 hE' => ?_)
    · replace hE := hE'; clear hE'
      replace hb36 := of_decide_eq_false (not_true hb36)
      replace hb36 : ¬ hexL (decP s 32) = s := fun h => hb36 (congrArg (fun l => (str l).data.toList) h)
      refine wp_cond_true (hE.eval rfl) ?_
      refine wp_seq_k (fun K8 hK8 => ?_)
      refine wp_plain [true, false, true] rfl rfl ?_
      refine s_build (r := .agg (bv (List.replicate 32 (0 : UInt8))).toArray) _ hE rfl (fun w => by kernel_rfl) rfl ?_; clear hE a; intro a hE
      refine s_storeSeg 0 hE rfl rfl hM rfl sz35 ((bv_length _).trans (by first | (simp; done) | (simp [*]; done) | (simp; omega))) (bv_one _) rfl ((bv_length _).trans (decP_len ..)) rfl (by intro X h; cases h) ?_; intro w4 hM'; clear hM; have hM := hM'; clear hM'
      simp only [List.set_cons_zero, List.set_cons_succ] at hM
      refine s_assign hE rfl rfl ?_; clear hE a; intro a hE
      refine q_nil ?_
      replace hE : Env a 39 [(0, _), (2, _), (3, _), (7, _), (8, _), (36, _)] := hE.sel [0, 2, 3, 7, 8, 36] rfl
      refine hK8 _ _ ?_
      refine wp_ret ?_
      refine q_then_r ?_
      refine f_ret2 hE rfl (res_cellN rfl (hM.get 0 rfl) row35 rfl) rfl ?_
      exact ⟨(congrArg (fun q : List UInt8 × Bool => Ending.returned (.tuple #[.agg (bv q.1).toArray, .bool q.2])) (ofT_no2 hb36).symm), hM.pick [] rfl⟩
    · replace hE := hE'; clear hE'
      replace hb36 := of_decide_eq_true (not_false' hb36)
      replace hb36 : hexL (decP s 32) = s := (str_list (hexL (decP s 32))).symm.trans (hb36.trans (str_list s))
      refine wp_cond_false (hE.eval rfl) ?_
      refine wp_skip ?_
      refine hK6 _ _ ?_
      refine wp_seq_k (fun K8 hK8 => ?_)
      refine wp_plain [true, false, true] rfl rfl ?_
      refine s_loadN hE rfl (hM.get 0 rfl) row35 rfl (by intro X h; cases h) rfl ?_; clear hE a; intro a hE
      refine s_storeSeg 0 hE rfl rfl hM rfl sz35 ((bv_length _).trans (decP_len ..)) (bv_one _) rfl ((bv_length _).trans (decP_len ..)) rfl (by intro X h; cases h) ?_; intro w4 hM'; clear hM; have hM := hM'; clear hM'
      simp only [List.set_cons_zero, List.set_cons_succ] at hM
      refine s_assign hE rfl rfl ?_; clear hE a; intro a hE
      refine q_nil ?_
      replace hE : Env a 39 [(0, _), (2, _), (3, _), (7, _), (8, _), (36, _)] := hE.sel [0, 2, 3, 7, 8, 36] rfl
      refine hK8 _ _ ?_
      refine wp_ret ?_
      refine f_ret2 hE rfl (res_cellN rfl (hM.get 0 rfl) row35 rfl) rfl ?_
      exact ⟨(by have e := ofT_yes hs64 hpre hb36; first | (rw [e]; done) | (rw [e]; generalize decP s 32 = D; rfl)), hM.pick [] rfl⟩
theorem of_short (s : List UInt8) (w : World) (hQ : tabQ.holds w) (hS : errS.holds w) (hs64 : ¬ s.length = 64) : Calls Tryd.prog 25 #[.string (str s)] w fun e w' => e = .returned (.tuple #[.agg (bv ((ofT s).1)).toArray, .bool ((ofT s).2)]) ∧ Mem w [] w' [] := by
  have hM : Mem w [] w [tabQ, errS] := Mem.startR w (fun g hg => by
    simp only [List.mem_cons, List.not_mem_nil, or_false] at hg
    rcases hg with rfl | rfl
    · exact ⟨hQ, rfl⟩
    · exact ⟨hS, rfl⟩)
  refine f_enter 39 Tryd.func25 rfl rfl rfl ?_
  intro a hE
  replace hE : Env a 39 [(0, _)] := hE
  refine wp_seq_k (fun K1 hK1 => ?_)
  refine wp_plain [false, true] rfl rfl ?_
  refine s_alloc [32] hE hM zero35 rfl rfl ?_; clear hE a; intro a b2 w1 hE hM'
  clear hM; have hM := hM'; clear hM'
  refine s_assign hE rfl rfl ?_; clear hE a; intro a hE
  refine q_nil ?_
  refine hK1 _ _ ?_
  refine wp_seq_k (fun K2 hK2 => ?_)
  refine wp_seq_k (fun K3 hK3 => ?_)
  refine wp_plain [true] rfl rfl ?_
  refine s_move hE rfl rfl ?_; clear hE a; intro a hE
  refine q_nil ?_
  refine hK3 _ _ ?_
  refine wp_block ?_
  refine wp_loop_rounds 2 (c_rounds ?_)
  refine wp_seq_k (fun K4 hK4 => ?_)
  refine wp_plain [true] rfl rfl ?_
  refine s_bin hE rfl rfl bin_lss rfl ?_; clear hE a; intro a hE
  replace hE := hE.cast 8 rfl (show _ = Value.bool true from (congrArg Value.bool (by decide)))
  refine q_nil ?_
  refine hK4 _ _ ?_
  refine wp_seq_k (fun K5 hK5 => ?_)
  refine wp_cond_true (hE.eval rfl) ?_
  refine wp_skip ?_
  refine hK5 _ _ ?_
  refine wp_seq_k (fun K6 hK6 => ?_)
  refine wp_block ?_
  refine wp_seq_k (fun K7 hK7 => ?_)
  refine wp_plain [true, true] rfl rfl ?_
  refine s_move hE rfl rfl ?_; clear hE a; intro a hE
  refine s_assign hE rfl rfl ?_; clear hE a; intro a hE
  refine q_nil ?_
  replace hE : Env a 39 [(0, _), (2, _), (3, _), (4, _), (7, _), (8, _)] := hE.sel [0, 2, 3, 4, 7, 8] rfl
  refine hK7 _ _ ?_
  refine wp_seq_k (fun K8 hK8 => ?_)
  refine wp_seq_k (fun K9 hK9 => ?_)
  refine wp_plain [true, true, true] rfl rfl ?_
  refine s_move hE rfl rfl ?_; clear hE a; intro a hE
  refine s_len_str hE rfl Tryd.underlying9 rfl ?_; clear hE a; intro a hE
  replace hE := hE.cast 11 rfl (show _ = Value.int .i64 ((s.length : Nat) : Int) from (congrArg (fun n : Nat => Value.int .i64 (n : Int)) (by first | rfl | (simp [*]; done) | (simp; omega) | (simp [*]; omega))))
  refine s_bin hE rfl rfl bin_neq rfl ?_; clear hE a; intro a hE
  refine q_nil ?_
  replace hE : Env a 39 [(0, _), (2, _), (3, _), (4, _), (7, _), (8, _), (12, _)] := hE.sel [0, 2, 3, 4, 7, 8, 12] rfl
  refine hK9 _ _ ?_
  replace hE := hE.cast 12 rfl (show _ = Value.bool true from (congrArg Value.bool (by simp; omega)))
  refine wp_cond_true (hE.eval rfl) ?_
  refine wp_seq_k (fun K10 hK10 => ?_)
  refine wp_plain [true, false, true] rfl rfl ?_
  refine s_loadN hE rfl (hM.get 0 rfl) row35 rfl (by intro X h; cases h) rfl ?_; clear hE a; intro a hE
  refine s_storeSeg 0 hE rfl rfl hM rfl sz35 ((bv_length _).trans (by first | (simp; done) | (simp [*]; done) | (simp; omega))) (bv_one _) rfl ((bv_length _).trans (by first | (simp; done) | (simp [*]; done) | (simp; omega))) rfl (by intro X h; cases h) ?_; intro w2 hM'; clear hM; have hM := hM'; clear hM'
  simp only [List.set_cons_zero, List.set_cons_succ] at hM
  refine s_assign hE rfl rfl ?_; clear hE a; intro a hE
  refine q_nil ?_
  replace hE : Env a 39 [(0, _), (2, _), (3, _), (4, _), (7, _), (8, _), (12, _)] := hE.sel [0, 2, 3, 4, 7, 8, 12] rfl
  refine hK10 _ _ ?_
  refine wp_ret ?_
  refine q_then_r ?_
  refine q_block_r ?_
  refine q_then_r ?_
  refine q_then_r ?_
  refine q_block_r ?_
  refine q_then_r ?_
  refine f_ret2 hE rfl (res_cellN rfl (hM.get 0 rfl) row35 rfl) rfl ?_
  exact ⟨(congrArg (fun q : List UInt8 × Bool => Ending.returned (.tuple #[.agg (bv q.1).toArray, .bool q.2])) (ofT_no0 hs64).symm), hM.pick [] rfl⟩
theorem of_c (s : List UInt8) (w : World) (hQ : tabQ.holds w) (hS : errS.holds w) : Calls Tryd.prog 25 #[.string (str s)] w fun e w' => e = .returned (.tuple #[.agg (bv (ofT s).1).toArray, .bool (ofT s).2]) ∧ Mem w [] w' [] := by
  by_cases h : s.length = 64
  · exact of_long s w hQ hS h
  · exact of_short s w hQ hS h
end Go.Proofs.YtbjdbiljkkfklaaDoor
